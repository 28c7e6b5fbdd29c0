import Derived.Test.YtdooodokcphomaaGreatXWA
set_option linter.unusedVariables false
set_option linter.unusedSimpArgs false
set_option linter.unusedSectionVars false
set_option linter.constructorNameAsVariable false
set_option linter.unnecessarySimpa false
set_option linter.defProp false
noncomputable section
namespace Go.Gv
variable{t:TypeId}
section
variable {P:Program} {T:TT} {n:Nat} {B:Bl} {e:SE} {a:Act} {o:Oper} {w w':World} {x y:Operand} {c:Ctx} {L:an}
theorem aGL{ops:bj}(h:HM ops e o.guard=.yes):Want ops o (vE B e) true:=by
 unfold HM at h;split at h
 .exact a0L (by assumption)
 .rename_i j w k;split at h
  .rename_i q f;split at h
   .rename_i s d;have i:(ops[j]?).bind (·.dst)=some s:=by rw[<-Array.getElem?_toList,f];exact d
    split at h
    .rename_i c g;have b:lk (vE B e) s=some (.bool c):=by rw[aP9 g];rfl
     refine a6F k i b ?_;split at h<;>first|rfl|cases h
    all_goals cases h
   .cases h
  .cases h
theorem bJL{ops:bj}(h:HM ops e o.guard=.no):Want ops o (vE B e) false:=by
 unfold HM at h;split at h
 .cases h
 .rename_i j w f;split at h
  .rename_i q k;split at h
   .rename_i s i;have d:(ops[j]?).bind (·.dst)=some s:=by rw[<-Array.getElem?_toList,k];exact i
    split at h
    .rename_i c b;have g:lk (vE B e) s=some (.bool c):=by rw[aP9 b];rfl
     refine a6F f d g ?_;cases c<;>cases w<;>first|rfl|cases h
    .rename_i b;exact bGM f d (by rw[aP9 b];rfl)
    all_goals cases h
   .cases h
  .cases h
theorem aQD{m:Nat}:∀{L:an},XH m L=true->∃i cs,L[i]?=some (.box m cs)/\MS m L=some cs/\∀d,wW m d L=L.set i (.box m d)
 |[],h=>by cases h
 |x::L,h=>by
  have j:XH m L=true->MS m (x::L)=MS m L->(∀d,wW m d (x::L)=x::wW m d L)->∃i cs,(x::L)[i]?=some (.box m cs)/\MS m (x::L)=some cs/\∀d,wW m d (x::L)=(x::L).set i (.box m d):=λh p r=>by obtain⟨i,cs,t,q,s⟩:=aQD h;exact⟨i+1,cs,aj,by rw[p,q],λd=>aj⟩
  cases x with
  |box k cs=>
   simp only[XH] at h;split at h
   .rename_i l;have:=rR l;subst this;exact⟨0,cs,rfl,by grind[MS],λd=>by grind[wW]⟩
   grind[MS,wW]
  |ro k cs=>
   grind[XH,MS,wW]
  |o u=>exact j h rfl (λ_=>rfl)
  |f g=>exact j h rfl (λ_=>rfl)
  |no=>exact j h rfl (λ_=>rfl)
  |w k b z=>exact j h rfl (λ_=>rfl)
theorem aWC(hT:I3 P T)(K:iW n B e a)(J:nZ c w B L){p v:SV}{L':an}(ho:o.op=.store t x y)(hx:jS e x=some p)(hy:jS e y=some v)(h:Y8 T t p v L=some L'):∃w',bM5 P o (vE B e) w w'/\nZ c w' B L':=by
 unfold Y8 at h;split at h
 .rename_i m j;split at h
  .rename_i hb;split at h
   .rename_i cs _ _ sz _ O h2;split at h
    .rename_i h3 N M;split at h
     case h_2=>cases h
     rename_i ds C;have N:=rR N;have M:=XC M;have:=Y9 C;rw[aQA _ _ _ aa] at this;subst this;split at h
     case h_2=>cases h
     rename_i L2 D;cases h;have:=Y9 D;subst this;obtain⟨i,cs',U,S,Q⟩:=aQD hb;rw[O] at S;cases S;obtain⟨pv,g,s⟩:=fL K hx;obtain⟨u,f,r⟩:=fL K hy;obtain⟨vs,l⟩:=aGK h3 f;obtain⟨b,z,E,I,H,_⟩:=J.cells O;simp only[gT,gV,cA,I] at g;cases g;have hl:=m0 l;have Z:=m0 H;obtain⟨⟨R,s1,s2⟩,s0⟩:=J;have Y:=(I8.1 U).1;have gi:(L.map (lS B))[i]?=some (XM B m cs):=by rw[D0,U];rfl
     have s3:St c w ((L.map (lS B)).set i (cAt b z E)) R:=s1.imp (kW.put i gi λF ⟨b',z',V,q1,q2,q3⟩=>by
      grind)
     obtain⟨w2,r1,G⟩:=bM8 (P:=P) (o:=o) (e:=vE B e) (b:=b) (q:=z) (cs:=E) (vs:=vs) (j:=j) (m:=sz) s3 (i:=i) aj ho s r (XN f l) (hT.size _ _ h2) aa (Nat.ble_eq_true_of_le aa) (aT4.2 λq d=>by
      obtain⟨k,hk⟩:=aLY d;have A:k<(qP v).length:=aj
      obtain⟨q',X,W⟩:=XI l (mA A);grind[aP8])
     refine⟨w2,r1,⟨⟨R,?_,?_⟩,s0⟩⟩
     .rw[O2] at G;rw[Q,MR];exact G.imp (kW.set i (kW.refl _) λF hF=>⟨b,z,_,I,aHP j H l,hF⟩)
     .rw[Q];intro q d;obtain d|d:=nM d
      .grind
      .subst d;trivial
    .cases h
   .cases h
  .cases h
 .cases h
theorem nZ.box(i:nZ c w B L){w':World}{b:Nat}{cs:aq}{vs:ao}(g:bE (cA B) cs=some vs)(h:∀M R,St c w M R->St c w' (M++[bGL b vs]) R):nZ c w' (B++[(b,0)]) (L++[.box B.length cs]):=by
 obtain⟨⟨R,f,k⟩,s0⟩:=i;refine⟨⟨R,?_,?_⟩,s0⟩
 .rw[D1];refine(h _ _ f).imp (kW.append (aEH _ L) (.cons (λF j=>⟨b,0,vs,ae,gH (λ_ _=>iI _) g,j⟩) .nil))
 .intro q d;obtain d|d:=j4.1 d
  .grind[aXK]
  .simp at d;subst d;trivial
theorem bCD(hT:I3 P T)(g:nZ c w B L){i:TI}{E:Env}(l:o.op=.alloc t)(h:AY T t=some i):∃v w' b,gD P o E w v w'/\v=.pointer (some ⟨b,0,none⟩)/\nZ c w' (B++[(b,0)]) (L++[.box B.length i.z]):=by obtain⟨z,k,f⟩:=hT.zero _ _ h;have d:bE (cA B) i.z=some z.cells.toList:=gH (λx v h=>by simpa using iI (B:=[]) B h) f;refine⟨_,_,w.heap.size,λ_ a m=>?_,rfl,g.box d λM R j=>j.alloc z.cells.toList t⟩;simp_all[execOp,Instr.alloc,newVar,newRow]
theorem bK7(d:iW n B e a)(k:nZ c w B L){v:SV}(i:o.op=.box t x)(h:jS e x=some v)(j:isCells v=true):∃u w' b,gD P o (vE B e) w u w'/\u=.pointer (some ⟨b,0,none⟩)/\nZ c w' (B++[(b,0)]) (L++[.box B.length (qP v)]):=by obtain⟨u,g,p⟩:=fL d h;obtain⟨vs,f⟩:=aGK j g;have m:=XN g f;subst m;refine⟨_,_,w.heap.size,λ_ a d=>?_,rfl,k.box f λM R l=>l.alloc u.cells.toList t⟩;simp[execOp,i,Instr.box,d.eval p,newVar,newRow]
end
structure Gx where
 P:Program
 T:TT
 hT:I3 P T
 n:Nat
 c:Ctx
 B0:Bl
 N:Act->World->Prop
 X:Nat->Act->World->Prop
 Q:Act->World->Prop
abbrev Rel(g:Gx)(m:Nat)(e:SE)(L:an)(a:Act)(w:World):Prop:=rU g.n g.c g.B0 m e L a w
mutual
def NK(g:Gx):a8->Act->World->Prop
 |[]=>g.N
 |.s y::K=>λa w=>CW g.P y (NK g K) (XK g K) g.Q a w
 |.k _::K=>NK g K
def XK(g:Gx):a8->Nat->Act->World->Prop
 |[]=>g.X
 |.s _::K=>XK g K
 |.k id::K=>aV5 id (NK g K) (XK g K)
end
structure aJ9 (g:Gx) (B1:Bl) (ops:bj) (l:az) (is:ar) (Lf L:an):Prop where
 pre:∃B,B1=g.B0++B
 len:l.length=ops.size
 free:a0R ops=true
 AV:kl L is=Lf
 rng:∀j∈is,j<L.length
 okf:okL B1.length Lf=true
 ap:eA is=true
abbrev Sd(g:Gx)(B1:Bl)(Lf:an):World->Prop:=λw=>nZ g.c w B1 Lf
def bND(g:Gx)(B1:Bl)(Lf Lv:an)(m:Nat)(e:SE)(L:an)(a:Act)(w:World):Prop:=∃B,(B1++B).length=m/\iW g.n (B1++B) e a/\nZ g.c w (B1++B) L/\∀w',nZ g.c w' B1 Lf->nZ g.c w' (B1++B) Lv
def G(g:Gx)(K:a8)(m:Nat)(e:SE)(L:an):wJ->Prop
 |.n=>∀a w,Rel g m e L a w->NK g K a w
 |.c x=>∀a w,Rel g m e L a w->CW g.P x (NK g K) (XK g K) g.Q a w
 |.r ops l=>∀a w,Rel g m e L a w->wpList g.P ops (mkQ (NK g K) (XK g K) g.Q) l a w
 |.d B1 ops l is Lf Lv=>aJ9 g B1 ops l is Lf L->∀a w,bND g B1 Lf Lv m e L a w->wpAnyH g.P .any ops (mkQ (NK g K) (XK g K) g.Q) (Sd g B1 Lf) (l.count false) l.toArray a w
 |.o B1 ops l is Lf Lv i=>aJ9 g B1 ops l is Lf L->∀a w,bND g B1 Lf Lv m e L a w->wpOp g.P ops (mkQ (NK g K) (XK g K) g.Q) i (λb w'=>Sd g B1 Lf w'/\wpAnyH g.P .any ops (mkQ (NK g K) (XK g K) g.Q) (Sd g B1 Lf) ((l.set i true).count false) (l.set i true).toArray b w') a w
def B0S(g:Gx):wJ->Bl
 |.d B1 _ _ _ _ _=>B1
 |.o B1 _ _ _ _ _ _=>B1
 |_=>g.B0
def Frz(g:Gx)(cf:wJ)(L L':an):Prop:=match cf with
 |.d B1 ops l is Lf _=>aJ9 g B1 ops l is Lf L->kl L' is=Lf/\∀j∈is,j<L'.length
 |.o B1 ops l is Lf _ _=>aJ9 g B1 ops l is Lf L->kl L' is=Lf/\∀j∈is,j<L'.length
 |_=>True
def aHT(g:Gx)(K:a8)(m:Nat)(e:SE)(L:an)(o:Oper)(Lv:an)(cf cf':wJ):Prop:=
 ∀(d:Nat) (x:SV) (b:an) (nb:World->Bl) (k:Nat),o.dst=some d->(∀w,(nb w).length=k) ->
  (∀B a w,iW g.n B e a->nZ g.c w B Lv->B.length=m->∃v,gT (B++nb g.c.w0) x=some v/\gD g.P o (vE B e) w v w) ->
  (∀B w L,B.length=m->nZ g.c w B L->nZ g.c w (B++nb g.c.w0) (L++b)) ->
  G g K (m+k) ((d,x)::e) (L++b) (cf'.ext b)->G g K m e L cf
def aL7(g:Gx)(K:a8)(m:Nat)(e:SE)(L:an)(o:Oper)(cf cf':wJ):Prop:=
 ∀(ι:Type) (m':ι->Nat) (c:ι->SE) (b:ι->an),(∀i,Frz g cf L (b i)) ->
  (∀B a w (next:Act->World->Prop) (Q:Exit->Act->World->Prop),(B0S g cf++B).length=m->iW g.n (B0S g cf++B) e a->nZ g.c w (B0S g cf++B) L->(∀i d w',rU g.n g.c (B0S g cf++B) (m' i) (c i) (b i) d w'->next d w')->o.wp g.P a w next Q) ->
  (∀i,G g K (m' i) (c i) (b i) cf')->G g K m e L cf
def Gs(g:Gx):Stop->Prop
 |.ret m e L=>∀a w,Rel g m e L a w->g.Q a w
 |.fin m e L=>∀a w,Rel g m e L a w->g.N a w
 |.ex id m e L=>∀a w,Rel g m e L a w->g.X id a w
 |.cond o b x y K m e L=>jS e o=some (.b b)->G g K m e L (.c (.cond o x y))
 |.case _ cf K m e L=>G g K m e L cf
 |.loop id y K m e L=>G g K m e L (.c (.block id (.loop y)))
 |.idx o d t s n i Lv cf cf' K m e L=>(∀x y,o.op=.indexAddr t x y->o.dst=some d->jS e x=some (.h s n)->jS e y=some (.i .i64 i)->aHT g K m e L o Lv cf cf'->G g K m e L cf)
 |.call o d f xs cf cf' K m e L=>(∀j args c,o.op=.call {callee:=.value j,args:=args,argTypes:=c}->o.dst=d->jS e j=some (.f f [])->(∃h,bE (jS e) args.toList=some h/\nbA h=xs)->okA xs=true->tR g.n d=true->aL7 g K m e L o cf cf'->G g K m e L cf)
 |.callp o d f xs cf cf' K m e L=>(∀j args c,o.op=.call {callee:=.value j,args:=args,argTypes:=c}->o.dst=d->jS e j=some (.f f [])->(∃h,bE (jS e) args.toList=some h/\nbA h=xs)->tR g.n d=true->aL7 g K m e L o cf cf'->G g K m e L cf)
 |.op o Lv cf cf' K m e L=>tR g.n o.dst=true->aHT g K m e L o Lv cf cf'->aL7 g K m e L o cf cf'->G g K m e L cf
 |.opp o Lv cf cf' K m e L=>tR g.n o.dst=true->aHT g K m e L o Lv cf cf'->G g K m e L cf
 |.rgn id ops K m e L=>G g K m e L (.c (.region id ops true))
 |.alt cf K m e L=>G g K m e L cf
 |.stuck=>False
section
variable {g:Gx} {K:a8} {m:Nat} {e:SE} {L:an}
theorem bJM{a:Act}{w:World}:∀{K:a8},(match pop K with|some (y,b)=>CW g.P y (NK g b) (XK g b) g.Q a w|none=>g.N a w)->NK g K a w
 |[],h=>by simpa[pop,NK] using h
 |.s y::K,h=>by simpa[pop,NK] using h
 |.k _::K,h=>by have:NK g K a w:=bJM (by grind[pop]);simp_all[NK]
theorem bCE{a:Act}{w:World}{id:Nat}:∀{K:a8},(match xit id K with|some c=>NK g c a w|none=>g.X id a w)->XK g K id a w
 |[],h=>by simpa[xit,XK] using h
 |.s y::K,h=>by have:XK g K id a w:=bCE (by grind[xit]);simp_all[XK]
 |.k j::K,h=>by
  simp only[xit] at h;simp only[XK,aV5];cases b:Nat.beq id j with
  |true=>
   simp_all
  |false=>
   rw[b] at h;rw[aO (λe=>by simp_all)];exact bCE h
theorem a61{F:Nat}(i:∀K c m e L,Gs g (stp g.T g.n F K c m e L)->G g K m e L c)(h:Gs g (match pop K with|some (y,f)=>stp g.T g.n F f (.c y) m e L|none=>.fin m e L)):∀a w,Rel g m e L a w->NK g K a w:=λa w d=>by
 refine bJM ?_;split
 .rename_i y f b;rw[b] at h;exact i _ _ _ _ _ h a w d
 .rename_i b;rw[b] at h;exact h a w d
theorem iW.ext{n:Nat}{B nb:Bl}{a a':Act}{d:Nat}{x:SV}{v:Value}(h:iW n B e a)(i:gT (B++nb) x=some v)(b:PL n ((d,v)::vE B e) a'):iW n (B++nb) ((d,x)::e) a':=by
 refine(h.app nb).of i ⟨b.d,b.size,λk u c=>?_⟩;simp only[lk] at c;cases f:Nat.beq k d with
 |true=>rw[f] at c;exact b.get k u (by grind[lk])
 |false=>
  rw[f] at c;obtain⟨y,o,l⟩:=bB4 c;obtain⟨u2,j,p⟩:=h.get k y o;rw[AE nb j] at l;refine b.get k u ?_;grind[lk,aP9]
theorem bHA{ops:bj}{l:cj}{o:Oper}(j:HM ops e o.guard=.yes)(h:tR g.n o.dst=true):aHT g K m e L o L (.r ops (o::l)) (.r ops l):=by
 intro d x y nb k b u i t p a w ⟨B,hm,f,n⟩;obtain⟨v,r,q⟩:=i _ a w f n hm;rw[b] at h;refine bJE q (aGL j) b h (λs c=>p s w ⟨B++nb g.c.w0,?_,?_,?_⟩) a f.env
 .grind
 .rw[<-QX];exact f.ext r c
 grind
theorem a62{ops:bj}{l:cj}{o:Oper}(h:HM ops e o.guard=.yes):aL7 g K m e L o (.r ops (o::l)) (.r ops l):=by intro ι m' u v _ b n a w f;have ⟨B,hm,c,j⟩:=f;refine wpList_step λs k=>?_;rw[aGL h _ a c.env,aM rfl];exact b B a w s _ hm c j (λi d w' ⟨t,r,q,p⟩=>k d w' (n i d w' ⟨B++t,by rw[<-QX];exact r,by rw[<-QX];exact q,by rw[<-QX];exact p⟩))
theorem aJ9.S{B1:Bl}{ops:bj}{l:az}{is:ar}{Lf:an}(h:aJ9 g B1 ops l is Lf L){w:World}{B:Bl}(b:nZ g.c w (B1++B) L):nZ g.c w B1 Lf:=by have a:=bCC b is h.ap;rw[h.AV] at a;have c:=aHS a h.okf;grind
theorem aKA{d:Edge}:Region.binds .any d=bB0 d.ground:=by
 cases d with
 |mk on g=>cases g<;>rfl
theorem aO9{l:az}:∀{es:List Edge},V5 l es=true↔∀d∈es,Region.binds .any d=true->l[d.on]?=some true
 |[]=>by simp[V5]
 |⟨on,c⟩::r=>by
  have b:=aO9 (l:=l) (es:=r);simp only[V5,qM,forall_eq_or_imp,aKA];cases f:bB0 c with
  |true=>
   simp only;split
   .rename_i a;rw[b];simp[a,aKA]
   .rename_i a;constructor
    .intro h;cases h
    .intro h;exact absurd (h.1 trivial) (by simpa using a)
  |false=>grind[aKA]
theorem aEI{ops:bj}{l:az}(f:l.length=ops.size){j:Nat}:j∈Region.ready .any ops l.toArray↔l[j]?=some false/\∃o,ops.toList[j]?=some o/\V5 l o.after.toList=true:=by
 rw[mem_ready];have c:(l.toArray.getD j true=false)↔l[j]?=some false:=by rw[Array.getD_eq_getD_getElem?,List.getElem?_toArray];grind
 rw[c];refine and_congr_right λ_=>?_;constructor
 .rintro⟨o,i,b⟩;refine⟨o,aj,aO9.2 λd h a=>?_⟩;have:=b d aj a;rw[Array.getD_eq_getD_getElem?,List.getElem?_toArray] at this;grind
 simp_all[aO9]
theorem aKB{i:Nat}:∀{es:List Edge},aGJ i es=true↔∃d∈es,Region.binds .any d=true/\d.on=i
 |[]=>by simp[aGJ]
 |⟨on,b⟩::r=>by
  have c:=aKB (i:=i) (es:=r);simp only[aGJ,qM,exists_eq_or_imp,aKA];cases j:bB0 b with
  |true=>
   simp only;cases f:Nat.beq on i with
   |true=>simp_all
   |false=>
    simp only;have a:on≠i:=λh=>by simp_all
    grind[aKA]
  |false=>grind[aKA]
theorem bHB{ops:bj}{l:az}(u:l.length=ops.size)(b:a0R ops=true){i:Nat}{o:Oper}(s:ops.toList[i]?=some o)(r:V5 l o.after.toList=true):Region.noSelect ops=true/\Region.free .any ops l.toArray i=true:=by
 unfold a0R at b;rw[ET,aT4] at b;refine⟨b.1,?_⟩;unfold Region.free;have f:ops[i]?=some o:=aj
 rw[f];simp only[aT4,List.mem_range];intro j h;have c:ops[j]?=some ops[j]:=by simp[h]
 rw[c];simp only[Bool.or_eq_true,beq_iff_eq];by_cases q:j=i
 .omega
 .have p:=b.2 (o,i) (List.mk_mem_zipIdx_iff_getElem?.2 s);rw[aT4] at p;have a:=p (ops[j],j) (List.mk_mem_zipIdx_iff_getElem?.2 (by simp[h]));simp only[Bool.or_eq_true] at a;obtain((a|a)|a)|a:=a
  .simp_all
  .obtain⟨d,k,n,t⟩:=aKB.1 a;refine .inr (.inl ?_);rw[<-Array.any_toList,List.any_eq_true];grind
  .obtain⟨d,k,n,t⟩:=aKB.1 a;have:=aO9.1 r d k n;simp_all
  grind
theorem count_set{l:az}:∀{i:Nat},l[i]?=some false->l.count false=(l.set i true).count false+1:=aj
theorem a34{B1:Bl}{ops:bj}{l:az}{is:ar}{Lf:an}{i:Nat}{o:Oper}{d:Nat}{v:Value}{a:Act}{w:World}{B:Bl}(c:aJ9 g B1 ops l is Lf L)(n:ops.toList[i]?=some o)(s:l[i]?=some false)(r:V5 l o.after.toList=true)(b:o.dst=some d)(u:Nat.blt d g.n=true)(f:iW g.n (B1++B) e a)(y:nZ g.c w (B1++B) L)
  (x:(Want ops o (vE (B1++B) e) true/\∀w',Sd g B1 Lf w'->gD g.P o (vE (B1++B) e) w' v w')\/(Want ops o (vE (B1++B) e) false/\v=undef))
  (k:∀t,PL g.n ((d,v)::vE (B1++B) e) t->wpAnyH g.P .any ops (mkQ (NK g K) (XK g K) g.Q) (Sd g B1 Lf) ((l.set i true).count false) (l.set i true).toArray t w):wpAnyH g.P .any ops (mkQ (NK g K) (XK g K) g.Q) (Sd g B1 Lf) (l.count false) l.toArray a w:=by
 obtain⟨A,z⟩:=bHB c.len c.free n r;rw[count_set s];refine wpAnyH_take (v:=v) (by simpa using n) A z (by simpa using (aEI c.len).2 ⟨s,o,n,r⟩) (λ_ _ _ h=>h.elim) ?_ (c.S y) ?_
 .obtain⟨q,p⟩|⟨q,p⟩:=x
  .exact .inl ⟨q _ a f.env,λw' j=>p w' j _ a f.env⟩
  .exact .inr ⟨q _ a f.env,p⟩
 .rw[b];have:=k _ (f.env.put (by simp_all) v);grind
theorem aJ9.set{B1:Bl}{ops:bj}{l:az}{is:ar}{Lf L':an}(h:aJ9 g B1 ops l is Lf L)(i:Nat)(a:kl L' is=Lf/\∀j∈is,j<L'.length):aJ9 g B1 ops (l.set i true) is Lf L':=⟨h.pre,by simpa using h.len,h.free,a.1,a.2,h.okf,h.ap⟩
theorem bCF{L b:an}:∀{is:ar},(∀j∈is,j<L.length)->kl (L++b) is=kl L is
 |[],_=>rfl
 |i::is,h=>by simp only[kl,List.getElem?_append_left (h i ae),bCF (λj a=>h j (uI _ a))]
theorem aJ9.aQE{B1:Bl}{ops:bj}{l:az}{is:ar}{Lf:an}(h:aJ9 g B1 ops l is Lf L)(a:an):kl (L++a) is=Lf/\∀j∈is,j<(L++a).length:=⟨by rw[bCF h.rng];exact h.AV,λj b=>by have:=h.rng j b;simp;omega⟩
theorem bHC{B1:Bl}{ops:bj}{l:az}{is:ar}{Lf Lv:an}{i:Nat}{o:Oper}(z:ops.toList[i]?=some o)(A:l[i]?=some false)(y:V5 l o.after.toList=true)(D:HM ops e o.guard=.yes)(s:tR g.n o.dst=true):aHT g K m e L o Lv (.d B1 ops l is Lf Lv) (.d B1 ops (l.set i true) is Lf Lv):=by
 intro d x H nb k b C q r E f a w ⟨B,hm,h,p,n⟩;rw[b] at s;obtain⟨v,u,J⟩:=q _ a w h (n w (f.S p)) hm;refine a34 (v:=v) f z A y b s h p (.inl ⟨aGL D,λw' c=>?_⟩) λG j=>?_
 .obtain⟨I,t,F⟩:=q _ a w' h (n w' c) hm;rw[u] at t;cases t;exact F
 .refine E (f.set i (f.aQE H)) G w ⟨B++nb g.c.w0,?_,?_,?_,λw' c=>?_⟩
  .rw[<-QX,O0,hm,C]
  .rw[<-QX];exact h.ext u j
  .rw[<-QX];exact r _ w _ hm p
  .rw[<-QX];exact r _ w' _ hm (n w' c)
theorem a0U{l:az}{i:Nat}:∀{os:cj} {j0:Nat},aL6 l i os j0=true->∀j o,os[j]?=some o->l[j0+j]?=some false->(V5 l o.after.toList=true↔j0+j=i)
 |[],_,_,j,o,h,_=>by simp at h
 |p::os,j0,h,j,o,b,a=>by
  simp only[aL6] at h;cases j with
  |zero=>
   simp at b;subst b;simp only[aFJ] at a ⊢;rw[a] at h;simp only at h;cases d:Nat.beq j0 i with
   |true=>
    grind[rR]
   |false=>
    rw[d] at h;simp only at h;have c:j0≠i:=λh=>by simp_all
    grind
  |succ j=>
   have f:aL6 l i os (j0+1)=true:=aj
   have:=a0U f j o aj aj;grind
theorem bHD{B1:Bl}{ops:bj}{l:az}{is:ar}{Lf Lv:an}{i:Nat}{o:Oper}(D:ops.toList[i]?=some o)(v:HM ops e o.guard=.yes):aL7 g K m e L o (.o B1 ops l is Lf Lv i) (.d B1 ops (l.set i true) is Lf Lv):=by
 intro ι m' E F t b z n a w u;have ⟨B,hm,p,y,x⟩:=u;unfold wpOp;have d:ops[i]?=some o:=aj
 simp only[d,aGL v _ a p.env,aS];refine .inl (b B a w _ _ hm p y λj C w' h=>?_);have c:=n.set i (t j n);obtain⟨f,s,r,k⟩:=h;refine⟨?_,?_⟩
 .refine c.S (B:=B++f) ?_;rw[<-QX];exact k
 .have:=z j c C w' ⟨B++f,by rw[<-QX];exact s,by rw[<-QX];exact r,by rw[<-QX];exact k,λq A=>by rw[<-QX];exact(x q A).app f⟩;omega
theorem bHE{B1:Bl}{ops:bj}{l:az}{is:ar}{Lf Lv:an}{i:Nat}{o:Oper}(u:ops.toList[i]?=some o)(z:HM ops e o.guard=.yes)(r:tR g.n o.dst=true):aHT g K m e L o Lv (.o B1 ops l is Lf Lv i) (.d B1 ops (l.set i true) is Lf Lv):=by
 intro d x E nb k b y t q A f a w ⟨B,hm,c,p,s⟩;rw[b] at r;obtain⟨v,D,C⟩:=t _ a w c (s w (f.S p)) hm;unfold wpOp;have h:ops[i]?=some o:=by simpa using u
 simp only[h,aGL z _ a c.env,aS];refine .inl ?_;unfold Oper.wp;rw[C _ a c.env,Oper.upon_value,b];have n:=c.env.put (show d<g.n by simpa[tR,AA] using r) v;refine⟨f.S p,A (f.set i (f.aQE E)) _ w ⟨B++nb g.c.w0,?_,?_,?_,λw' j=>?_⟩⟩
 .rw[<-QX,O0,hm,y]
 .rw[<-QX];exact c.ext D n
 .rw[<-QX];exact q _ w _ hm p
 .rw[<-QX];exact q _ w' _ hm (s w' j)
theorem aWD{l:az}{j:Nat}:∀{os:cj} {j0:Nat} {o:Oper},os[j]?=some o->l[j0+j]?=some false->V5 l o.after.toList=true->j0+j∈AZ l os j0:=by
 intro os;induction os generalizing j with
 |nil=>simp
 |cons p os a=>
  intro j0 o h c b;cases j with
  |zero=>
   simp_all[AZ]
  |succ j=>
   have d:=a (j:=j) (j0:=j0+1) (o:=o) aj aj b;grind[AZ]
theorem bNE{B1:Bl}{ops:bj}{l:az}{is:ar}{Lf Lv:an}(d:∃i,i∈AZ l ops.toList 0)(h:∀i∈AZ l ops.toList 0,G g K m e L (.o B1 ops l is Lf Lv i))(b:∀i∈AZ l ops.toList 0,l[i]?=some false/\∃o,ops.toList[i]?=some o/\V5 l o.after.toList=true):G g K m e L (.d B1 ops l is Lf Lv):=by intro f a w s;obtain⟨n,c⟩:=d;obtain⟨k,r⟩:=b n c;have x:n∈Region.ready .any ops l.toArray:=(aEI f.len).2 ⟨k,r⟩;rw[count_set k];refine⟨λh=>aj,λj t=>?_⟩;obtain⟨z,p,v,u⟩:=(aEI f.len).1 t;have q:=aWD (j0:=0) v aj u;rw[aAQ] at q;have y:=h j q f a w s;grind
theorem aQF{l:az}{i:Nat}:∀{os:cj} {j0:Nat},i∈AZ l os j0->l[i]?=some false/\∃j o,os[j]?=some o/\j0+j=i/\V5 l o.after.toList=true:=by
 intro os;induction os with
 |nil=>intro j0 h;cases h
 |cons p os b=>
  intro j0 h;have a:i∈AZ l os (j0+1)->l[i]?=some false/\∃j o,(p::os)[j]?=some o/\j0+j=i/\V5 l o.after.toList=true:=λh=>by obtain⟨d,j,o,q,n,c⟩:=b h;exact⟨d,j+1,o,aj,aa,c⟩
  simp only[AZ] at h;split at h
  .rename_i k;split at h
   .rename_i f;obtain h|h:=qM.1 h
    .subst h;grind
    grind
   grind
  grind
theorem bCG{B1:Bl}{ops:bj}{l:az}{is:ar}{Lf Lv:an}{a:Nat}{r:ar}(c:AZ l ops.toList 0=a::r)(h:∀i∈a::r,G g K m e L (.o B1 ops l is Lf Lv i)):G g K m e L (.d B1 ops l is Lf Lv):=bNE ⟨a,aj⟩ (λi b=>h i aj) λi b=>by obtain⟨n,j,o,k,f,d⟩:=aQF b;grind
theorem bHF{l:az}{i:Nat}{ops:bj}(h:aL6 l i ops.toList 0=true):∀j∈AZ l ops.toList 0,j=i:=λj a=>by obtain⟨f,k,o,d,b,c⟩:=aQF a;rw[aAQ] at b;grind[a0U]
def PsG(g:Gx)(K:a8)(m:Nat)(L:an)(B1:Bl)(ops:bj)(is:ar)(Lf Lv:an):Ps->Prop
 |.bad=>False
 |.ask _ l e=>G g K m e L (.d B1 ops l is Lf Lv)
 |.pur j o l e=>ops.toList[j]?=some o->l[j]?=some false->V5 l o.after.toList=true->HM ops e o.guard=.yes->G g K m e L (.d B1 ops l is Lf Lv)
 |.fin l e _=>G g K m e L (.d B1 ops l is Lf Lv)
theorem aEJ{B1:Bl}{ops:bj}{is:ar}{Lf Lv:an}:∀(r:cj) (i:Nat) (l:az) (e:SE) (q:List (Nat×Oper)),(∀j,r[j]?=ops.toList[i+j]?) ->
  PsG g K m L B1 ops is Lf Lv (pass g.T g.n ops Lv r i l e q)->G g K m e L (.d B1 ops l is Lf Lv)
 |[],i,l,e,q,I,h=>by unfold pass at h;exact h
 |o::r,i,l,e,q,I,h=>by
  have J:ops.toList[i]?=some o:=by have:=I 0;grind
  have p:∀j,r[j]?=ops.toList[i+1+j]?:=λj=>by have:=I (j+1);grind
  unfold pass at h;cases n:l[i]? with
  |none=>simp only[n] at h;exact h.elim
  |some b=>
   cases b with
   |true=>simp only[n] at h;exact aEJ r (i+1) l e q p h
   |false=>
    cases f:V5 l o.after.toList with
    |false=>simp only[n,f] at h;exact aEJ r (i+1) l e q p h
    |true=>
     cases k:HM ops e o.guard with
     |bad=>simp only[n,f,k] at h;exact h.elim
     |ask c=>simp only[n,f,k] at h;exact h
     |no=>
      cases t:o.dst with
      |none=>simp only[n,f,k,t] at h;exact h.elim
      |some d=>
       cases A:Nat.blt d g.n with
       |false=>simp only[n,f,k,t,A] at h;exact h.elim
       |true=>
        simp only[n,f,k,t,A] at h;have H:=aEJ r (i+1) _ _ q p h;intro s a w ⟨B,hm,C,D,E⟩;refine a34 (v:=undef) s J n f t A C D (.inr ⟨bJL k,rfl⟩) λM y=>?_;exact H (s.set i ⟨s.AV,s.rng⟩) M w ⟨B,hm,C.of (x:=.u) rfl y,D,E⟩
     |yes=>
      cases z:ev1 g.T e Lv o.op with
      |some v=>
       cases t:o.dst with
       |none=>simp only[n,f,k,z,t] at h;exact h.elim
       |some d=>
        cases A:Nat.blt d g.n with
        |false=>simp only[n,f,k,z,t,A] at h;exact h.elim
        |true=>
         simp only[n,f,k,z,t,A] at h;have H:=aEJ r (i+1) _ _ q p h;intro s a w ⟨B,hm,C,D,E⟩;obtain⟨u,O,S⟩:=aXM g.hT C (E w (s.S D)) z;refine a34 (v:=u) s J n f t A C D (.inl ⟨aGL k,λw' F=>?_⟩) λM y=>?_
         .obtain⟨P,R,Q⟩:=aXM (w:=w') g.hT C (E w' F) z;grind
         .exact H (s.set i ⟨s.AV,s.rng⟩) M w ⟨B,hm,C.of O y,D,E⟩
      |none=>
       cases N:bJI o.op with
       |true=>simp only[n,f,k,z,N] at h;exact h J n f k
       |false=>
        simp only[n,f,k,z,N] at h;exact aEJ r (i+1) l e ((i,o)::q) p h
theorem a63:∀{l:az} {i:Nat},bG5 l=true->l[i]?≠some false
 |[],i,_=>ae
 |b::l,i,h=>by
  unfold bG5 at h;cases b with
  |false=>cases h
  |true=>
   cases i with
   |zero=>simp
   |succ i=>simpa using a63 (l:=l) (i:=i) h
theorem aWE{k:Nat}:∀{L:an},XH k L=true->∃i,(∀a,wW k a L=L.set i (.box k a))/\∀c,aXH k L c=c+i
 |[],h=>by cases h
 |x::L,h=>by
  have d:XH k L=true->(∀a,wW k a (x::L)=x::wW k a L)->(∀c,aXH k (x::L) c=aXH k L (c+1))->∃i,(∀a,wW k a (x::L)=(x::L).set i (.box k a))/\∀c,aXH k (x::L) c=c+i:=λh p n=>by obtain⟨i,r,q⟩:=aWE h;exact⟨i+1,λa=>aj,λc=>aj⟩
  cases x with
  |box j cs=>
   simp only[XH] at h;split at h
   .rename_i l;exact⟨0,λa=>by grind[wW,rR],λc=>by grind[aXH]⟩
   simp_all[wW,aXH]
  |ro j cs=>
   simp only[XH] at h;split at h
   .cases h
   .exact d h (λ_=>rfl) (λ_=>rfl)
  |o s=>exact d h (λ_=>rfl) (λ_=>rfl)
  |f g=>exact d h (λ_=>rfl) (λ_=>rfl)
  |no=>exact d h (λ_=>rfl) (λ_=>rfl)
  |w k b z=>exact d h (λ_=>rfl) (λ_=>rfl)
theorem aQG{i:Nat}:∀{is:ar},gO i is=true->i∉is
 |[],_=>ae
 |j::r,h=>by
  unfold gO at h;cases b:Nat.beq i j with
  |true=>grind
  |false=>
   rw[b] at h;have a:i≠j:=λe=>by simp_all
   simpa[a] using aQG h
theorem bCH{L:an}{i:Nat}{x:Ch}:∀{is:ar},i∉is->kl (L.set i x) is=kl L is
 |[],_=>rfl
 |j::is,h=>by have a:i≠j:=λe=>h (by simp[e]);simp only[kl,List.getElem?_set_ne a,bCH (λb=>h (uI _ b))]
theorem a35{T:TT}{t:TypeId}{p v:SV}{L':an}{x y:Operand}{is:ar}(h:Y8 T t p v L=some L')(d:jS e x=some p)(f:bK0 e L is (.store t x y)=true)(c:∀j∈is,j<L.length):kl L' is=kl L is/\∀j∈is,j<L'.length:=by
 unfold Y8 at h;split at h
 .rename_i k o;split at h
  .rename_i b;split at h
   .split at h
    .split at h
     case h_2=>cases h
     split at h
     case h_2=>cases h
     rename_i q a;cases h;have:=Y9 a;subst this;obtain⟨i,n,l⟩:=aWE b;simp_all[bK0,aQG,bCH]
    .cases h
   .cases h
  .cases h
 .cases h
theorem bHG{a f:Act}{w':World}{B0 B:Bl}{d b:Nat}{cs:aq}(j:(B0++B).length=m)(i:iW g.n (B0++B) e a)(c:PL g.n ((d,.pointer (some ⟨b,0,none⟩))::vE (B0++B) e) f)(h:nZ g.c w' ((B0++B)++[(b,0)]) (L++[.box (B0++B).length cs])):rU g.n g.c (B0++B) (m+1) ((d,.p m 0)::e) (L++[.box m cs]) f w':=by
 refine⟨[(b,0)],aj,?_,?_⟩
 .exact i.ext (nb:=[(b,0)]) (x:=.p m 0) (by grind[gT,gV,cA]) c
 grind
theorem tV{cf:wJ}(b:an):Frz g cf L (L++b):=by
 cases cf with
 |d B1 ops l is Lf Lv=>exact λa=>a.aQE b
 |o B1 ops l is Lf Lv i=>exact λa=>a.aQE b
 |_=>trivial
theorem a64{T:TT}{op:Op}{v:SV}(h:eff T e L op=.val v):ev1 T e L op=some v:=by unfold eff at h;grind
theorem bHH{T:TT}{op:Op}{cs:aq}(h:eff T e L op=.box cs):(∃t i,op=.alloc t/\AY T t=some i/\cs=i.z)\/(∃t x v,op=.box t x/\jS e x=some v/\isCells v=true/\cs=qP v):=by unfold eff at h;grind
theorem bK8{T:TT}{op:Op}{L':an}(h:eff T e L op=.st L'):∃t x y p v,op=.store t x y/\jS e x=some p/\Y8 T t p v L=some L':=by unfold eff at h;grind
theorem bHI{T:TT}{op:Op}{L':an}(h:eff T e L op=.st L'):∃t x y p v,op=.store t x y/\jS e x=some p/\jS e y=some v/\Y8 T t p v L=some L':=by unfold eff at h;grind
theorem bCI{o:Oper}{cf cf':wJ}(C:aL7 g K m e L o cf cf') :
  (∀d cs,eff g.T e L o.op=.box cs->o.dst=some d->Nat.blt d g.n=true->Frz g cf L (L++[.box m cs])->G g K (m+1) ((d,.p m 0)::e) (L++[.box m cs]) cf'->G g K m e L cf) /\
  (∀L',eff g.T e L o.op=.st L'->o.dst=none->Frz g cf L L'->G g K m e L' cf'->G g K m e L cf):=by
 refine⟨λd cs q r D n s=>C Unit (λ_=>m+1) (λ_=>(d,.p m 0)::e) (λ_=>L++[.box m cs]) (λ_=>n) (λB a w next Q A f j c=>?_) (λ_=>s),λL' q r n s=>C Unit (λ_=>m) (λ_=>e) (λ_=>L') (λ_=>n) (λB a w next Q A f j c=>?_) (λ_=>s)⟩
 .have fin:∀{u:Value} {w':World} {b:Nat},gD g.P o (vE (B0S g cf++B) e) w u w'->u=.pointer (some ⟨b,0,none⟩)->nZ g.c w' ((B0S g cf++B)++[(b,0)]) (L++[.box (B0S g cf++B).length cs])->o.wp g.P a w next Q:=by intro u w' b S M k;subst M;unfold Oper.wp;rw[S _ a f.env,Oper.upon_value,r];exact c () _ _ (bHG A f (f.env.put (by simp_all) _) k)
  obtain⟨t,i,h,O,rfl⟩|⟨t,x,v,h,J,R,rfl⟩:=bHH q
  .obtain⟨u,w',b,l,z,F⟩:=bCD (E:=vE (B0S g cf++B) e) g.hT j h O;grind
  .obtain⟨u,w',b,l,z,F⟩:=bK7 (P:=g.P) f j h J R;grind
 .obtain⟨t,x,y,p,v,h,I,H,N⟩:=bHI q;obtain⟨w',l,z⟩:=aWC g.hT f j h I H N;unfold Oper.wp;rw[l _ a f.env,Oper.upon_skip,r];exact c () _ _ ⟨[],aj,by rw[ML];exact⟨f.d,f.size,f.get⟩,aj⟩
theorem bCJ{o:Oper}{Lv:an}{cf cf':wJ}(h:Gs g (bG4 e o Lv cf cf' K m L o.op))(b:tR g.n o.dst=true)(d:aHT g K m e L o Lv cf cf')(c:aL7 g K m e L o cf cf'):G g K m e L cf:=by
 generalize a:o.op=op at h;unfold bG4 at h;split at h
 .split at h
  .exact h
  .exact h.elim
 .split at h
  .rename_i i f k;exact h _ _ a k i f d
  .exact h b d c
 .split at h
  .rename_i i f;split at h
   .rename_i j;exact h _ _ _ a rfl i ⟨_,f,rfl⟩ j b c
   .exact h _ _ _ a rfl i ⟨_,f,rfl⟩ b c
  .exact h b d c
 .exact h b d c
theorem bHJ{o:Oper}{Lv:an}{cf cf':wJ}(h:Gs g (bKZ e o Lv cf cf' K m L o.op))(c:tR g.n o.dst=true)(b:aHT g K m e L o Lv cf cf'):G g K m e L cf:=by
 generalize a:o.op=op at h;unfold bKZ at h;split at h
 .split at h
  .exact h
  .exact h.elim
 .split at h
  .rename_i i f d;exact h _ _ a d i f b
  .exact h c b
 .exact h c b
theorem aGM:∀(F:Nat) (K:a8) (c:wJ) (m:Nat) (e:SE) (L:an),Gs g (stp g.T g.n F K c m e L)->G g K m e L c
 |0,_,_,_,_,_,h=>h.elim
 |F + 1,K,.c x,m,e,L,h=>by
  have f:=aGM F;unfold stp at h;cases x with
  |skip=>exact λa w n=>bGA (a61 f h a w n)
  |seq x y=>exact λa w n=>bJ4 (f _ _ _ _ _ h a w n)
  |block id b=>
   simp only at h;split at h
   .exact h
   .exact λa w n=>a0J (f _ _ _ _ _ h a w n)
  |exit id=>
   simp only at h;refine λa w n=>bGB (bCE ?_);cases Y:xit id K with
   |some K'=>rw[Y] at h;exact a61 f h a w n
   |none=>rw[Y] at h;exact h a w n
  |ret=>exact λa w n=>bJ5 (h a w n)
  |cond o x y=>
   simp only at h;split at h
   .rename_i c S;intro a w n;obtain⟨B,I,s,C⟩:=n;obtain⟨v,N,M⟩:=fL s S;cases N;cases c with
    |true=>exact bJ6 s.env M rfl (f _ _ _ _ _ h a w ⟨B,I,s,C⟩)
    |false=>exact bM4 s.env M rfl (f _ _ _ _ _ h a w ⟨B,I,s,C⟩)
   .rename_i c S;exact h S
   .exact h.elim
  |region id ops d=>
   cases d with
   |false=>exact λa w n=>a8G (f _ _ _ _ _ h a w n)
   |true=>exact h
  |_=>exact h.elim
 |F + 1,K,.n,m,e,L,h=>by have f:=aGM F;unfold stp at h;exact λa w n=>a61 f h a w n
 |F + 1,K,.r ops [],m,e,L,h=>by have f:=aGM F;unfold stp at h;exact λa w n=>a61 f h a w n
 |F + 1,K,.r ops (⟨dst,op,ty,H,U,T⟩::l),m,e,L,h=>by
  have f:=aGM F;unfold stp at h;generalize J:HM ops e T=gv at h;cases gv with
  |bad=>exact h.elim
  |ask c=>exact h
  |no=>
   simp only at h;split at h
   .rename_i d;split at h
    .rename_i z;intro a w ⟨B,I,s,C⟩;exact bGD (bJL J) rfl z (λa' R=>f _ _ _ _ _ h a' w ⟨B,I,s.of (x:=.u) (v:=undef) rfl R,C⟩) a s.env
    .exact h.elim
   .exact h.elim
  |yes=>
   simp only at h;have W:=bCI (g:=g) (K:=K) (m:=m) (e:=e) (L:=L) (o:=⟨dst,op,ty,H,U,T⟩) (cf:=.r ops (⟨dst,op,ty,H,U,T⟩::l)) (cf':=.r ops l) (a62 J);split at h
   .rename_i d v A;split at h
    .rename_i z;intro a w ⟨B,I,s,C⟩;obtain⟨u,N,M⟩:=aXM (o:=⟨_,op,ty,H,U,T⟩) g.hT s C (a64 A);exact bJE M (aGL J) rfl z (λa' R=>f _ _ _ _ _ h a' w ⟨B,I,s.of N R,C⟩) a s.env
    .exact h.elim
   .rename_i d cs A;split at h
    .rename_i z;exact W.1 _ _ A rfl z trivial (f _ _ _ _ _ h)
    .exact h.elim
   .rename_i L' A;exact W.2 _ A rfl trivial (f _ _ _ _ _ h)
   .split at h
    .rename_i z;exact bCJ h z (bHA J z) (a62 J)
    .exact h.elim
   .exact h.elim
 |F + 1,K,.d B1 ops l is Lf Lv,m,e,L,h=>by
  have f:=aGM F;unfold stp at h;refine aEJ ops.toList 0 l e [] (λj=>ae) ?_;generalize pass g.T g.n ops Lv ops.toList 0 l e []=H at h;cases H with
  |bad=>exact h.elim
  |ask c X e'=>exact h
  |pur i o X e'=>
   intro N M h3 h4;simp only at h;split at h
   .grind[bHJ,bHC]
   .exact h.elim
  |fin X e' q=>
   cases q with
   |nil=>
    simp only at h;split at h
    .rename_i V;intro D a w n;have hn:=f _ _ _ _ _ h;obtain⟨B2,hB2⟩:=D.pre;have hr':Rel g m e' L a w:=by obtain⟨B,I,s,C,_⟩:=n;subst hB2;exact⟨B2++B,aj,aj,aj⟩
     have E:Region.ready .any ops X.toArray=[]:=by refine List.eq_nil_iff_forall_not_mem.2 λj hj=>?_;exact a63 V ((aEI D.len).1 hj).1
     exact wpAnyH_done E (hn a w hr') _
    .exact h.elim
   |cons p q=>
    cases q with
    |cons p' q=>exact h
    |nil=>
     obtain⟨i,o⟩:=p;simp only at h;split at h
     .rename_i hon;have S:=f _ _ _ _ _ h;cases Z:AZ X ops.toList 0 with
      |cons j r=>
       refine bCG Z λk hk=>?_;grind[bHF]
      |nil=>
       refine absurd h ?_;intro h;unfold stp at h;cases F with
       |zero=>exact h
       |succ F=>
        simp only at h;split at h
        .rename_i hi;split at h
         .rename_i N M h3;have:=aWD (j0:=0) hi aj N;grind
         .exact h
        .exact h
     .exact h.elim
 |F + 1,K,.o B1 ops l is Lf Lv i,m,e,L,h=>by
  have f:=aGM F;unfold stp at h;split at h
  .rename_i dst op ty H U T S;split at h
   .rename_i hre hli J;have P:=bHD (g:=g) (K:=K) (m:=m) (e:=e) (L:=L) (B1:=B1) (ops:=ops) (l:=l) (is:=is) (Lf:=Lf) (Lv:=Lv) S J;have W:=bCI (g:=g) (K:=K) (m:=m) (e:=e) (L:=L) (o:=⟨dst,op,ty,H,U,T⟩) (cf:=.o B1 ops l is Lf Lv i) (cf':=.d B1 ops (l.set i true) is Lf Lv) P;split at h
    .rename_i v d A;split at h
     .rename_i z;have hG:=f _ _ _ _ _ h;have hv:=a64 A;refine P Unit (λ_=>m) (λ_=>(d,v)::e) (λ_=>L) (λ_ D=>⟨D.AV,D.rng⟩) (λB a w next Q I s C O=>?_) (λ_=>hG);obtain⟨u,N,M⟩:=aXM (o:=⟨some d,op,ty,H,U,T⟩) g.hT s C hv;unfold Oper.wp;rw[M _ a s.env,Oper.upon_value];exact O () _ _ ⟨[],aj,by simpa using s.of N (s.env.put (by simp_all) u),aj⟩
     .exact h.elim
    .rename_i d cs A;split at h
     .rename_i z;exact W.1 _ _ A rfl z (λD=>D.aQE _) (f _ _ _ _ _ h)
     .exact h.elim
    .rename_i L' A;split at h
     .rename_i hfz;refine W.2 _ A rfl (λD=>?_) (f _ _ _ _ _ h);obtain⟨t,x,y,p,v,hop,Y,hs⟩:=bK8 A;subst hop;have:=a35 hs Y hfz D.rng;exact⟨by rw[this.1];exact D.AV,this.2⟩
     .exact h.elim
    .split at h
     .rename_i z;exact bCJ h z (bHE S J z) P
     .exact h.elim
    .exact h.elim
   .exact h.elim
  .exact h.elim
theorem aPA:∀{e r:SE},a8R e=some r->r=e
 |[],r,h=>by cases h;rfl
 |(k,v)::l,r,h=>by
  simp only[a8R] at h;split at h
  .rename_i s a;cases h;rw[aPA a]
  .cases h
theorem aPB:∀{e r:an},a8S e=some r->r=e
 |[],r,h=>by cases h;rfl
 |x::l,r,h=>by
  simp only[a8S] at h;split at h
  .rename_i s a;have:=aPB a;grind[Y9]
  .cases h
theorem iV{K:a8}{c:wJ}{m:Nat}{e:SE}{L:an}(h:Gs g (j7 g.T g.n K c m e L)):G g K m e L c:=by
 unfold j7 at h;split at h
 .grind[aPA,aPB,aGM]
 .exact h.elim
end
section
variable {P:Program} {N N':Act->World->Prop} {X X':Nat->Act->World->Prop} {T T':Act->World->Prop}
theorem aCR(h:LetsOut (mkQ N X T)):LetsOut (mkQ N' X' T'):=let ⟨_,_,h⟩:=h;h.elim
theorem a0V{o:Oper}{a:Act}{next b:Act->World->Prop}{r:Result Next}(hn:∀a w,next a w->b a w)(h:o.upon P a next (mkQ N X T) r):o.upon P a b (mkQ N' X' T') r:=by
 unfold Oper.upon at h ⊢;split at h
 .grind
 .grind
 .grind
 .refine Calls.mono h λe w' he=>?_;cases e with
  |returned v=>grind
  |panicked c=>exact he.elim
  |outgrown=>exact aCR he
 .grind[Rows.mono]
 .exact h.elim
 omega
theorem aGN{ops:bj}(b:∀a w,N a w->N' a w):∀(l:cj) {a:Act} {w:World},wpList P ops (mkQ N X T) l a w->wpList P ops (mkQ N' X' T') l a w
 |[],a,w,h=>b a w h
 |o::l,a,w,h=>by
  unfold wpList at h ⊢;split
  .rename_i hw;rw[aM hw] at h;obtain h|⟨d,c⟩:=h
   .exact .inl (a0V (λ_ _ h=>aGN b l h) h)
   grind[aCR]
  .rename_i hw;rw[aO hw] at h;exact aGN b l h
theorem a0W{ops:bj}{i:Nat}{k b:Act->World->Prop}{a:Act}{w:World}(c:∀a w,k a w->b a w)(h:wpOp P ops (mkQ N X T) i k a w):wpOp P ops (mkQ N' X' T') i b a w:=by
 unfold wpOp at h ⊢;split
 .grind
 .rename_i o d;rw[d] at h;simp only at h;split
  .rename_i hw;rw[aM hw] at h;obtain h|⟨f,e⟩:=h
   .exact .inl (a0V c h)
   grind[aCR]
  grind
theorem aGO{ops:bj}{S:World->Prop}(b:∀a w,N a w->N' a w):∀(fuel:Nat) {qW:Array Bool} {a:Act} {w:World},wpAnyH P .any ops (mkQ N X T) S fuel qW a w->wpAnyH P .any ops (mkQ N' X' T') S fuel qW a w
 |0,_,a,w,h=>⟨h.1,b a w h.2⟩
 |f+1,_,a,w,h=>⟨λd=>b a w (h.1 d),λi c=>a0W (λ_ _ h=>⟨h.1,aGO b f h.2⟩) (h.2 i c)⟩
end
section
variable {P:Program} {T:TT} {hT:I3 P T} {n:Nat} {c:Ctx} {B0:Bl} {N N1:Act->World->Prop} {X X1:Nat->Act->World->Prop} {Q:Act->World->Prop} {K K':a8} {m m':Nat} {e e':SE} {L L':an} {cf cf':wJ}
theorem a36(d:a8)(g:∀a w,N1 a w->NK (.mk P T hT n c B0 N X Q) d a w)(f:∀i a w,X1 i a w->XK (.mk P T hT n c B0 N X Q) d i a w):∀(b:a8),(∀a w,NK (.mk P T hT n c B0 N1 X1 Q) b a w->NK (.mk P T hT n c B0 N X Q) (b++d) a w)/\(∀i a w,XK (.mk P T hT n c B0 N1 X1 Q) b i a w->XK (.mk P T hT n c B0 N X Q) (b++d) i a w)
 |[]=>⟨g,f⟩
 |.s y::b=>by obtain⟨k,j⟩:=a36 d g f b;exact⟨λa w h=>CW.mono (show CW P y (NK _ b) (XK _ b) Q a w from h) k j (λ_ _ h=>h),j⟩
 |.k id::b=>by obtain⟨k,j⟩:=a36 d g f b;refine⟨k,λi a w h=>?_⟩;simp only[XK,aV5,aCN] at h ⊢;grind
theorem bNF{k j:a8}(q:∀a w,N1 a w->NK (.mk P T hT n c B0 N X Q) j a w)(p:∀i a w,X1 i a w->XK (.mk P T hT n c B0 N X Q) j i a w)(h:G (.mk P T hT n c B0 N1 X1 Q) k m e L cf):G (.mk P T hT n c B0 N X Q) (k++j) m e L cf:=by
 obtain⟨g,s⟩:=a36 j q p k;cases cf with
 |n=>exact λa w f=>g a w (h a w f)
 |c x=>exact λa w f=>CW.mono (h a w f) g s (λ_ _ h=>h)
 |r ops l=>exact λa w f=>aGN g l (h a w f)
 |d B1 ops l is Lf Lv=>exact λb a w f=>aGO g _ (h ⟨b.pre,b.len,b.free,b.AV,b.rng,b.okf,b.ap⟩ a w f)
 |o B1 ops l is Lf Lv i=>exact λb a w f=>a0W (λ_ _ h=>⟨h.1,aGO g _ h.2⟩) (h ⟨b.pre,b.len,b.free,b.AV,b.rng,b.okf,b.ap⟩ a w f)
theorem aPC{g:Gx}{s:Stop}(a:V6 s=some (K,cf,m,e,L))(h:G g K m e L cf):Gs g s:=by
 cases s<;>simp only[V6] at a<;>cases a
 .exact λ_=>h
 .exact h
 .exact h
 .exact λ_ _ _ _ _ _ _=>h
 .exact λ_ _ _ _ _ _ _ _ _ _=>h
 .exact λ_ _ _ _ _ _ _ _ _=>h
 .exact λ_ _=>h
 .exact λ_ _ _=>h
 .exact h
 .exact h
def JP(n:Nat)(c:Ctx)(B0:Bl){π υ:Type}(b:π->Prop)(m:Nat)(d:π->υ->SE)(f:π->υ->an):Act->World->Prop:=λa w=>∃p u,b p/\rU n c B0 m (d p u) (f p u) a w
theorem dS{B1:Bl}{ops:bj}{l:az}{is:ar}{Lf Lv:an}{i j:Nat}(a:V6 (j7 T n K cf m e L)=some (K',.d B1 ops l is Lf Lv,m',e',L')/\AZ l ops.toList 0=[i,j])
  (h:G (.mk P T hT n c B0 N X Q) K' m' e' L' (.o B1 ops l is Lf Lv i)) (f:G (.mk P T hT n c B0 N X Q) K' m' e' L' (.o B1 ops l is Lf Lv j)):G (.mk P T hT n c B0 N X Q) K m e L cf:=
 let ⟨b,d⟩:=a;iV (g:=.mk P T hT n c B0 N X Q) (aPC b (bCG (g:=.mk P T hT n c B0 N X Q) d λk o=>by
  grind))
theorem aE1{B1:Bl}{ops:bj}{l:az}{is:ar}{Lf Lv:an}{i j p:Nat}(a:V6 (j7 T n K cf m e L)=some (K',.d B1 ops l is Lf Lv,m',e',L'))(b:AZ l ops.toList 0=[i,j,p])
  (h:G (.mk P T hT n c B0 N X Q) K' m' e' L' (.o B1 ops l is Lf Lv i)) (f:G (.mk P T hT n c B0 N X Q) K' m' e' L' (.o B1 ops l is Lf Lv j)) (d:G (.mk P T hT n c B0 N X Q) K' m' e' L' (.o B1 ops l is Lf Lv p)):G (.mk P T hT n c B0 N X Q) K m e L cf:=
 iV (g:=.mk P T hT n c B0 N X Q) (aPC a (bCG (g:=.mk P T hT n c B0 N X Q) b λk o=>by
  grind))
theorem bd{O β:Type}{A:Option O}{f:O->Option β}{q:β}{C:Prop}(a:A.bind f=some q)(k:∀x,A=some x->f x=some q->C):C:=by
 cases h:A with
 |none=>grind
 |some x=>grind
theorem nd{β:Type}{p:Prop}[Decidable p]{A:Option β}{q:β}{C:Prop}(a:need p A=some q)(k:p->A=some q->C):C:=k (mZ a).1 (mZ a).2
theorem rb{O:Type}{A:Option O}{x:O}(h:A=some x):A.bind some=some x:=by rw[h];rfl
theorem rn{p:Prop}[Decidable p](h:p):need p (some ())=some ():=by simp[need,h]
theorem go(a:V6 (j7 T n K cf m e L)=some (K',cf',m',e',L'))(k:G (.mk P T hT n c B0 N X Q) K' m' e' L' cf'):G (.mk P T hT n c B0 N X Q) K m e L cf:=iV (g:=.mk P T hT n c B0 N X Q) (aPC a k)
theorem cut{π υ:Type}(j b:Nat)(f:π->Prop)(d:ar)(g:π->υ->SE)(is:ar)(i:π->υ->an)(o:V6 (j7 T n K cf m e L)=some (K',cf',m',e',L'))
  (l:G (.mk P T hT n c B0 (JP n c B0 f b (λp u=>g p u++kp e' d) (λp u=>i p u++kl L' is)) (XK (.mk P T hT n c B0 N X Q) (K'.drop j)) Q) (K'.take j) m' e' L' cf')
  (k:∀p u,f p->G (.mk P T hT n c B0 N X Q) (K'.drop j) b (g p u++kp e' d) (i p u++kl L' is) .n):G (.mk P T hT n c B0 N X Q) K m e L cf:=by refine go o ?_;rw[<-aL2 j K'];refine bNF (λa w ⟨p,u,r,q⟩=>?_) (λ_ _ _ h=>h) l;exact k p u r a w q
theorem jn{π υ:Type}{i:π->Prop}{f:Nat}{b:π->υ->SE}{d:π->υ->an}{p:π}(u:υ)(is:ar)(l:i p)(j:j7 T n K cf m e L=.fin m' e' L')(h:asT B0.length m' e' L' is f (b p u) (d p u)=some (b p u,d p u)):G (.mk P T hT n c B0 (JP n c B0 i f b d) X Q) K m e L cf:=
 iV (g:=.mk P T hT n c B0 _ X Q) (by
  rw[j];exact λa w k=>⟨p,u,l,rU.asT k is h⟩)
theorem aEK{b cb:Bool}{a:Act}{B:Bl}(f:b=cb):∀(d:ar),bE (HL e) d=some (d.map λ_=>SV.b b)->iW n B e a->iW n B (ovr cb e d) a:=by
 intro d l g;refine⟨g.d,g.size,?_⟩;subst f;have h:∀k∈d,HL e k=some (.b b):=by
  induction d with
  |nil=>simp
  |cons s d j=>
   grind[bE]
 clear l;induction d with
 |nil=>exact g.get
 |cons s d j=>
  intro k x i;simp only[ovr,HL] at i;cases f:Nat.beq k s with
  |true=>
   rw[f] at i;cases i;rw[rR f];exact g.get s (.b b) (h s ae)
  |false=>
   grind
theorem aPD{b cb:Bool}{a:Act}{w:World}(g:b=cb)(d:ar)(f:bE (HL e) d=some (d.map λ_=>SV.b b))(h:rU n c B0 m e L a w):rU n c B0 m (ovr cb e d) L a w:=by obtain⟨B,k,j,i⟩:=h;exact⟨B,k,aEK g d f j,i⟩
theorem aQH{q:SE}(h:∀a B,iW n B e a->iW n B q a)(k:G (.mk P T hT n c B0 N X Q) K m q L cf):G (.mk P T hT n c B0 N X Q) K m e L cf:=by
 cases cf with
 |d B1 ops l is Lf Lv=>exact λj a w ⟨B,g,f,b,p⟩=>k j a w ⟨B,g,h a _ f,b,p⟩
 |o B1 ops l is Lf Lv i=>exact λj a w ⟨B,g,f,b,p⟩=>k j a w ⟨B,g,h a _ f,b,p⟩
 |_=>exact λa w ⟨B,g,f,b⟩=>k a w ⟨B,g,h a _ f,b⟩
section
variable {b:Bool} {O:Type} {A B':Option O} {q:Option O}
theorem cs{o:Operand}{x y:Code}(d:ar)(r:j7 T n K cf m e L=.cond o b x y K' m' e' L')(j:bE (HL e') d=some (d.map λ_=>SV.b b))(h:(if b=true then A else B')=q)
  (p:A=q->G (.mk P T hT n c B0 N X Q) K' m' (ovr true e' d) L' (.c x)) (l:B'=q->G (.mk P T hT n c B0 N X Q) K' m' (ovr false e' d) L' (.c y)):G (.mk P T hT n c B0 N X Q) K m e L cf:=
 iV (g:=.mk P T hT n c B0 N X Q) (by
  rw[r];intro s a w i;have ⟨B,hm,k,z⟩:=i;obtain⟨v,u,t⟩:=fL k s;cases u;refine aO6 k.env t (λf=>?_) (λf=>?_)
  .rw[aM f] at h;exact p h a w (aPD f d j i)
  .rw[aO aj] at h;exact l h a w (aPD f d j i))
theorem ca{cf':wJ}(d:ar)(k:j7 T n K cf m e L=.case b cf' K' m' e' L')(h:bE (HL e') d=some (d.map λ_=>SV.b b))(l:(if b=true then A else B')=q)
  (j:A=q->G (.mk P T hT n c B0 N X Q) K' m' (ovr true e' d) L' cf') (i:B'=q->G (.mk P T hT n c B0 N X Q) K' m' (ovr false e' d) L' cf'):G (.mk P T hT n c B0 N X Q) K m e L cf:=
 iV (g:=.mk P T hT n c B0 N X Q) (by
  rw[k];cases b with
  |true=>exact aQH (λa B f=>aEK rfl d h f) (j aj)
  |false=>exact aQH (λa B f=>aEK rfl d h f) (i aj))
end
def QS(P:Program)(a:Func)(c:Ctx)(B0:Bl){ρ ex:Type}(sv:ρ->ex->SV)(Lf:ρ->ex->an)(r:ρ):Act->World->Prop:=Fin P a λv w'=>∃y,gT B0 (sv r y)=some v/\nZ c w' B0 (Lf r y)
theorem a65{r:ResultVar}{x:SV}{B:Bl}{a:Act}{w:World}(hT:I3 P T)(F:iW n B e a)(E:nZ c w B L)(h:bB1 T e L r=some x):∃v,gT B x=some v/\(aJ6 a.tmps r).run P w=.ok v w:=by
 cases r with
 |tmp t=>
  obtain⟨v,g,y⟩:=F.get t x h;simp_all[aJ6]
 |cell t ty=>
  simp only[bB1] at h;split at h
  .rename_i p H;obtain⟨v,g,y⟩:=F.get t p H;unfold aV9 at h;split at h
   .rename_i J f;split at h
    .rename_i cs _ mm _ q i;split at h
     .rename_i d;split at h
      case h_2=>cases h
      rename_i M l;cases h;have:=Y9 l;subst this;obtain⟨b,z,vs,C,k,A⟩:=E.cells q;have D:=m0 k;have d:=XC d;simp only[gT,gV,cA,C] at g;cases g;have G:=XL mm (XJ f k);have s:=aHR A (o:=f) (m:=mm) aa;have j:=uJ s P;have I:((vs.drop f).take mm).length=mm:=ah
      rw[I] at j;refine⟨.agg ((vs.drop f).take mm).toArray,by grind[gT,gV],?_⟩;simp[aJ6,y,asAddr,loadVar,hT.agg _ _ i,hT.size _ _ i,j]
     .cases h
    .rename_i cs _ _ _ q i;obtain⟨b,z,vs,C,k,A⟩:=E.cells q;simp only[gT,gV,cA,C] at g;cases g;obtain⟨u,G,s⟩:=XI k h;refine⟨u,a6Q G,?_⟩;have j:=A f u s;simp[aJ6,y,asAddr,loadVar,hT.agg _ _ i,load,Sem.run,j]
    .cases h
   .cases h
  .cases h
end
section
variable {P:Program} {T:TT} {hT:I3 P T} {n:Nat} {c:Ctx} {B0:Bl} {N:Act->World->Prop} {X:Nat->Act->World->Prop} {Q:Act->World->Prop} {K K':a8} {m m':Nat} {e e':SE} {L L':an} {cf:wJ}
theorem bHK{B:Bl}{x:SV}{v:Value}(h:gT B x=some v)(a:isCells x=true):gV B x=some v:=by cases x<;>first|exact h|cases a
theorem aHU{r:ResultVar}{x:SV}{B:Bl}{a:Act}{w:World}(hT:I3 P T)(d:iW n B e a)(b:nZ c w B L)(h:a32 T e L r=some x):∃v,gV B x=some v/\(aJ6 a.tmps r).run P w=.ok v w:=by grind[a32,a65,bHK]
theorem aPE{i:List ResultVar}{x:SV}{B:Bl}{a:Act}{w:World}{l:Func}(s:l.results=i.toArray)(hT:I3 P T)(d:iW n B e a)(b:nZ c w B L)(h:aXJ T e L i=some x):∃v,gT B x=some v/\(results l a.tmps).run P w=.ok v w:=by
 rw[a3V s];unfold aXJ at h;split at h
 .cases h;exact⟨.tuple #[],rfl,ae⟩
 .obtain⟨v,k,j⟩:=a65 hT d b h;simp_all
 .split at h
  .rename_i g f;cases h;obtain⟨p,k,r⟩:=aHU hT d b g;obtain⟨o,j,q⟩:=aHU hT d b f;simp_all[gT,bE]
  .cases h
 .split at h
  .rename_i g f t;cases h;obtain⟨p,k,r⟩:=aHU hT d b g;obtain⟨o,j,q⟩:=aHU hT d b f;obtain⟨u,z,y⟩:=aHU hT d b t;simp_all[gT,bE]
  .cases h
 .cases h
structure FnS (P:Program) (f:FuncId) (c:Ctx) (xs:aq) (B0:Bl) (L0:an) {ρ ex:Type} (sv:ρ->ex->SV) (Lf:ρ->ex->an) (r:ρ):Prop where
 call:∀args w,(callFunc f args).run P w=.ok (.enter f args) w
 run:∀vs,bE (gT B0) xs=some vs->nZ c c.w0 B0 L0->Calls P f vs.toArray c.w0 (Ret λv w'=>∃y,gT B0 (sv r y)=some v/\nZ c w' B0 (Lf r y))
abbrev Fn0(P:Program)(f:FuncId)(c:Ctx)(xs:aq){ρ:Type}(sv:ρ->SV)(r:ρ):Prop:=FnS P f c xs [] [] (λr (_:Unit)=>sv r) (λ_ _=>[]) r
def aWF:Nat->aq->SE
 |_,[]=>[]
 |k,v::r=>(k,v)::aWF (k+1) r
theorem aWG{B:Bl}:∀{xs:aq} {vs:ao} (k:Nat) {j:Nat} {x:SV},bE (gT B) xs=some vs->HL (aWF k xs) j=some x->∃v,gT B x=some v/\lk (a0I k vs) j=some v
 |[],vs,k,j,x,h,a=>by grind[aWF,HL]
 |y::xs,vs,k,j,x,h,a=>by
  simp only[bE] at h;split at h
  .cases h
  .rename_i f;split at h
   .cases h
   .rename_i d;cases h;simp only[aWF,HL] at a;simp only[a0I,lk];cases b:Nat.beq j k with
    |true=>grind
    |false=>rw[b] at a;exact aWG (k+1) d a
theorem en{f:FuncId}{b:Func}{g:Code}{xs:aq}{L0:an}{ρ ex:Type}{sv:ρ->ex->SV}{Lf:ρ->ex->an}{r:ρ}(n:Nat)(q:∀args w,(callFunc f args).run P w=.ok (.enter f args) w)(p:P.funcs[f]?=some b)(hT:I3 P T)(s:b.body=some g)(l:b.ntmps=n)(u:Nat.ble xs.length n=true)
  (k:G (.mk P T hT n c B0 (QS P b c B0 sv Lf r) (λ_ _ _=>False) (QS P b c B0 sv Lf r)) [] B0.length (aWF 0 xs) L0 (.c g)):FnS P f c xs B0 L0 sv Lf r:=by
 refine⟨q,λvs i y=>a8L p s l ?_ λa d=>?_⟩
 .grind[m0]
 .refine CW.mono (k a c.w0 ⟨[],ae,⟨d.d,d.size,λj x o=>?_⟩,aj⟩) (λ_ _ h=>h) (λ_ _ _ h=>h) (λ_ _ h=>h);obtain⟨v,z,t⟩:=aWG 0 i o;exact⟨v,aj,d.get j v t⟩
theorem a8V(w:World):nZ (fT w) w [] []:=⟨⟨[],St.enter ae,ae⟩,λ_ _ h=>h⟩
theorem rt{l:Func}{ρ ex:Type}{sv:ρ->ex->SV}{Lf:ρ->ex->an}{r d:ρ}{i:List ResultVar}{h:Option ρ}(y:ex)(is:ar)(D:h=some r)(q:h=some d)(u:j7 T n K cf m e L=.ret m' e' L')(z:l.results=i.toArray){x:SV}(t:aXJ T e' L' i=some x)(s:nbS x=sv d y)(j:CR B0.length (sv d y)=true)(C:asT B0.length m' e' L' is B0.length [] (Lf d y)=some ([],Lf d y)):G (.mk P T hT n c B0 N X (QS P l c B0 sv Lf r)) K m e L cf:=by subst q;cases D;refine iV (g:=.mk P T hT n c B0 N X _) ?_;rw[u];intro a w b;obtain⟨B,I,k,A⟩:=id b;obtain⟨v,F,E⟩:=aPE z hT k A t;obtain⟨H,o,_,p⟩:=b.asT is C;have f:H=[]:=(by simp_all);subst f;refine⟨k.d,v,E,y,?_,aj⟩;rw[<-s] at j ⊢;have:=ZA j (by rw[aO8];exact F);grind
theorem rf{l:Func}{ρ ex:Type}{sv:ρ->ex->SV}{Lf:ρ->ex->an}{r d:ρ}{i:List ResultVar}{h:Option ρ}(y:ex)(is:ar)(D:h=some r)(q:h=some d)(u:j7 T n K cf m e L=.fin m' e' L')(z:l.results=i.toArray){x:SV}(t:aXJ T e' L' i=some x)(s:nbS x=sv d y)(j:CR B0.length (sv d y)=true)(C:asT B0.length m' e' L' is B0.length [] (Lf d y)=some ([],Lf d y)):G (.mk P T hT n c B0 (QS P l c B0 sv Lf r) X Q) K m e L cf:=by subst q;cases D;refine iV (g:=.mk P T hT n c B0 _ X Q) ?_;rw[u];intro a w b;obtain⟨B,I,k,A⟩:=id b;obtain⟨v,F,E⟩:=aPE z hT k A t;obtain⟨H,o,_,p⟩:=b.asT is C;have f:H=[]:=(by simp_all);subst f;refine⟨k.d,v,E,y,?_,aj⟩;rw[<-s] at j ⊢;have:=ZA j (by rw[aO8];exact F);grind
def bJ(c:Ctx){O:Type}[aN O](s:AC)(d:List O):Prop:=aN.rd c.S0 c.w0 [s.v d.length] d
structure HS (c:Ctx) (w:World) (L:an):Prop where
 ex:∃B,nZ c w B L
abbrev ow{O:Type}[aN O](s:AC)(d:List O):Ch:=.o (dF [s.v d.length] d)
abbrev fr{O:Type}[aN O](s:AC)(d:List O):Ch:=.f (fRd [s.v d.length] d)
theorem aXQ{w:World}{B:Bl}(g:nZ c w B L){f:Fact}(h:f.P c.S0 c.w0):f.P c.S0 w:=by obtain⟨⟨R,s1,_⟩,s0⟩:=g;exact f.agree h λb o a=>s1.keep.cell b o (s0 b o a) λd=>s1.apart b o d a
theorem a37{w:World}{B:Bl}(d:nZ c w B L):∀b o,c.S0 b o->All w b o:=λb o a=>by obtain⟨⟨R,s1,_⟩,s0⟩:=d;exact SS (s0 b o a) s1.keep.size
theorem HS.a{w:World}{O:Type}[aN O]{s:AC}{d:List O}(h:HS c w L)(b:bJ c s d):bJ (fT w) s d:=by obtain⟨B,a⟩:=h.ex;have g:(fRd [s.v d.length] d).P c.S0 w:=aXQ a (f:=fRd [s.v d.length] d) b;exact aN.rd_mono g (a37 a)
theorem HS.o{w:World}{O:Type}[aN O]{s:AC}{d:List O}(h:HS c w L)(i:Nat)(a:L[i]?=some (ow s d)):bJ (fT w) s d:=by obtain⟨B,⟨⟨R,s1,_⟩,_⟩⟩:=h.ex;exact s1.a6E i (by rw[D0,a];rfl)
theorem HS.f{w:World}{O:Type}[aN O]{s:AC}{d:List O}(h:HS c w L)(i:Nat)(f:L[i]?=some (fr s d)):bJ (fT w) s d:=by obtain⟨B,⟨⟨R,s1,a⟩,_⟩⟩:=h.ex;obtain⟨j,b⟩:=aLY (a _ (O1 f));exact s1.rd j b
theorem aHV{B:Bl}:∀{xs:aq} {vs:ao},okA xs=true->bE (gT B) xs=some vs->bE (gT []) xs=some vs
 |[],vs,_,h=>h
 |x::xs,vs,a,h=>by
  simp only[okA] at a;split at a
  .rename_i g;simp only[bE] at h;split at h
   .cases h
   .rename_i f;split at h
    .cases h
    .rename_i d;cases h;have b:=ZA g f;rw[List.take_zero] at b;simp[bE,b,aHV a d]
  .cases a
theorem aFK{B:Bl}{a:Act}(b:iW n B e a):∀{os:List Operand} {xs:aq},bE (jS e) os=some xs->∃vs,bE (gT B) xs=some vs/\evs (vE B e) os=some vs
 |[],xs,h=>by cases h;exact⟨[],rfl,rfl⟩
 |o::os,xs,h=>by
  simp only[bE] at h;split at h
  .cases h
  .rename_i f;split at h
   .cases h
   .rename_i d;cases h;obtain⟨v,k,j⟩:=fL b f;obtain⟨vs,i,g⟩:=aFK b d;grind[bE,evs]
def noF:an->Bool
 |[]=>true
 |.ro _ _::_=>false
 |.f _::_=>false
 |.w _ _ _::_=>false
 |_::L=>noF L
theorem aQI{B:Bl}{R:bn}:∀{L:an},noF L=true->∀x∈L,roF B R x
 |[],_,x,b=>by cases b
 |y::L,h,x,b=>by
  obtain a|a:=qM.1 b
  .subst a;cases x<;>first|trivial|cases h
  .cases y with
   |ro=>cases h
   |f=>cases h
   |w=>cases h
   |_=>exact aQI (L:=L) h x a
theorem nZ.after{w w':World}{B:Bl}{L2:an}(h:nZ c w B L)(hn:noF L2=true)(k:nZ (fT w) w' [] L2):nZ c w' B (L++L2):=by
 obtain⟨⟨R,s1,g⟩,s0⟩:=h;obtain⟨⟨j,a,d⟩,f⟩:=k;refine⟨⟨R,?_,λx i=>?_⟩,s0⟩
 .rw[D1];have b:=s1.after a;refine b.imp (kW.append (kW.refl _) ?_);have:=aEH (B:=[]) B (w:=w') L2;grind
 grind[aQI]
theorem nZ.bK9{w w':World}{B:Bl}(h:nZ c w B L)(k:fN F0 w w'):nZ c w' B L:=by obtain⟨⟨R,s1,a⟩,s0⟩:=h;exact⟨⟨R,s1.same k,a⟩,s0⟩
theorem XO{o:Oper}{f:FuncId}{x:Operand}{args:Array Operand}{b:Array TypeId}{vs:ao}{E:Env}{w:World}(a:∀args w,(callFunc f args).run P w=.ok (.enter f args) w)(h:o.op=.call {callee:=.value x,args:=args,argTypes:=b})(d:ev E x=some (.func (.func f) #[] #[]))(g:evs E args.toList=some vs):bJ7 P o E w f vs.toArray:=by have:=a0N (w:=w) (cap:=[]) (xs:=args.toList) (vs:=vs) a aa d g;grind
theorem cl{O β ex:Type}{fo:Option O}{kf:O->Option β}{q:β}{o:Oper}{d:Nat}{f:FuncId}{xs:aq}{p l:wJ}{sv:O->ex->SV}{Lf:O->ex->an}(I:j7 T n K cf m e L=.call o (some d) f xs p l K' m' e' L')(hn:∀x y,noF (Lf x y)=true)
  (S:∀{w},HS c w L'->∀{x},fo=some x->FnS P f (fT w) xs [] [] sv Lf x) (A:fo.bind kf=some q)
  (k:∀x,fo=some x->kf x=some q->∀y:ex,G (.mk P T hT n c B0 N X Q) K' m' ((d,sv x y)::e') (L'++Lf x y) l):G (.mk P T hT n c B0 N X Q) K m e L cf:=by
 refine iV (g:=.mk P T hT n c B0 N X Q) ?_;rw[I];intro E args F J R M ⟨ys,s,t⟩ u D U;subst t;cases i:fo with
 |none=>grind
 |some x=>
  rw[i] at A;refine U ex (λ_=>m') (λy=>(d,sv x y)::e') (λy=>L'++Lf x y) (λy=>tV _) (λB a w next Q' hm r z b=>?_) (k x i A);obtain⟨h,j⟩:=S ⟨_,z⟩ i;obtain⟨vs,h1,Z⟩:=aFK r s;obtain⟨v,C,Y⟩:=fL r M;simp[gT,bE] at C;subst C;have W:=j vs (aHV u (by rw[US];exact h1)) (a8V w);have V:=XO (w:=w) h J Y Z;unfold Oper.wp;rw[V _ a r.env,Oper.upon_enter];refine Calls.mono W λen w' ⟨v,H,y,g1,g2⟩=>?_;subst H;rw[R];have g3:=AE (B0S (.mk P T hT n c B0 N X Q) p++B) g1;exact b y _ _ ⟨[],aj,by simpa using r.of aj (r.env.put (by grind[tR,AA]) v),by simpa using z.after (hn x y) g2⟩
end
section
variable {P:Program} {T:TT} {hT:I3 P T} {n:Nat} {c:Ctx} {B0:Bl} {N:Act->World->Prop} {X:Nat->Act->World->Prop} {Q:Act->World->Prop} {K K':a8} {m m':Nat} {e e':SE} {L L':an} {cf:wJ}
def NxP(n:Nat)(c:Ctx)(B0:Bl){σ ρ υ:Type}(o:Step σ ρ)(m:Nat)(el:σ->υ->SE)(b:σ->υ->an):Act->World->Prop:=λa w=>∃s u,o=.next s/\rU n c B0 m (el s u) (b s u) a w
def BkP(n:Nat)(c:Ctx)(B0:Bl){β ρ υ:Type}(ro:ρ)(d:β->ρ)(m:Nat)(f:β->υ->SE)(g:β->υ->an)(id:Nat)(X:Nat->Act->World->Prop):Nat->Act->World->Prop:=λi a w=>if i=id then ∃b u,ro=d b/\rU n c B0 m (f b u) (g b u) a w else X i a w
theorem lp{σ ρ υ β ω O:Type}{id:Nat}{y:Code}{x:σ->Option (Step σ ρ)}{s0:σ}{v:ρ->Option O}{q:O}(j:υ)(k:ar)(el:σ->υ->SE)(d is:ar)(t:σ->υ->an)(f:β->ρ)(kb:ar)(D:β->ω->SE)(z:ar)(E:β->ω->an)
  (I:j7 T n K cf m e L=.loop id y K' m' e' L') (l:(loop x s0).bind v=some q)
  (V:asT B0.length m' e' L' d m' (el s0 j++kp e' k) (t s0 j++kl L' is)=some (el s0 j++kp e' k,t s0 j++kl L' is))
  (H:∀ro,v ro=some q->∀s u o,x s=some o->(∀p,o=.stop p->p=ro)->G (.mk P T hT n c B0 (NxP n c B0 o m' (λs u=>el s u++kp e' k) (λs u=>t s u++kl L' is)) (BkP n c B0 ro f m' (λb u=>D b u++kp e' kb) (λb u=>E b u++kl L' z) id (XK (.mk P T hT n c B0 N X Q) K')) Q) [] m' (el s u++kp e' k) (t s u++kl L' is) (.c y))
  (F:∀b u,v (f b)=some q->G (.mk P T hT n c B0 N X Q) K' m' (D b u++kp e' kb) (E b u++kl L' z) .n):G (.mk P T hT n c B0 N X Q) K m e L cf:=by
 refine iV (g:=.mk P T hT n c B0 N X Q) ?_;rw[I];intro a w J;cases A:loop x s0 with
 |none=>grind
 |some ro=>
  rw[A] at l;have l:v ro=some q:=l;refine a0J (bGC (body:=x) (r:=ro) (λs a w=>∃u,rU n c B0 m' (el s u++kp e' k) (t s u++kl L' is) a w) ?_ A ⟨j,J.asT d V⟩);intro s a w o ⟨u,U⟩ S M;refine CW.mono (H ro l s u o S M a w U) ?_ ?_ (λ_ _ h=>h)
  .rintro a w ⟨Y,W,C,B⟩;grind
  .intro i a w h;simp only[XK,BkP,aV5] at h ⊢;split
   .rename_i R;rw[aM R] at h;obtain⟨b,u,C,B⟩:=h;exact F b u (C ▸ l) a w B
   grind
theorem nx{σ ρ υ:Type}{o:Step σ ρ}{d:Nat}{el:σ->υ->SE}{b:σ->υ->an}{s:σ}(u:υ)(is:ar)(j:some (Step.next s)=some o)(f:j7 T n K cf m e L=.fin m' e' L')(h:asT B0.length m' e' L' is d (el s u) (b s u)=some (el s u,b s u)):G (.mk P T hT n c B0 (NxP n c B0 o d el b) X Q) K m e L cf:=
 iV (g:=.mk P T hT n c B0 _ X Q) (by
  rw[f];cases j;exact λa w i=>⟨s,u,rfl,i.asT is h⟩)
theorem bk{σ ρ β υ:Type}{o:Step σ ρ}{ro:ρ}{d:β->ρ}{j id:Nat}{f:β->υ->SE}{i:β->υ->an}{b:β}(u:υ)(is:ar)(q:some (Step.stop (d b))=some o)(k:∀p,o=.stop p->p=ro)(l:j7 T n K cf m e L=.ex id m' e' L')(h:asT B0.length m' e' L' is j (f b u) (i b u)=some (f b u,i b u)):G (.mk P T hT n c B0 N (BkP n c B0 ro d j f i id X) Q) K m e L cf:=
 iV (g:=.mk P T hT n c B0 N _ Q) (by
  rw[l];cases q;have:=k _ rfl;subst this;intro a w k;show BkP n c B0 (d b) d j f i id X id a w;unfold BkP;rw[aM rfl];exact⟨b,u,rfl,k.asT is h⟩)
theorem re{σ ρ O:Type}{o:Step σ ρ}{p ro:ρ}{F:ρ->Option O}{q:Option O}{a:Option (Step σ ρ)}(f:a=some o)(b:a=some (Step.stop p))(d:∀p,o=.stop p->p=ro)(g:F ro=q):F p=q:=aj
structure F8 (O:Type) [aN O] where
 ex:Type
 cs:O->ex->aq
 sub:dA->World->O->ex->Prop
 ok:∀{S w ec x},aN.rd S w ec x->∃y,bE (cA []) (cs x y)=some ec/\sub S w x y
 sv:O->ex->SV
 bPL:∀{S S' w w' x y},sub S w x y->(∀b o,S b o->w'.cell? ⟨b,o,none⟩=w.cell? ⟨b,o,none⟩)->(∀b o,S b o->S' b o)->sub S' w' x y
def cI:F8 Int:=⟨Unit,λx _=>[.i .i64 x],λ_ _ _ _=>True,λh=>⟨(),by cases h;rfl,trivial⟩,λx _=>.i .i64 x,λ_ _ _=>trivial⟩
def cU:F8 UInt8:=⟨Unit,λx _=>[.y x],λ_ _ _ _=>True,λh=>⟨(),by cases h;rfl,trivial⟩,λx _=>.y x,λ_ _ _=>trivial⟩
theorem uL{O:Type}[aN O]{S:dA}{w:World}{ec:ao}{l:List O}(h:aN.rd S w ec l):∃s:AC,ec=[s.v l.length]:=by obtain⟨b,m,a,_⟩:=(show AB S w ec l from h);exact⟨⟨b,m⟩,a⟩
def cL{O:Type}[aN O]:F8 (List O):=⟨AC,λx y=>[.h y x.length],λS w x y=>aN.rd S w [y.v x.length] x,λh=>by
 obtain⟨s,a⟩:=uL h;subst a;exact⟨s,rfl,h⟩,λx y=>.h y x.length,λh a b=>aN.rd_mono (aN.rd_agree h a) b⟩
theorem St.bNH{w:World}{M:bc}{R:bn}{f:Fact}(h:St c w M R)(s0:∀b o,c.S0 b o->b<c.w0.heap.size)(p:f.P c.S0 c.w0):St c w M (R++[f]):=by
 obtain⟨F,S,s,r,l,u,t,q⟩:=h.sep;refine⟨h.keep,⟨F,λb o=>S b o\/c.S0 b o,s,?_,l,?_,?_,?_⟩,h.apart⟩
 .rintro b o k (a|a)
  .exact r b o k a
  .obtain i|i:=l b o k
   .exact h.apart b o i a
   grind
 .grind
 .rintro b o (a|a)
  .grind
  .exact SS (s0 b o a) h.keep.size
 .intro g d;obtain d|d:=j4.1 d
  .exact g.mono (q g d) λb o a=>.inl a
  .simp at d;subst d;exact g.mono (g.agree p λb o j=>h.keep.cell b o (s0 b o j) λi=>h.apart b o i j) λb o a=>.inr a
theorem nZ.bNI{w:World}{B:Bl}{k b z:Nat}{cs:aq}{vs:ao}(h:nZ c w B L)(f:B[k]?=some (b,z))(i:bE (cA B) cs=some vs)(g:(fAt b z vs).P c.S0 c.w0):nZ c w B (L++[.ro k cs]):=by
 obtain⟨⟨R,d,j⟩,s0⟩:=h;refine⟨⟨R++[fAt b z vs],?_,λx a=>?_⟩,s0⟩
 .rw[D1];exact St.more (ch:=QY) (St.bNH d s0 g) (fN.refl _ _) ⟨F0,λ_ _ h=>h,λ_ _ h=>h.elim⟩
 .obtain a|a:=j4.1 a
  .grind[aHQ]
  .simp at a;subst a;exact⟨b,z,vs,f,i,ae⟩
theorem ix{O β:Type}{iR:aN O}(C:F8 O){o:Oper}{d t:Nat}{s:AC}{i:Int}{Lv:an}{D l:wJ}{ls:List O}{kf:O->Option β}{q:β}{el sz:Nat}{b1 b2:Bool}{M J:aq}{Z:TK}{Y:Nat}(hs:j7 T n K cf m e L=.idx o d t s ls.length i Lv D l K' m' e' L')(I:bJ c s ls)(F:(idx ls i).bind kf=some q)(ht:AY T t=some ⟨.sl el,b1,Y,M⟩)(he:AY T el=some ⟨Z,b2,sz,J⟩)(hn:aN.n O=sz)
  (k:∀x,idx ls i=some x->kf x=some q->∀y:C.ex,C.sub c.S0 c.w0 x y->G (.mk P T hT n c B0 N X Q) K' (m'+1) ((d,.p m' 0)::e') (L'++[.ro m' (C.cs x y)]) (l.ext [.ro m' (C.cs x y)])):G (.mk P T hT n c B0 N X Q) K m e L cf:=by
 refine iV (g:=.mk P T hT n c B0 N X Q) ?_;rw[hs];intro x' y' ho hd hx hy hP;cases p:idx ls i with
 |none=>grind
 |some x=>
  rw[p] at F;obtain⟨dd,A,j⟩:=hT.und _ _ ht;simp only at j;subst j;obtain⟨ec,W,V⟩:=bKW (S:=c.S0) (w:=c.w0) I (EV p).2.2;obtain⟨y,U,R⟩:=C.ok V;subst hn;refine hP d (.p m' 0) [.ro m' (C.cs x y)] (λ_=>[(elB (s.v ls.length),Y5 (aN.n O) i.toNat (s.v ls.length))]) 1 hd (λ_=>rfl) (λB a w H E hm=>?_) (λB w L hm E=>?_) (k x p F y R)
  .obtain⟨v,g1,g2⟩:=fL H hx;obtain⟨u,g3,g4⟩:=fL H hy;cases g1;cases g3;have r:aN.rd c.S0 w [s.v ls.length] ls:=aXQ E (f:=fRd [s.v ls.length] ls) I;exact⟨_,by grind[gT,gV,cA],bKO (P:=P) (o:=o) (w:=w) r rfl p A (hT.size _ _ he) ho g2 g4⟩
  .exact(E.app _).bNI (b:=elB (s.v ls.length)) (z:=Y5 (aN.n O) i.toNat (s.v ls.length)) aj (gH (λx v h=>by simpa using iI (B:=[]) _ h) U) W
theorem dr{id:Nat}{ops:bj}(is:ar)(f:j7 T n K cf m e L=.rgn id ops K' m' e' L')(i:P.follows .mixedOrders=true)(b:(a0R ops && (okL m' (kl L' is) && (eA is && is.all λj=>Nat.blt j L'.length)))=true)
  (k:∀B1,G (.mk P T hT n c B0 N X Q) K' m' e' L' (.d B1 ops (List.replicate ops.size false) is (kl L' is) (kl L' is))):G (.mk P T hT n c B0 N X Q) K m e L cf:=by refine iV (g:=.mk P T hT n c B0 N X Q) ?_;rw[f];intro a w ⟨B,d,r,l⟩;simp only[ET,aT4,AA] at b;obtain⟨q,s,p,o⟩:=b;refine wp_region_held (S:=Sd (.mk P T hT n c B0 N X Q) (B0++B) (kl L' is)) i ?_;have:=k (B0++B) ⟨⟨B,rfl⟩,ae,q,rfl,o,aj,p⟩ a w.drew ⟨[],aj,aj,by simpa using l.bK9 (fN.drew F0 w),λw' h=>aj⟩;simp_all
end
inductive StF (P:Program):List Field->b5->Prop where
 |n:StF P [] []
 |c {F:Field} {Fs:List Field} {fs:b5} {m:Nat} (h:∀w,(sizeOf F.type).run P w=.ok m w) (t:StF P Fs fs):StF P (F::Fs) ((F.offset,m)::fs)
section
variable {P:Program} {T:TT} {t n:Nat} {a:Bool} {zs:aq} {z:Value}
theorem StF.off{Fs:List Field}{fs:b5}(h:StF P Fs fs):Fs.map (·.offset)=fs.map (·.1):=by
 induction h with
 |n=>rfl
 |c h t b=>simp[b]
theorem StF.get{Fs:List Field}{fs:b5}(h:StF P Fs fs):∀(j:Nat) F,Fs[j]?=some F->∃m,fs[j]?=some (F.offset,m)/\∀w,(sizeOf F.type).run P w=.ok m w:=by
 induction h with
 |n=>simp
 |c h t b=>
  intro j F d;cases j with
  |zero=>simp_all
  |succ j=>grind
theorem StF.run{Fs:List Field}{fs:b5}(h:StF P Fs fs)(w:World):(Fs.mapM λf=>(do pure (f.offset,<-sizeOf f.type):Sem (Nat×Nat))).run P w=.ok fs w:=by
 induction h with
 |n=>simp
 |c h t b=>simp_all
theorem I3.nil:I3 P []:=⟨λ_ _ h=>(by cases h),λ_ _ h=>(by cases h),λ_ _ h=>(by cases h),λ_ _ h=>(by cases h)⟩
theorem I3.add{k:TK}{d:TypeDesc}(g:P.underlying t=some d)(o:match k with
  |.i k=>d=.int k
  |.b=>d=.bool
  |.st fs=>∃Fs:Array Field,d=.struct Fs/\Fs.toList.map (·.offset)=fs.map (·.1)/\(∀(j:Nat) F,Fs[j]?=some F->∃m,fs[j]?=some (F.offset,m)/\∀w,(sizeOf F.type).run P w=.ok m w)/\∀w,(Fs.mapM λf=>(do pure (f.offset,<-sizeOf f.type):Sem (Nat×Nat))).run P w=.ok fs.toArray w
  |.s=>d=.string
  |.sl el=>d=.slice el
  |.x=>True) (q:∀w,(isAgg t).run P w=.ok a w) (l:∀w,(sizeOf t).run P w=.ok n w) (e:∀w,(zeroValue t).run P w=.ok z w) (p:bE (cA []) zs=some z.cells.toList) (h:I3 P T):I3 P ((t,⟨k,a,n,zs⟩)::T):=by
 refine⟨λc i b=>?_,λc i b=>?_,λc i b=>?_,λc i b=>?_⟩<;>simp only[AY] at b<;>split at b
 .grind[rR]
 .exact h.und c i b
 .grind[rR]
 .exact h.agg c i b
 .grind[rR]
 .exact h.size c i b
 .grind[rR]
 .exact h.zero c i b
theorem I3.st{fs:b5}{Fs:List Field}(d:P.underlying t=some (.struct Fs.toArray))(b:StF P Fs fs)(g:∀w,(isAgg t).run P w=.ok a w)(e:∀w,(sizeOf t).run P w=.ok n w)(c:∀w,(zeroValue t).run P w=.ok z w)(f:bE (cA []) zs=some z.cells.toList)(h:I3 P T):I3 P ((t,⟨.st fs,a,n,zs⟩)::T):=
 I3.add (k:=.st fs) d ⟨Fs.toArray,rfl,by simpa using b.off,λj F i=>b.get j F aj,λw=>by
  have:=b.run w;simp_all⟩ g e c f h
end
abbrev I(x:Int):SV:=.i .i64 x
section
variable {P:Program} {T:TT} {hT:I3 P T} {n:Nat} {c:Ctx} {B0:Bl} {N:Act->World->Prop} {X:Nat->Act->World->Prop} {Q:Act->World->Prop} {K K':a8} {m m':Nat} {e e':SE} {L L':an} {cf cf1 cf2:wJ} {o:Oper} {Lv:an} {d:Nat}
theorem ext_nil:cf.ext []=cf:=by cases cf<;>simp[wJ.ext]
theorem pu{x:SV}(h:opS (j7 T n K cf m e L)=some (o,Lv,cf1,cf2,K',m',e',L'))(i:o.dst=some d)(l:∀B a w,iW n B e' a->nZ c w B Lv->∃v,gT B x=some v/\gD P o (vE B e') w v w)
  (k:G (.mk P T hT n c B0 N X Q) K' m' ((d,x)::e') L' cf2):G (.mk P T hT n c B0 N X Q) K m e L cf:=by
 refine iV (g:=.mk P T hT n c B0 N X Q) ?_;have b:aHT (.mk P T hT n c B0 N X Q) K' m' e' L' o Lv cf1 cf2->G (.mk P T hT n c B0 N X Q) K' m' e' L' cf1:=λf=>by refine f d x [] (λ_=>[]) 0 i (λ_=>rfl) (λB a w p j _=>?_) (λB w L _ j=>aj) (by grind[ext_nil]);grind
 generalize j7 T n K cf m e L=s at h;cases s<;>simp only[opS] at h<;>cases h
 .exact λ_ f=>b f
 .exact λ_ f _=>b f
theorem AW{x:Operand}{k:IntKind}{i:Int}{B:Bl}{a:Act}(f:iW n B e a)(h:(jS e x).bind uK=some (k,i)):ev (vE B e) x=some (.int k i):=by
 cases b:jS e x with
 |none=>grind
 |some y=>
  grind[fL,a33]
section
variable {x y:Operand} {t z:TypeId} {k:IntKind} {i j:Int} {O:Type} {A:Option O} {q:O}
theorem bNJ(p:opS (j7 T n K cf m e L)=some (o,Lv,cf1,cf2,K',m',e',L'))(b:(o.op,o.dst)=(.binOp .quo t x y z,some d))(l:(jS e' x).bind uK=some (k,i))(h:(jS e' y).bind uK=some (k,j))(f:need (j≠0) A=some q)
  (kk:A=some q->G (.mk P T hT n c B0 N X Q) K' m' ((d,.i k (k.wrap (i.tdiv j)))::e') L' cf2):G (.mk P T hT n c B0 N X Q) K m e L cf:=pu p (dL Prod.snd b) (λB a w g _=>⟨_,rfl,a3S (dL Prod.fst b) (AW g l) (AW g h) (mZ f).1⟩) (kk (mZ f).2)
theorem bNK(p:opS (j7 T n K cf m e L)=some (o,Lv,cf1,cf2,K',m',e',L'))(b:(o.op,o.dst)=(.binOp .rem t x y z,some d))(l:(jS e' x).bind uK=some (k,i))(h:(jS e' y).bind uK=some (k,j))(f:need (j≠0) A=some q)
  (kk:A=some q->G (.mk P T hT n c B0 N X Q) K' m' ((d,.i k (i.tmod j))::e') L' cf2):G (.mk P T hT n c B0 N X Q) K m e L cf:=pu p (dL Prod.snd b) (λB a w g _=>⟨_,rfl,a3T (dL Prod.fst b) (AW g l) (AW g h) (mZ f).1⟩) (kk (mZ f).2)
theorem bLA{x:Operand}{l:aF}{B:Bl}{a:Act}(b:iW n B e a)(h:jS e x=some (.s l)):ev (vE B e) x=some (sv l):=by obtain⟨v,g,f⟩:=fL b h;cases g;exact f
theorem cat{p r:aF}(s:opS (j7 T n K cf m e L)=some (o,Lv,cf1,cf2,K',m',e',L'))(b:(o.op,o.dst)=(.binOp .add t x y z,some d))(l:jS e' x=some (.s p))(h:jS e' y=some (.s r))(f:need (p.length+r.length<=9223372036854775807) A=some q)
  (kk:A=some q->G (.mk P T hT n c B0 N X Q) K' m' ((d,.s (p++r))::e') L' cf2):G (.mk P T hT n c B0 N X Q) K m e L cf:=pu s (dL Prod.snd b) (λB a w g _=>⟨_,rfl,bKM (dL Prod.fst b) (bLA g l) (bLA g h) (mZ f).1⟩) (kk (mZ f).2)
theorem bNL{x:Operand}{cs:aq}{vs:ao}{B:Bl}{a:Act}(l:iW n B e a)(h:(jS e x).map nbS=some (.g cs))(f:bE (cA []) cs=some vs):ev (vE B e) x=some (.agg vs.toArray):=by
 cases b:jS e x with
 |none=>grind
 |some y=>
  rw[b] at h;simp at h;obtain⟨v,r,p⟩:=fL l b;rw[p,<-r,<-aO8,h];simp only[gT,gV];have:=gH (g:=cA B) (λx v h=>by simpa using iI (B:=[]) B h) f;rw[this]
theorem neS{xs l:aq}{r p:ao}{fs:Array Field}{b:Bool}(F:P.eqGuardType P.depth t=false)(h:P.stoodInHeld t=false)(D:P.underlying t=some (.struct fs))(H:∀w,(Op.eqFields 9999 r.toArray p.toArray (match P.underlying t with|some (.struct fs)=>fs|_=>#[]).toList).run P w=.ok b w)(E:opS (j7 T n K cf m e L)=some (o,Lv,cf1,cf2,K',m',e',L'))(s:(o.op,o.dst)=(.binOp .neq t x y z,some d))(C:(jS e' x).map nbS=some (.g xs))(v:(jS e' y).map nbS=some (.g l))(g:bE (cA []) xs=some r)(f:bE (cA []) l=some p)
  (kk:G (.mk P T hT n c B0 N X Q) K' m' ((d,.b (!b))::e') L' cf2):G (.mk P T hT n c B0 N X Q) K m e L cf:=pu E (dL Prod.snd s) (λB a w u _=>⟨_,rfl,bGP F h D H (dL Prod.fst s) (bNL u C g) (bNL u v f)⟩) kk
theorem cl0{O β:Type}{fo:Option O}{kf:O->Option β}{q:β}{f:FuncId}{xs:aq}{sv:O->SV}(a:j7 T n K cf m e L=.call o (some d) f xs cf1 cf2 K' m' e' L')
  (b:∀{w},HS c w L'->∀{x},fo=some x->Fn0 P f (fT w) xs sv x) (g:fo.bind kf=some q)
  (k:∀x,fo=some x->kf x=some q->G (.mk P T hT n c B0 N X Q) K' m' ((d,sv x)::e') L' cf2):G (.mk P T hT n c B0 N X Q) K m e L cf:=cl (Lf:=λ_ _=>[]) a (λ_ _=>rfl) (λh=>b h) g (λx l p _=>aj)
theorem lr{σ ρ υ O:Type}{id:Nat}{y:Code}{v:σ->Option (Step σ ρ)}{s0:σ}{r:ρ->Option O}{q:O}(f:υ)(g:ar)(el:σ->υ->SE)(a is:ar)(h:σ->υ->an)
  (B:j7 T n K cf m e L=.loop id y K' m' e' L') (E:(loop v s0).bind r=some q)
  (F:asT B0.length m' e' L' a m' (el s0 f++kp e' g) (h s0 f++kl L' is)=some (el s0 f++kp e' g,h s0 f++kl L' is))
  (w:∀ro,r ro=some q->∀s u o,v s=some o->(∀p,o=.stop p->p=ro)->G (.mk P T hT n c B0 (NxP n c B0 o m' (λs u=>el s u++kp e' g) (λs u=>h s u++kl L' is)) (BkP n c B0 ro (λb:Empty=>nomatch b) m' (λ(b:Empty) (_:Unit)=>nomatch b) (λb _=>nomatch b) id (XK (.mk P T hT n c B0 N X Q) K')) Q) [] m' (el s u++kp e' g) (h s u++kl L' is) (.c y)):G (.mk P T hT n c B0 N X Q) K m e L cf:=
 lp (β:=Empty) (ω:=Unit) f g el a is h (λb=>nomatch b) [] (λb=>nomatch b) [] (λb=>nomatch b) B E F (λro l s u o D C=>by
  have:=w ro l s u o D C;have I:(λ(b:Empty) (u:Unit)=>((λb=>nomatch b:Empty->Unit->SE) b u++kp e' []))=(λ(b:Empty) (_:Unit)=>nomatch b):=funext λb=>nomatch b
  have H:(λ(b:Empty) (u:Unit)=>((λb=>nomatch b:Empty->Unit->an) b u++kl L' []))=(λ(b:Empty) (_:Unit)=>nomatch b):=funext λb=>nomatch b
  simp_all) (λb=>nomatch b)
end
end
section
variable {P:Program} {T:TT} {hT:I3 P T} {n:Nat} {c:Ctx} {B0:Bl} {N:Act->World->Prop} {X:Nat->Act->World->Prop} {Q:Act->World->Prop} {K K':a8} {m m':Nat} {e e':SE} {L L':an} {cf cf1 cf2:wJ} {o:Oper} {Lv:an} {d:Nat}
def Fu1(P:Program)(c:Ctx){O β:Type}{b:aN O}(C:F8 O)(a:β->SV)(g:FuncId)(cap:ao)(p:O->Option β):Prop:=(∀args w,(callFunc g args).run P w=.ok (.enter g args) w)/\∀w,fN c.W c.w0 w->∀x y,C.sub (All w) w x y->∀q,p x=some q->∀v,gT [] (C.sv x y)=some v->Calls P g (v::cap).toArray w (Ret λu w'=>gT [] (a q)=some u/\nZ (fT w) w' [] [])
def Fu2(P:Program)(c:Ctx){O a β:Type}{l:aN O}{j:aN a}(C:F8 O)(i:F8 a)(k:β->SV)(g:FuncId)(cap:ao)(p:O->a->Option β):Prop:=(∀args w,(callFunc g args).run P w=.ok (.enter g args) w)/\∀w,fN c.W c.w0 w->∀x y b f,C.sub (All w) w x y->i.sub (All w) w b f->∀q,p x b=some q->∀v h,gT [] (C.sv x y)=some v->gT [] (i.sv b f)=some h->Calls P g (v::h::cap).toArray w (Ret λu w'=>gT [] (k q)=some u/\nZ (fT w) w' [] [])
theorem bCL{O:Type}{i:aN O}(C:F8 O){w:World}{B:Bl}(f:nZ c w B L){x:O}{y:C.ex}(h:C.sub c.S0 c.w0 x y):C.sub (All w) w x y:=by refine C.bPL h (λb o a=>?_) (a37 f);obtain⟨⟨R,s1,_⟩,s0⟩:=f;exact s1.keep.cell b o (s0 b o a) λg=>s1.apart b o g a
theorem nZ.bCM{w:World}{B:Bl}(a:nZ c w B L):fN c.W c.w0 w:=by obtain⟨⟨R,s1,_⟩,s0⟩:=a;exact s1.keep
section
variable {O α' β γ:Type} {iR:aN O} {iR':aN α'} {C:F8 O} {C':F8 α'} {sr:β->SV} {g:FuncId} {cap:ao} {q:γ} {kf:β->Option γ} {fo:Operand} {args:Array Operand} {ats:Array TypeId}
theorem bCN{f:FuncId}{x:Operand}{b:Array TypeId}{vs:ao}{E:Env}{w:World}(a:∀args w,(callFunc f args).run P w=.ok (.enter f args) w)(j:o.op=.call {callee:=.value x,args:=args,argTypes:=b})(h:ev E x=some (.func (.func f) #[] cap.toArray))(i:evs E args.toList=some vs):bJ7 P o E w f (vs++cap).toArray:=a0N (w:=w) (cap:=cap) (xs:=args.toList) (vs:=vs) a aa h i
theorem aWH{B:Bl}{x:SV}{v:Value}(h:CR 0 x=true)(a:gT B x=some v):gT [] x=some v:=by have:=ZA h a;grind
theorem fa1{p:O->Option β}(H:Fu1 P c C sr g cap p)(x:O)(y:C.ex)(U:j7 T n K cf m e L=.op o Lv cf1 cf2 K' m' e' L')(I:(o.op,o.dst)=(.call {callee:=.value fo,args:=args,argTypes:=ats},some d))(V:jS e' fo=some (.k (.func (.func g) #[] cap.toArray)))(A:(bE (jS e') args.toList).map nbT=some [C.sv x y])(R:CR 0 (C.sv x y)=true)(S:C.sub c.S0 c.w0 x y)(J:(p x).bind kf=some q)
  (k:∀z,p x=some z->kf z=some q->G (.mk P T hT n c B0 N X Q) K' m' ((d,sr z)::e') L' cf2):G (.mk P T hT n c B0 N X Q) K m e L cf:=by
 refine iV (g:=.mk P T hT n c B0 N X Q) ?_;rw[U];intro t _ Y;obtain⟨f,h⟩:=H;cases D:p x with
 |none=>grind
 |some z=>
  rw[D] at J;refine Y Unit (λ_=>m') (λ_=>(d,sr z)::e') (λ_=>L') (λ_=>by simpa using tV (L:=L') []) (λB a w next Q' hm j E b=>?_) (λ_=>k z D J);cases i:bE (jS e') args.toList with
  |none=>grind
  |some ys=>
   rw[i] at A;simp at A;obtain⟨vs,r,h2⟩:=aFK j i;obtain⟨u,l,h4⟩:=fL j V;simp only[gT,gV,cA] at l;split at l
   .cases l;rw[<-a6Z,A] at r;simp only[bE] at r;cases F:gT (B0S (.mk P T hT n c B0 N X Q) cf1++B) (C.sv x y) with
    |none=>grind
    |some v=>
     rw[F] at r;cases r;have Z:=bCN (w:=w) f (dL Prod.fst I) h4 h2;have W:o.dst=some d:=dL Prod.snd I;unfold Oper.wp;rw[Z _ a j.env,Oper.upon_enter];refine Calls.mono (h w E.bCM x y (bCL C E S) z D v (aWH R F)) λen w' ⟨M,s,g1,g2⟩=>?_;subst s;rw[W] at t ⊢;have g3:=AE (B0S (.mk P T hT n c B0 N X Q) cf1++B) g1;exact b () _ _ ⟨[],aj,by simpa using j.of aj (j.env.put (by grind[tR,AA]) M),by simpa using E.after (L2:=[]) rfl g2⟩
   .cases l
theorem fu1{w:World}{p:O->Option β}(j:∀args w,(callFunc g args).run P w=.ok (.enter g args) w)(hn:∀{κ:Ctx} {x y},C.sub κ.S0 κ.w0 x y->∀{q},p x=some q->Fn0 P g κ [C.sv x y] sr q):Fu1 P (fT w) C sr g [] p:=
 ⟨j,λa _ x y f q i v h=>by
  refine Calls.mono ((hn (κ:=fT a) f i).run [v] (by simp[bE,h]) (a8V a)) λen w' ⟨b,r,y,l,k⟩=>⟨b,r,l,k⟩⟩
end
def roL:Nat->cn->an
 |_,[]=>[]
 |k,(_,cs)::r=>.ro k cs::roL (k+1) r
def roS:cn->an
 |[]=>[]
 |(n,cs)::r=>.ro n cs::roS r
def bCO:Nat->cn->aq
 |_,[]=>[]
 |k,_::r=>.p k 0::bCO (k+1) r
def XP(Bs:Bl):ao:=Bs.map λb=>.pointer (some ⟨b.1,b.2,none⟩)
theorem rk{O:Type}[aN O]{w f:World}{s:AC}{l:List O}(g:fN F0 w f)(h:bJ (fT w) s l):bJ (fT f) s l:=aN.rd_mono (aN.rd_agree h λb o a=>g.cell b o a λh=>h) λb o a=>SS a g.size
theorem fk1{O β:Type}{D:aN O}{C:F8 O}{b:β->SV}{g:FuncId}{w:World}{Bs:Bl}{cs:cn}{p:O->Option β}(s:∀args w,(callFunc g args).run P w=.ok (.enter g args) w)(t:∀a,fN F0 w a->nZ (fT a) a Bs (roL 0 cs))(F:bE (gT Bs) (bCO 0 cs)=some (XP Bs))(E:∀q,CR 0 (b q)=true)(hn:∀{a x y},fN F0 w a->C.sub (All a) a x y->∀{q},p x=some q->FnS P g (fT a) (C.sv x y::bCO 0 cs) Bs (roL 0 cs) (λr (_:Unit)=>b r) (λ_ _=>[]) q):Fu1 P (fT w) C b g (XP Bs) p:=
 ⟨s,λa f x y j q l v k=>by
  have h:gT Bs (C.sv x y)=some v:=by simpa using AE (B:=[]) Bs k
  refine Calls.mono ((hn f j l).run (v::XP Bs) (by grind[bE]) (t a f)) λen w' ⟨i,z,A,G,u⟩=>⟨i,z,?_,?_⟩
  .grind[aWH]
  .simpa using aHS (m:=0) u rfl⟩
theorem a66:∀{cs:cn} {k:Nat} {x:Ch},x∈roL k cs->∃j n c,cs[j]?=some (n,c)/\x=.ro (k+j) c
 |(n,c)::r,k,x,h=>by
  obtain h|h:=qM.1 h
  .simp_all
  .obtain⟨j,a,b,g,f⟩:=a66 h;exact⟨j+1,a,b,aj,aj⟩
theorem a67:∀{cs:cn} {n:Nat} {c:aq},(n,c)∈cs->Ch.ro n c∈roS cs
 |(a,b)::r,n,c,h=>by
  obtain h|h:=qM.1 h
  .cases h;exact aFH ..
  .exact uI _ (a67 h)
theorem bCP{B:Bl}{cs:cn}{cap:ao}:bE (aCD B) (cs.map (·.1))=some cap->∃Bs:Bl,cap=XP Bs/\Bs.length=cs.length/\∀(j:Nat) n c,cs[j]?=some (n,c)->∃b,Bs[j]?=some b/\B[n]?=some b:=by
 induction cs generalizing cap with
 |nil=>intro h;cases h;exact⟨[],rfl,rfl,ae⟩
 |cons p r g=>
  obtain⟨n,c⟩:=p;intro h;simp only[aFG,bE] at h;split at h
  .cases h
  .rename_i v a;split at h
   .cases h
   .rename_i vs f;cases h;obtain⟨Bs,k,i,t⟩:=g f;simp only[aCD] at a;split at a
    .rename_i b z s;cases a;refine⟨(b,z)::Bs,by simp[XP,k],by simp[i],λj l u q=>?_⟩;grind
    .cases a
def a0X:cn->Bool
 |[]=>true
 |(_,c)::r=>CR.okC 0 c && a0X r
theorem a0Y:∀{cs:cn} {j n:Nat} {c:aq},a0X cs=true->cs[j]?=some (n,c)->CR.okC 0 c=true
 |(b,f)::r,0,n,c,h,a=>by simp_all[a0X]
 |(b,f)::r,j + 1,n,c,h,a=>by simp only[a0X,ET] at h;exact a0Y h.2 (by simpa using a)
theorem bLB{w:World}{B Bs:Bl}{cs:cn}(S:nZ c w B L)(J:∀x∈roS cs,x∈L)(I:a0X cs=true)(V:∀(j:Nat) n c,cs[j]?=some (n,c)->∃b,Bs[j]?=some b/\B[n]?=some b):∀a,fN F0 w a->nZ (fT a) a Bs (roL 0 cs):=by
 intro a A;have facts:∀x∈roL 0 cs,∃(f:Fact),f.P (All a) a/\(∀R,f∈R->roF Bs R x)/\lS Bs x=QY:=by intro x H;obtain⟨j,n,cc,r,t⟩:=a66 H;subst t;obtain⟨⟨R,s1,F⟩,s0⟩:=S;obtain⟨b,z,vs,g1,Z,Y⟩:=F _ (J _ (a67 (O1 r)));obtain⟨b',G,D⟩:=V j n cc r;rw[g1] at D;cases D;have s:=F7 (a0Y I r) Z;rw[List.take_zero] at s;obtain⟨i,O⟩:=aLY Y;refine⟨fAt b z vs,bJF (s1.fact i O) A,λR U=>⟨b,z,vs,by simpa using G,gH (λx v h=>by simpa using iI (B:=[]) Bs h) s,U⟩,rfl⟩
 have l:∀M:an,(∀x∈M,x∈roL 0 cs)->∃R:bn,(∀f∈R,f.P (All a) a)/\(∀x∈M,roF Bs R x)/\M.map (lS Bs)=List.replicate M.length QY:=by
  intro M;induction M with
  |nil=>exact λ_=>⟨[],ae,ae,rfl⟩
  |cons x M C=>
   intro E;obtain⟨R,r,t,u⟩:=C λy p=>E y (uI _ p);obtain⟨f,f1,f2,f3⟩:=facts x (E x ae);refine⟨f::R,λg q=>?_,λy p=>?_,by simp[f3,u,List.replicate_succ]⟩
   .obtain q|q:=qM.1 q
    .subst q;exact f1
    .exact r g q
   .obtain p|p:=qM.1 p
    .subst p;exact f2 _ ae
    .exact aHQ (λg q=>uI _ q) (t y p)
 obtain⟨R,r,t,u⟩:=l (roL 0 cs) λ_ h=>h;refine⟨⟨R,?_,t⟩,λ_ _ h=>h⟩;rw[u];have W:St (fT a) a [] R:=St.enter r;generalize (roL 0 cs).length=k;clear u;induction k with
 |zero=>exact W
 |succ k C=>
  rw[List.replicate_succ'];exact St.more (ch:=QY) C (fN.refl _ _) ⟨F0,λ_ _ h=>h,λ_ _ h=>h.elim⟩
def shr(a:ar):an->an
 |[]=>[]
 |.box n cs::L=>match gO n a with
  |true=>.box n cs::shr a L
  |false=>.ro n cs::shr a L
 |x::L=>x::shr a L
theorem St.bLC{w:World}{M:bc}{R:bn}{b z i:Nat}{vs:ao}(h:St c w M R)(s:M[i]?=some (cAt b z vs)):St c w (M.set i QY) (R++[fAt b z vs]):=by
 have j:=h.take i s;obtain⟨F,S,⟨p,C,j,u,t,k⟩,B,A,G,E,y⟩:=j.sep;have q:∀l o,p l o->l<w.heap.size:=λ_ _ a=>Chunk.lt (cAt b z vs) j a;obtain⟨x,D,v⟩:=j;refine⟨h.keep,⟨C,λb o=>S b o\/p b o,u,?_,λb o a=>A b o ((k b o).2 (.inr a)),?_,?_,?_⟩,h.apart⟩
 .rintro b o a (g|g)
  .exact B b o ((k b o).2 (.inr a)) g
  .exact t b o g a
 .grind
 .grind
 .intro f a;obtain a|a:=j4.1 a
  .exact f.mono (y f a) λb o g=>.inl g
  .simp at a;subst a;exact⟨x,λo r=>.inr ((v b o).2 r)⟩
theorem aXR{w:World}{B:Bl}(g:ar):∀(M L:an),nZ c w B (M++L)->nZ c w B (M++shr g L)
 |M,[],h=>h
 |M,x::L,h=>by
  have gen:nZ c w B (M++x::shr g L):=by have:=aXR g (M++[x]) L (by simpa using h);grind
  cases x with
  |box n cs=>
   simp only[shr];split
   .exact gen
   .obtain⟨⟨R,s1,k⟩,s0⟩:=gen;have q:((M++Ch.box n cs::shr g L).map (lS B))[M.length]?=some (XM B n cs):=by simp[lS]
    obtain⟨F,b,z,vs,s,r,C⟩:=s1.chunk (ch:=XM B n cs) M.length q;have u:=s1.imp (kW.put M.length q λF ⟨D,y,t,p,l,v⟩=>by
     rw[s] at p;cases p;rw[r] at l;cases l;exact v)
    have A:=u.bLC (b:=b) (z:=z) (vs:=vs) (i:=M.length) (by rw[List.getElem?_set_self];simp);refine⟨⟨R++[fAt b z vs],?_,λx a=>?_⟩,s0⟩
    .have:((M++Ch.ro n cs::shr g L).map (lS B))=(((M++Ch.box n cs::shr g L).map (lS B)).set M.length (cAt b z vs)).set M.length QY:=by simp[lS]
     grind
    .obtain a|a:=j4.1 a
     .exact aHQ (λf j=>List.mem_append_left _ j) (k x (List.mem_append_left _ a))
     .obtain a|a:=qM.1 a
      .subst a;exact⟨b,z,vs,s,r,ae⟩
      .exact aHQ (λf j=>List.mem_append_left _ j) (k x (List.mem_append_right _ (uI _ a)))
  |_=>exact gen
theorem mf{f:FuncId}{i:Array Operand}{ops:bj}{l:cj}(b:ar)(v:j7 T n K cf m e L=.op o Lv (.r ops l) cf2 K' m' e' L')(r:(o.op,o.dst)=(.makeFunc (.func f) #[] i,some d))(u:bE (jS e') i.toList=some (b.map λn=>.p n 0))
  (k:G (.mk P T hT n c B0 N X Q) K' m' ((d,.f f b)::e') (shr b L') cf2):G (.mk P T hT n c B0 N X Q) K m e L cf:=by
 refine iV (g:=.mk P T hT n c B0 N X Q) ?_;rw[v];intro q _ y;refine y Unit (λ_=>m') (λ_=>(d,.f f b)::e') (λ_=>shr b L') (λ_=>trivial) (λB a w next J F p x j=>?_) (λ_=>k);obtain⟨vs,I,D⟩:=aFK p u;have s:o.dst=some d:=dL Prod.snd r;have H:∀{b:ar} {vs:ao},bE (gT (B0S (.mk P T hT n c B0 N X Q) (.r ops l)++B)) (b.map λn=>SV.p n 0)=some vs->bE (aCD (B0S (.mk P T hT n c B0 N X Q) (.r ops l)++B)) b=some vs:=by
  intro b;induction b with
  |nil=>intro vs h;exact h
  |cons E b t=>
   grind[bE,aCD,gT,gV,cA]
 have C:∀{os:List Operand} {vs:ao},evs (vE (B0S (.mk P T hT n c B0 N X Q) (.r ops l)++B) e') os=some vs->os.map (ev (vE (B0S (.mk P T hT n c B0 N X Q) (.r ops l)++B) e'))=vs.map some:=by
  intro os;induction os with
  |nil=>intro vs h;cases h;rfl
  |cons o os t=>
   grind[evs]
 have A:=bGK (P:=P) (w:=w) (vf:=[]) (vc:=vs) (dL Prod.fst r) rfl (C D);unfold Oper.wp;rw[A _ a p.env,Oper.upon_value,s];rw[s] at q;have z:gT (B0S (.mk P T hT n c B0 N X Q) (.r ops l)++B) (.f f b)=some (.func (.func f) #[] vs.toArray):=by grind[gT]
 exact j () _ _ ⟨[],aj,by simpa using p.of z (p.env.put (by grind[tR,AA]) _),by simpa using aXR b [] L' x⟩
theorem clc{O β:Type}{fo:Option O}{kf:O->Option β}{q:β}{f g:FuncId}{xs xs0:aq}{sv:O->SV}(is:ar)(cs:cn)(hs:j7 T n K cf m e L=.callp o (some d) f xs cf1 cf2 K' m' e' L')(hk:kl L' is=roS cs)(M:(a0X cs && okA xs.dropLast)=true)(V:xs=xs.dropLast++[.f g (cs.map (·.1))])
  (hc:∀{w},HS c w L'->∀{Bs:Bl},Bs.length=cs.length->(∀J,fN F0 w J->nZ (fT J) J Bs (roL 0 cs))->∀{x},fo=some x->Fn0 P f (fT w) (xs.dropLast++[.k (.func (.func g) #[] (XP Bs).toArray)]) sv x) (W:fo.bind kf=some q)
  (k:∀x,fo=some x->kf x=some q->G (.mk P T hT n c B0 N X Q) K' m' ((d,sv x)::e') L' cf2):G (.mk P T hT n c B0 N X Q) K m e L cf:=by
 refine iV (g:=.mk P T hT n c B0 N X Q) ?_;rw[hs];intro fo' args ats I hd hf ⟨ys,E,F⟩ hdn hE;rw[ET] at M;cases r:fo with
 |none=>grind
 |some x=>
  rw[r] at W;refine hE Unit (λ_=>m') (λ_=>(d,sv x)::e') (λ_=>L') (λ_=>by simpa using tV (L:=L') []) (λB a w next Q' hm C R l=>?_) (λ_=>k x r W);obtain⟨vs,S,h2⟩:=aFK C E;obtain⟨v,Y,h4⟩:=fL C hf;simp[gT,bE] at Y;subst Y;rw[<-US,F] at S;rw[V] at S;have split:∀{i:aq} {b:SV} {vs:ao} {B:Bl},bE (gT B) (i++[b])=some vs->∃j v,bE (gT B) i=some j/\gT B b=some v/\vs=j++[v]:=by
   intro i;induction i with
   |nil=>
    grind[bE]
   |cons a i U=>
    intro b vs B h;simp only[aCN,bE] at h;grind[bE]
  obtain⟨j,fv,g1,D,rfl⟩:=split S;simp only[gT] at D;split at D
  .rename_i cap A;cases D;obtain⟨Bs,b1,b2,b3⟩:=bCP A;subst b1;have z:∀x∈roS cs,x∈L':=λx V=>aQC (is:=is) aj;obtain⟨p,t⟩:=hc ⟨_,R⟩ b2 (bLB R z M.1 b3) r;have s:∀{i:aq} {j:ao} {b:SV} {v:Value},bE (gT []) i=some j->gT [] b=some v->bE (gT []) (i++[b])=some (j++[v]):=by
    intro i;induction i with
    |nil=>grind[bE]
    |cons a i U=>
     intro j b v h hb;simp only[bE] at h;split at h
     .cases h
     .rename_i u hu;split at h
      .cases h
      .rename_i Z H;cases h;simp[bE,hu,U H hb]
   have h5:=t (j++[.func (.func g) #[] (XP Bs).toArray]) (s (aHV M.2 g1) (by simp[gT,gV,cA,Value.oneCell'])) (a8V w);have h6:=XO (w:=w) p I h4 h2;unfold Oper.wp;rw[h6 _ a C.env,Oper.upon_enter];refine Calls.mono h5 λen w' ⟨v,hv,y,e1,e2⟩=>?_;subst hv;rw[hd];have g3:=AE (B0S (.mk P T hT n c B0 N X Q) cf1++B) e1;exact l () _ _ ⟨[],aj,by simpa using C.of aj (C.env.put (by grind[tR,AA]) v),by simpa using R.after (L2:=[]) rfl e2⟩
  .cases D
theorem HS.u1{O β:Type}{j:aN O}{C:F8 O}{a:β->SV}{g:FuncId}{cap:ao}{w:World}{p:O->Option β}(h:HS c w L)(H:Fu1 P c C a g cap p):Fu1 P (fT w) C a g cap p:=by obtain⟨B,i⟩:=h.ex;exact⟨H.1,λb f=>H.2 b (i.bCM.trans f λ_ _ _ h=>h.elim)⟩
theorem HS.u2{O a β:Type}{q:aN O}{i:aN a}{C:F8 O}{f:F8 a}{b:β->SV}{g:FuncId}{cap:ao}{w:World}{p:O->a->Option β}(h:HS c w L)(H:Fu2 P c C f b g cap p):Fu2 P (fT w) C f b g cap p:=by obtain⟨B,l⟩:=h.ex;exact⟨H.1,λj k=>H.2 j (l.bCM.trans k λ_ _ _ h=>h.elim)⟩
theorem bPG{O β:Type}{fo:Option O}{kf:O->Option β}{q:β}{f g:FuncId}{xs:aq}{sv:O->SV}{a:Nat}{c1:aq}(is:ar)(p:j7 T n K cf m e L=.callp o (some d) f xs cf1 cf2 K' m' e' L')(t:kl L' is=[.ro a c1])(r:(a0X [(a,c1)] && okA xs.dropLast)=true)(l:xs=xs.dropLast++[.f g [a]])
  (u:∀{w},HS c w L'->∀{j:Nat×Nat},(∀b,fN F0 w b->nZ (fT b) b [j] [.ro 0 c1])->∀{x},fo=some x->Fn0 P f (fT w) (xs.dropLast++[.k (.func (.func g) #[] (XP [j]).toArray)]) sv x) (v:fo.bind kf=some q)
  (k:∀x,fo=some x->kf x=some q->G (.mk P T hT n c B0 N X Q) K' m' ((d,sv x)::e') L' cf2):G (.mk P T hT n c B0 N X Q) K m e L cf:=
 clc (xs0:=[]) is [(a,c1)] p t r l (λh y s i=>match y,s,i with|[_],_,i=>u h i) v k
end
section
variable {P:Program} {T:TT} {hT:I3 P T} {n:Nat} {c:Ctx} {B0:Bl} {N:Act->World->Prop} {X:Nat->Act->World->Prop} {Q:Act->World->Prop} {K K':a8} {m m':Nat} {e e':SE} {L L':an} {cf cf1 cf2:wJ} {o:Oper} {Lv:an} {d:Nat}
variable {x y z:Operand} {t t2:TypeId} {k k2:IntKind} {i j:Int} {O β:Type} {A:Option β} {q:β}
theorem a8X(l:opS (j7 T n K cf m e L)=some (o,Lv,cf1,cf2,K',m',e',L'))(b:(o.op,o.dst)=(.call {callee:=.builtin .min,args:=#[x,y],argTypes:=#[t,t2]},some d))(h:(jS e' x).bind uK=some (.i64,i))(g:(jS e' y).bind uK=some (k,j))
  (kk:G (.mk P T hT n c B0 N X Q) K' m' ((d,.i .i64 (if j<i then j else i))::e') L' cf2):G (.mk P T hT n c B0 N X Q) K m e L cf:=pu l (dL Prod.snd b) (λB a w f _=>⟨_,rfl,bKQ (dL Prod.fst b) (AW f h) (AW f g)⟩) kk
theorem aXS(l:opS (j7 T n K cf m e L)=some (o,Lv,cf1,cf2,K',m',e',L'))(b:(o.op,o.dst)=(.call {callee:=.builtin .max,args:=#[x,y],argTypes:=#[t,t2]},some d))(h:(jS e' x).bind uK=some (.i64,i))(g:(jS e' y).bind uK=some (k,j))
  (kk:G (.mk P T hT n c B0 N X Q) K' m' ((d,.i .i64 (if i<j then j else i))::e') L' cf2):G (.mk P T hT n c B0 N X Q) K m e L cf:=pu l (dL Prod.snd b) (λB a w f _=>⟨_,rfl,bKR (dL Prod.fst b) (AW f h) (AW f g)⟩) kk
section
variable {l:aF} {b1:Bool} {n1:Nat} {z1:aq}
theorem bNN(f:AY T t=some ⟨.s,b1,n1,z1⟩)(hT:I3 P T):P.underlying t=some .string:=by obtain⟨g,b,a⟩:=hT.und _ _ f;grind
theorem qsi{kf:UInt8->Option β}(v:opS (j7 T n K cf m e L)=some (o,Lv,cf1,cf2,K',m',e',L'))(f:(o.op,o.dst)=(.index t x y,some d))(s:AY T t=some ⟨.s,b1,n1,z1⟩)(r:jS e' x=some (.s l))(p:(jS e' y).bind uK=some (k,i))(g:(idx l i).bind kf=some q)
  (kk:∀u,idx l i=some u->kf u=some q->G (.mk P T hT n c B0 N X Q) K' m' ((d,.y u)::e') L' cf2):G (.mk P T hT n c B0 N X Q) K m e L cf:=by
 cases b:idx l i with
 |none=>grind
 |some u=>
  rw[b] at g;exact pu v (dL Prod.snd f) (λB a w h _=>⟨_,rfl,bGW (bNN s hT) b (dL Prod.fst f) (bLA h r) (AW h p)⟩) (kk u b g)
end
section
variable [aN O] {s:AC} {l:List O} {el:TypeId} {b1 b2:Bool} {n1 sz:Nat} {z1 z2:aq} {kt:TK}
theorem hdB{B:Bl}{a:Act}(f:iW n B e a){b:Nat}(h:jS e x=some (.h s b)):ev (vE B e) x=some (s.v b):=by obtain⟨v,p,g⟩:=fL f h;cases p;exact g
theorem JA(f:AY T t=some ⟨.sl el,b1,n1,z1⟩)(hT:I3 P T):P.underlying t=some (.slice el):=by obtain⟨g,b,a⟩:=hT.und _ _ f;grind
theorem qsb{a b:Nat}(r:bJ c s l)(p:a<=b/\b<=l.length)(u:opS (j7 T n K cf m e L)=some (o,Lv,cf1,cf2,K',m',e',L'))(C:o.dst=some d)(v:∀B g w,iW n B e' g->aN.rd c.S0 w [s.v l.length] l->gD P o (vE B e') w (jT (aN.n O) a b (s.v l.length)) w)
  (kk:∀s',bJ c s' ((l.take b).drop a)->G (.mk P T hT n c B0 N X Q) K' m' ((d,.h s' ((l.take b).drop a).length)::e') L' cf2):G (.mk P T hT n c B0 N X Q) K m e L cf:=by have h:=a3W (n:=aN.n O) (a:=a) (b:=b) rfl r p.1 p.2;obtain⟨I,H,F,_⟩:=aP4 h;rw[F] at h;exact pu u C (λB g w E D=>⟨_,by grind[gT,gV,cA],v B g w E (aXQ D (f:=fRd [s.v l.length] l) r)⟩) (kk ⟨I,H⟩ h)
theorem a38(C:opS (j7 T n K cf m e L)=some (o,Lv,cf1,cf2,K',m',e',L'))(b:(o.op,o.dst)=(.slice t x (some y) (some z) none,some d))(v:AY T t=some ⟨.sl el,b1,n1,z1⟩)(D:AY T el=some ⟨kt,b2,sz,z2⟩)(hn:aN.n O=sz)(F:bJ c s l)(u:jS e' x=some (.h s l.length))(r:(jS e' y).bind uK=some (k,i))(p:(jS e' z).bind uK=some (k2,j))(f:need (0<=i/\i<=j/\j<=(l.length:Int)) A=some q)
  (kk:A=some q->∀s',bJ c s' ((l.take j.toNat).drop i.toNat)->G (.mk P T hT n c B0 N X Q) K' m' ((d,.h s' ((l.take j.toNat).drop i.toNat).length)::e') L' cf2):G (.mk P T hT n c B0 N X Q) K m e L cf:=by have E:=(mZ f).1;subst hn;exact qsb F aa C (dL Prod.snd b) (λB g w a h=>a8O h rfl (JA v hT) (hT.size _ _ D) E (dL Prod.fst b) (hdB a u) (AW a r) (AW a p)) (kk (mZ f).2)
theorem bCQ(v:opS (j7 T n K cf m e L)=some (o,Lv,cf1,cf2,K',m',e',L'))(a:(o.op,o.dst)=(.slice t x none (some z) none,some d))(u:AY T t=some ⟨.sl el,b1,n1,z1⟩)(C:AY T el=some ⟨kt,b2,sz,z2⟩)(hn:aN.n O=sz)(E:bJ c s l)(r:jS e' x=some (.h s l.length))(p:(jS e' z).bind uK=some (k2,j))(b:need (0<=j/\j<=(l.length:Int)) A=some q)
  (kk:A=some q->∀s',bJ c s' ((l.take j.toNat).drop 0)->G (.mk P T hT n c B0 N X Q) K' m' ((d,.h s' ((l.take j.toNat).drop 0).length)::e') L' cf2):G (.mk P T hT n c B0 N X Q) K m e L cf:=by have D:=(mZ b).1;subst hn;exact qsb E aa v (dL Prod.snd a) (λB g w f h=>bBJ h rfl (JA u hT) (hT.size _ _ C) D (dL Prod.fst a) (hdB f r) (AW f p)) (kk (mZ b).2)
end
section
variable {zv:Value} {n1 m1:Nat} {el:TypeId}
theorem bCR{B:Bl}{xs:aq}{vs:ao}(h:bE (gT []) xs=some vs):bE (gT B) xs=some vs:=gH (λx v h=>by simpa using AE (B:=[]) B h) h
theorem qba{ps:Array (Nat×Operand)}{xs:aq}{vs cells:ao}(cs:aq)(p:∀w,(zeroValue t).run P w=.ok zv w)(s:P.underlying t=some (.array n1 el))(C:∀w,(sizeOf el).run P w=.ok m1 w)(u:opS (j7 T n K cf m e L)=some (o,Lv,cf1,cf2,K',m',e',L'))(D:(o.op,o.dst)=(.build t ps,some d))(r:bE (jS e') (ps.toList.map (·.2))=some xs)(b:bE (gT []) xs=some vs)(f:bE (cA []) cs=some cells)(E:Instr.fill (λi=>some (i*m1,m1)) zv.cells ((ps.toList.map (·.1)).zip vs)=some cells.toArray)
  (kk:G (.mk P T hT n c B0 N X Q) K' m' ((d,.g cs)::e') L' cf2):G (.mk P T hT n c B0 N X Q) K m e L cf:=
 pu u (dL Prod.snd D) (λB a w F _=>⟨.agg cells.toArray,by
  simp only[gT,gV];rw[gH (g:=cA B) (λx v h=>by simpa using iI (B:=[]) B h) f],by
  obtain⟨I,l,H⟩:=aFK F r;rw[bCR b] at l;cases l;exact a8P (ps:=ps.toList) (by simp_all) p s C H E⟩) kk
theorem qai{γ:Type}(f:γ->Value)(g:γ->SV){l:List γ}{cs:aq}{kf:γ->Option β}(J:P.underlying t=some (.array n1 el))(F:∀w,(sizeOf el).run P w=.ok 1 w)(R:∀w,(isAgg el).run P w=.ok false w)(b:∀u,gT [] (g u)=some (f u))(M:opS (j7 T n K cf m e L)=some (o,Lv,cf1,cf2,K',m',e',L'))(C:(o.op,o.dst)=(.index t x y,some d))(I:jS e' x=some (.g cs))(p:bE (cA []) cs=some (l.map f))(hn:l.length=n1)(H:(jS e' y).bind uK=some (k,i))(D:(idx l i).bind kf=some q)
  (kk:∀u,idx l i=some u->kf u=some q->G (.mk P T hT n c B0 N X Q) K' m' ((d,g u)::e') L' cf2):G (.mk P T hT n c B0 N X Q) K m e L cf:=by
 cases r:idx l i with
 |none=>grind
 |some u=>
  rw[r] at D;refine pu M (dL Prod.snd C) (λB a w E _=>⟨f u,by simpa using AE (B:=[]) B (b u),?_⟩) (kk u r D);obtain⟨v,s,S⟩:=fL E I;simp only[gT,gV] at s;rw[gH (g:=cA B) (λx v h=>by simpa using iI (B:=[]) B h) p] at s;cases s;exact bKT f J F R r hn rfl (dL Prod.fst C) S (AW E H)
end
end
section
variable {P:Program} {T:TT} {hT:I3 P T} {n:Nat} {c:Ctx} {B0:Bl} {N:Act->World->Prop} {X:Nat->Act->World->Prop} {Q:Act->World->Prop} {K K':a8} {m m':Nat} {e e':SE} {L L':an} {cf cf1 cf2:wJ} {o:Oper} {Lv:an} {d:Nat}
theorem chg{g:Gx}{ι:Type}(y:ι->Nat)(C:ι->SE)(L2:ι->an)(h:∀B a w,B.length=m->iW g.n B e a->nZ g.c w B L->∃i B',(B++B').length=y i/\iW g.n (B++B') (C i) a/\nZ g.c w (B++B') (L2 i))
  (H:∀i,Frz g cf L (L2 i)) (k:∀i,G g K (y i) (C i) (L2 i) cf):G g K m e L cf:=by
 have f:∀a w,Rel g m e L a w->∃i,Rel g (y i) (C i) (L2 i) a w:=λa w ⟨B,t,s,q⟩=>by obtain⟨i,B',F,E,D⟩:=h _ a w t s q;exact⟨i,B++B',aj,aj,aj⟩
 cases cf with
 |n=>exact λa w j=>let ⟨i,p⟩:=f a w j;k i a w p
 |c x=>exact λa w j=>let ⟨i,p⟩:=f a w j;k i a w p
 |r ops l=>exact λa w j=>let ⟨i,p⟩:=f a w j;k i a w p
 |d B1 ops l is Lf Lv=>
  refine λb a w ⟨B,t,s,q,A⟩=>?_;obtain⟨i,B',F,E,D⟩:=h _ a w t s q;obtain⟨v,u⟩:=H i b;exact k i ⟨b.pre,b.len,b.free,v,u,b.okf,b.ap⟩ a w ⟨B++B',aj,aj,aj,λw' z=>by
   have:=(A w' z).app B';grind⟩
 |o B1 ops l is Lf Lv ii=>
  refine λb a w ⟨B,t,s,q,A⟩=>?_;obtain⟨i,B',F,E,D⟩:=h _ a w t s q;obtain⟨v,u⟩:=H i b;exact k i ⟨b.pre,b.len,b.free,v,u,b.okf,b.ap⟩ a w ⟨B++B',aj,aj,aj,λw' z=>by
   have:=(A w' z).app B';grind⟩
theorem mks{O β:Type}[aN O]{x y:Operand}{t el sz:Nat}{i:Int}{C:Value}{b1:Bool}{J:Nat}{H:aq}{A:Option β}{q:β}(f:O)(l:XE P el sz C)(u:∀w,aN.own w C.cells.toList f F0)(r:j7 T n K cf m e L=.op o Lv cf1 cf2 K' m' e' L'/\(o.op,o.dst)=(.makeSlice t x y,some d)/\AY T t=some ⟨.sl el,b1,J,H⟩/\aN.n O=sz/\C.cells.size=sz/\(jS e' x).bind uK=some (.i64,i)/\(jS e' y).bind uK=some (.i64,i))(E:need (0<=i/\i<=4294967296) A=some q)
  (k:A=some q->∀s':AC,G (.mk P T hT n c B0 N X Q) K' m' ((d,.h s' (List.replicate i.toNat f).length)::e') (L'++[ow s' (List.replicate i.toNat f)]) cf2):G (.mk P T hT n c B0 N X Q) K m e L cf:=by
 obtain⟨W,D,V,Y,s,j,U⟩:=r;refine iV (g:=.mk P T hT n c B0 N X Q) ?_;rw[W];intro F _ hE;refine hE AC (λ_=>m') (λs'=>(d,.h s' (List.replicate i.toNat f).length)::e') (λs'=>L'++[ow s' (List.replicate i.toNat f)]) (λ_=>tV _) (λB a w next Q' hm p hS h=>?_) (k (mZ E).2);obtain⟨⟨R,I,s2⟩,s0⟩:=hS;have Z:o.dst=some d:=dL Prod.snd D;obtain⟨v,w',S,M⟩:=bBG f I Y (JA V hT) l s u (mZ E).1 (dL Prod.fst D) (AW p j) (AW p U);have z:∃s':AC,v=s'.v (List.replicate i.toNat f).length:=by have h1:=M.a6E (cs:=[v]) (d:=List.replicate i.toNat f) (L'.map (lS (B0S (.mk P T hT n c B0 N X Q) cf1++B))).length ae;obtain⟨ad,cp,h2,_⟩:=aP4 h1;exact⟨⟨ad,cp⟩,h2⟩
 obtain⟨s',rfl⟩:=z;unfold Oper.wp;rw[S _ a p.env,Oper.upon_value,Z];refine h s' _ _ ⟨[],aj,by simpa using p.of (by simp[gT,gV,cA]) (p.env.put (by grind[tR,AA]) _),⟨⟨R,by grind[lS],λx j=>?_⟩,λb o hb=>SS (s0 b o hb) (jR _)⟩⟩;obtain j|j:=j4.1 j
 .grind
 .simp at j;subst j;exact trivial
end
def wJ.AV:wJ->ar
 |.d _ _ _ is _ _=>is
 |.o _ _ _ is _ _ _=>is
 |_=>[]
def aEL{L M:an}{j:Nat}{z:Ch}:∀{is:ar},(∀i∈is,i<L.length)->gO j is=true->kl (L.set j z++M) is=kl L is
 |[],_,_=>rfl
 |i::is,h,c=>by
  have a:=h i ae;have g:=aQG c;have b:j≠i:=λd=>g (by simp[d]);have f:(L.set j z++M)[i]?=L[i]?:=aj
  have e:gO j is=true:=by grind[gO]
  simp only[kl,f,aEL (λi a=>h i (uI _ a)) e]
def a68{L M:an}:∀{is:ar},(∀i∈is,i<L.length)->kl (L++M) is=kl L is
 |[],_=>rfl
 |i::is,h=>by simp only[kl,List.getElem?_append_left (h i ae),a68 (M:=M) (λi a=>h i (uI _ a))]
def aXT{g:Gx}{cf:wJ}{L M:an}{j:Nat}{z:Ch}(hn:gO j cf.AV=true):Frz g cf L (L.set j z++M):=by
 cases cf with
 |d B1 ops l is Lf Lv=>
  exact λa=>⟨(aEL a.rng hn).trans a.AV,λi b=>by have:=a.rng i b;simp;omega⟩
 |o B1 ops l is Lf Lv i=>
  exact λa=>⟨(aEL a.rng hn).trans a.AV,λi b=>by have:=a.rng i b;simp;omega⟩
 |_=>trivial
theorem a0Z{c:Ctx}{w:World}{A:bc}{R:bn}(h:St c w A R):St c w (A++[QY]) R:=by obtain⟨F,S,a,rest⟩:=h.sep;exact⟨h.keep,⟨F,S,Sep.append.2 ⟨F,F0,a,Sep.one.2 (λ_ _ h=>h),λ_ _ _ h=>h,λb o=>by simp[F0]⟩,rest⟩,h.apart⟩
structure CO (O:Type) [aN O] where
 ex:Type
 cs:O->ex->aq
 Lx:O->ex->an
 op:∀{w F ec q},aN.own w ec q F->∃y,bE (cA []) (cs q y)=some ec
 pk:∀{q y ec},bE (cA []) (cs q y)=some ec->OP ec q ((Lx q y).map (lS []))
 no:∀q y,noF (Lx q y)=true
 nb:∀q y B,(Lx q y).map (lS B)=(Lx q y).map (lS [])
section
variable {P:Program} {T:TT} {hT:I3 P T} {n:Nat} {c:Ctx} {B0:Bl} {N:Act->World->Prop} {X:Nat->Act->World->Prop} {Q:Act->World->Prop} {K K':a8} {m m':Nat} {e e':SE} {L L':an} {cf cf1 cf2:wJ} {o:Oper} {Lv:an} {d:Nat}
theorem bPI{g:Gx}{ι:Type}(y:ι->Nat)(z:ι->SE)(L2:ι->an)(F:ι->an)(h:∀B a w,B.length=m->iW g.n B e a->nZ g.c w B L->∃i B',(B++B').length=y i/\iW g.n (B++B') (z i) a/\nZ g.c w (B++B') (L2 i)/\∀w' M,nZ g.c w' B M->nZ g.c w' (B++B') (M++F i))
  (E:∀i,Frz g cf L (L2 i)) (k:∀i,G g K (y i) (z i) (L2 i) (cf.ext (F i))):G g K m e L cf:=by
 have f:∀a w,Rel g m e L a w->∃i,Rel g (y i) (z i) (L2 i) a w:=λa w ⟨B,t,s,q⟩=>by obtain⟨i,B',D,C,A,_⟩:=h _ a w t s q;exact⟨i,B++B',aj,aj,aj⟩
 cases cf with
 |n=>exact λa w j=>let ⟨i,p⟩:=f a w j;k i a w p
 |c x=>exact λa w j=>let ⟨i,p⟩:=f a w j;k i a w p
 |r ops l=>exact λa w j=>let ⟨i,p⟩:=f a w j;k i a w p
 |d B1 ops l is Lf Lv=>
  refine λb a w ⟨B,t,s,q,J⟩=>?_;obtain⟨i,B',D,C,A,H⟩:=h _ a w t s q;obtain⟨v,u⟩:=E i b;exact k i ⟨b.pre,b.len,b.free,v,u,b.okf,b.ap⟩ a w ⟨B++B',aj,aj,aj,λw' I=>by
   grind⟩
 |o B1 ops l is Lf Lv ii=>
  refine λb a w ⟨B,t,s,q,J⟩=>?_;obtain⟨i,B',D,C,A,H⟩:=h _ a w t s q;obtain⟨v,u⟩:=E i b;exact k i ⟨b.pre,b.len,b.free,v,u,b.okf,b.ap⟩ a w ⟨B++B',aj,aj,aj,λw' I=>by
   grind⟩
abbrev Shp(s:AC)(len:Nat):Prop:=∃b off m,s.v len=.slice (some ⟨b,off,none⟩) len m/\len<=maxLen
abbrev wOf(O:Type)[aN O](nb:Nat)(s:AC)(len i:Nat):Ch:=.w nb (elB (s.v len)) (Y5 (aN.n O) i (s.v len))
theorem oe{O β:Type}[aN O](E:CO O)(j:Nat){t:TypeId}{s:AC}{i:Int}{b:List O}{kf:O->Option β}{q:β}(U:j7 T n K cf m e L=.idx o d t s b.length i Lv cf1 cf2 K' m' e' L')(W:L'[j]?=some (ow s b))(f:gO j cf1.AV=true)(I:(idx b i).bind kf=some q)
  (k:∀x,idx b i=some x->kf x=some q->∀y:E.ex,Shp s b.length->G (.mk P T hT n c B0 N X Q) K' (m'+1) e' (L'.set j .no++([.o (qN (s.v b.length) b i.toNat),.box m' (E.cs x y),wOf O m' s b.length i.toNat]++E.Lx x y)) (cf1.ext [wOf O m' s b.length i.toNat])):G (.mk P T hT n c B0 N X Q) K m e L cf:=by
 refine iV (g:=.mk P T hT n c B0 N X Q) ?_;rw[U];intro x' y' ho hd hx hy hP;cases C:idx b i with
 |none=>grind
 |some x=>
  rw[C] at I;refine bPI (λ_=>m'+1) (λ_=>e') (λy:{y:E.ex // Shp s b.length}=>L'.set j .no++([.o (qN (s.v b.length) b i.toNat),.box m' (E.cs x y.1),wOf O m' s b.length i.toNat]++E.Lx x y.1)) (λ_=>[wOf O m' s b.length i.toNat]) (λB a w V hA Y=>?_) (λy=>aXT f) (λy=>k x C I y.1 y.2);obtain⟨⟨R,s1,s2⟩,s0⟩:=Y;have u:(L'.map (lS B))[j]?=some (dF [s.v b.length] b):=by simp[W,lS]
  obtain⟨ec,D⟩:=s1.open j u (EV C).2.2;have H:((L'.map (lS B)).set j QY).length=L'.length:=ae
  have r:Shp s b.length:=bGT (k:=i.toNat) D L'.length ae;obtain⟨F,A⟩:=D.chunk (L'.length+2) (by rw[aV4 aa];simp;rfl);obtain⟨y,p⟩:=E.op (show aN.own w ec x F from A);have J:=D.unpack (L'.length+2) ae (E.pk p);have l:((L'.map (lS B)).set j QY++[qN (s.v b.length) b i.toNat,cAt (elB (s.v b.length)) (Y5 (aN.n O) i.toNat (s.v b.length)) ec,dF ec x]).set (L'.length+2) QY=(L'.map (lS B)).set j QY++[qN (s.v b.length) b i.toNat,cAt (elB (s.v b.length)) (Y5 (aN.n O) i.toNat (s.v b.length)) ec,QY]:=ae
  rw[l] at J;refine⟨⟨y,r⟩,[(elB (s.v b.length),Y5 (aN.n O) i.toNat (s.v b.length))],by simp[V],hA.app _,⟨⟨R,?_,λz f=>?_⟩,s0⟩,λw' M Z=>?_⟩
  .have e1:(L'.set j Ch.no).map (lS B)=(L'.map (lS B)).set j QY:=by rw[MR];rfl
   refine J.imp ?_;rw[D1,D1,<-e1,QX];refine kW.append (aEH _ _) (kW.append (.cons (λ_ h=>h) (.cons (λF h=>⟨_,_,ec,aj,gH (λx v h=>by simpa using iI (B:=[]) _ h) p,h⟩) (.cons (λ_ h=>h) .nil))) ?_);have:=aEH (B:=[]) (B++[(elB (s.v b.length),Y5 (aN.n O) i.toNat (s.v b.length))]) (w:=w) (E.Lx x y);grind
  .obtain f|f:=j4.1 f
   .obtain f|f:=nM f
    .grind[aXK]
    .subst f;trivial
   .obtain f|f:=j4.1 f
    .simp at f;obtain rfl|rfl|rfl:=f
     .trivial
     .trivial
     .show(B++_)[m']?=_;grind
    .exact aQI (E.no x y) z f
  .obtain⟨⟨R',t1,t2⟩,S⟩:=Z.app [(elB (s.v b.length),Y5 (aN.n O) i.toNat (s.v b.length))];refine⟨⟨R',by grind[lS,a0Z],λz f=>?_⟩,S⟩;obtain f|f:=j4.1 f
   .grind
   .simp at f;subst f;show(B++_)[m']?=_;grind
theorem ie{O:Type}[aN O](p:Nat){t el sz:Nat}{s:AC}{i:Int}{b:List O}{x:O}{nb:Nat}{b1 b2:Bool}{y:Nat}{q l:aq}{z:TK}(f:Shp s b.length)(F:j7 T n K cf m e L=.idx o d t s b.length i Lv cf1 cf2 K' m' e' L')(I:idx b i=some x)(D:Lv[p]?=some (wOf O nb s b.length i.toNat))(E:AY T t=some ⟨.sl el,b1,y,q⟩)(J:AY T el=some ⟨z,b2,sz,l⟩)(hn:aN.n O=sz)
  (k:G (.mk P T hT n c B0 N X Q) K' m' ((d,.p nb 0)::e') L' cf2):G (.mk P T hT n c B0 N X Q) K m e L cf:=by refine iV (g:=.mk P T hT n c B0 N X Q) ?_;rw[F];intro x' y' H M C A S;subst hn;refine S d (.p nb 0) [] (λ_=>[]) 0 M (λ_=>rfl) (λB a w j h hm=>?_) (λB w L _ h=>aj) (by grind[ext_nil]);obtain⟨v,Z,Y⟩:=fL j C;obtain⟨u,W,V⟩:=fL j A;cases Z;cases W;obtain⟨⟨R,s1,r⟩,s0⟩:=h;have U:B[nb]?=some (elB (s.v b.length),Y5 (aN.n O) i.toNat (s.v b.length)):=r _ (O1 D);exact⟨_,by simp[gT,gV,cA,U],bGU (P:=P) (o:=o) (w:=w) f rfl I (JA E hT) (hT.size _ _ J) H Y V⟩
def PN:an->ar->an
 |L,[]=>L
 |L,i::r=>PN (L.set i .no) r
theorem NO{B:Bl}:∀(js:ar) (L:an),(PN L js).map (lS B)=blank (L.map (lS B)) js
 |[],L=>rfl
 |j::js,L=>by simp only[PN,blank];rw[NO js,MR];rfl
theorem UT{x:Ch}:∀(js:ar) (L:an),x∈PN L js->x∈L\/x=.no
 |[],L,h=>.inl h
 |j::js,L,h=>by
  obtain h|h:=UT js _ h
  .exact nM h
  .exact .inr h
theorem ZB{g:Gx}{cf:wJ}{M:an}:∀(js:ar) {L:an},(js.all λj=>gO j cf.AV)=true->Frz g cf L (PN L js++M):=by
 intro js L b;have a:∀{B1:Bl} {ops:bj} {l:az} {is:ar} {Lf:an},(js.all λj=>gO j is)=true->aJ9 g B1 ops l is Lf L->kl (PN L js++M) is=Lf/\∀j∈is,j<(PN L js++M).length:=by
  intro B1 ops l is Lf b f;have h:∀(js:ar) (L:an),(js.all λj=>gO j is)=true->(∀i∈is,i<L.length)->kl (PN L js++M) is=kl L is/\(PN L js).length=L.length:=by
   intro js;induction js with
   |nil=>
    intro L _ k;exact⟨a68 k,rfl⟩
   |cons j js r=>
    intro L b k;simp only[aT3,ET] at b;obtain⟨s,u⟩:=r (L.set j .no) b.2 (λi p=>aj);refine⟨s.trans ?_,by grind[PN]⟩;have:=aEL (M:=[]) (z:=.no) k b.1;grind
  obtain⟨q,t⟩:=h js L b f.rng;exact⟨q.trans f.AV,λi p=>by have:=f.rng i p;grind⟩
 cases cf with
 |d B1 ops l is Lf Lv=>exact λf=>a b f
 |o B1 ops l is Lf Lv i=>exact λf=>a b f
 |_=>trivial
def ovh(v:SV)(e:SE):ar->SE
 |[]=>e
 |k::a=>(k,v)::ovh v e a
theorem aXU{v:SV}{B:Bl}{a:Act}:∀(b:ar),bE (HL e) b=some (b.map λ_=>v)->iW n B e a->iW n B (ovh v e b) a:=by
 intro b;have f:∀(b:ar),bE (HL e) b=some (b.map λ_=>v)->∀k∈b,HL e k=some v:=by
  intro b;induction b with
  |nil=>simp
  |cons s b p=>
   grind[bE]
 intro l i;have q:=f b l;clear l f;have g:∀k x,HL (ovh v e b) k=some x->HL e k=some x:=by
  induction b with
  |nil=>exact λk x h=>h
  |cons j b p=>
   grind[ovh,HL,rR]
 exact⟨i.d,i.size,λk x h=>i.get k x (g k x h)⟩
theorem UU{B:Bl}:∀{is:ar} {M:an},bE (λi=>L[i]?) is=some M->pick (L.map (lS B)) is=M.map (lS B)
 |[],M,h=>by cases h;rfl
 |i::is,M,h=>by
  simp only[bE] at h;split at h
  .cases h
  .rename_i b;split at h
   .cases h
   .rename_i a;cases h;simp only[pick,D0,b,Option.map_some,Option.getD_some,UU a,aFG]
theorem bCS{O:Type}[aN O](E:CO O)(h b v:Nat)(is q:ar){s:AC}{l:List O}{k nb:Nat}(x:O)(y:E.ex){g:aq}{ec:ao}(C:L[h]?=some (.o (qN (s.v l.length) l k)))(I:L[b]?=some (.box nb g))(A:L[v]?=some (wOf O nb s l.length k))(G:bE (λi=>L[i]?) is=some (E.Lx x y))(H:nbL g=E.cs x y)(p:bE (cA []) (E.cs x y)=some ec)(J:eA (h::b::is)=true)(D:bE (HL e) q=some (q.map λ_=>.h s l.length)){B:Bl}{a:Act}{w:World}(S:iW n B e a)(M:nZ c w B L) :
  iW n B (ovh (.h s (l.set k x).length) e q) a/\nZ c w B (PN L (h::b::is)++[ow s (l.set k x)]):=by
 have j:(l.set k x).length=l.length:=bI;unfold ow;rw[j];refine⟨aXU q D S,?_⟩;obtain⟨⟨R,s1,u⟩,s0⟩:=M;have hB:B[nb]?=some (elB (s.v l.length),Y5 (aN.n O) k (s.v l.length)):=u _ (O1 A);refine⟨⟨R,?_,λz f=>?_⟩,s0⟩
 .rw[D1,NO];refine s1.shift (h::b::is) J λF r=>?_;simp only[pick,D0,C,I,Option.map_some,Option.getD_some,UU G,E.nb] at r;have hE:bE (cA B) g=some ec:=by rw[<-QZ,H];exact gH (λx v h=>by simpa using iI (B:=[]) B h) p
  have V:Sep w ([qN (s.v l.length) l k,cAt (elB (s.v l.length)) (Y5 (aN.n O) k (s.v l.length)) ec]++(E.Lx x y).map (lS [])) F:=by refine Sep.imp (.cons (λ_ h=>h) (.cons (λF h=>?_) (kW.refl _))) r;obtain⟨bb,z,vs,k1,k2,k3⟩:=h;grind
  obtain⟨F1,t,g1,Z,W,Y⟩:=Sep.append.1 V;have U:Sep w ([qN (s.v l.length) l k,cAt (elB (s.v l.length)) (Y5 (aN.n O) k (s.v l.length)) ec]++[dF ec x]) F:=Sep.append.2 ⟨F1,t,g1,Sep.one.2 ((E.pk p w t).2 Z),W,Y⟩;exact Sep.one.2 (aV7 U)
 .obtain f|f:=j4.1 f
  .obtain f|f:=UT _ _ f
   .grind
   .subst f;trivial
  .simp at f;subst f;trivial
theorem ce{O:Type}[aN O](E:CO O)(h b v:Nat)(is g:ar){s:AC}{l:List O}{k nb:Nat}(x:O)(y:E.ex){f:aq}{ec:ao}(t:L[h]?=some (.o (qN (s.v l.length) l k)))(C:L[b]?=some (.box nb f))(r:L[v]?=some (wOf O nb s l.length k))(z:bE (λi=>L[i]?) is=some (E.Lx x y))(A:nbL f=E.cs x y)(p:bE (cA []) (E.cs x y)=some ec)(D:eA (h::b::is)=true)(q:((h::b::is).all λj=>gO j cf.AV)=true)(u:bE (HL e) g=some (g.map λ_=>.h s l.length))
  (kk:G (.mk P T hT n c B0 N X Q) K m (ovh (.h s (l.set k x).length) e g) (PN L (h::b::is)++[ow s (l.set k x)]) cf):G (.mk P T hT n c B0 N X Q) K m e L cf:=by refine chg (λ_:Unit=>m) (λ_=>ovh (.h s (l.set k x).length) e g) (λ_=>PN L (h::b::is)++[ow s (l.set k x)]) (λB a w I H F=>?_) (λ_=>ZB _ q) (λ_=>kk);obtain⟨M,J⟩:=bCS E h b v is g x y t C r z A p D u H F;simp_all
end
section
variable {P:Program} {T:TT} {hT:I3 P T} {n:Nat} {c:Ctx} {B0:Bl} {N:Act->World->Prop} {X:Nat->Act->World->Prop} {Q:Act->World->Prop} {K K':a8} {m m':Nat} {e e':SE} {L L':an} {cf cf':wJ}
theorem ceS{O:Type}[aN O](E:CO O)(h:Nat)(is b:ar){s:AC}{l:List O}{k nb:Nat}(x:O)(y:E.ex){a:aq}{ec:ao}(d:V6 (j7 T n K cf m e L)=some (K',cf',m',e',L')/\L'[h]?=some (.o (qN (s.v l.length) l k))/\L'[h+1]?=some (.box nb a)/\L'[h+2]?=some (wOf O nb s l.length k)/\bE (λi=>L'[i]?) is=some (E.Lx x y)/\nbL a=E.cs x y/\bE (cA []) (E.cs x y)=some ec/\eA (h::(h+1)::is)=true/\((h::(h+1)::is).all λj=>gO j cf'.AV)=true/\bE (HL e') b=some (b.map λ_=>.h s l.length))
  (kk:G (.mk P T hT n c B0 N X Q) K' m' (ovh (.h s (l.set k x).length) e' b) (PN L' (h::(h+1)::is)++[ow s (l.set k x)]) cf'):G (.mk P T hT n c B0 N X Q) K m e L cf:=let ⟨z,q,v,p,t,u,f,w,o,r⟩:=d;iV (g:=.mk P T hT n c B0 N X Q) (aPC z (ce E h (h+1) (h+2) is b x y q v p t u f w o r kk))
theorem sF(b:j7 T n K cf m e L=.fin m' e' L')(h:∀a w,rU n c B0 m' e' L' a w->N a w):G (.mk P T hT n c B0 N X Q) K m e L cf:=iV (g:=.mk P T hT n c B0 N X Q) (by rw[b];exact h)
theorem sX{id:Nat}(b:j7 T n K cf m e L=.ex id m' e' L')(h:∀a w,rU n c B0 m' e' L' a w->X id a w):G (.mk P T hT n c B0 N X Q) K m e L cf:=iV (g:=.mk P T hT n c B0 N X Q) (by rw[b];exact h)
theorem sR(b:j7 T n K cf m e L=.ret m' e' L')(h:∀a w,rU n c B0 m' e' L' a w->Q a w):G (.mk P T hT n c B0 N X Q) K m e L cf:=iV (g:=.mk P T hT n c B0 N X Q) (by rw[b];exact h)
theorem nxR{σ ρ υ:Type}{o:Step σ ρ}{d:Nat}{el:σ->υ->SE}{b:σ->υ->an}{s:σ}(u:υ)(is:ar)(g:some (Step.next s)=some o)(h:asT B0.length m' e' L' is d (el s u) (b s u)=some (el s u,b s u)):∀a w,rU n c B0 m' e' L' a w->NxP n c B0 o d el b a w:=by cases g;exact λa w f=>⟨s,u,rfl,f.asT is h⟩
theorem fO{π υ:Type}{g:π->Prop}{f:Nat}{b:π->υ->SE}{d:π->υ->an}{p:π}(u:υ)(is:ar)(j:g p)(h:asT B0.length m' e' L' is f (b p u) (d p u)=some (b p u,d p u)):∀a w,rU n c B0 m' e' L' a w->JP n c B0 g f b d a w:=λa w i=>⟨p,u,j,rU.asT i is h⟩
theorem bkR{σ ρ β υ:Type}{o:Step σ ρ}{ro:ρ}{d:β->ρ}{j id:Nat}{g:β->υ->SE}{i:β->υ->an}{b:β}(u:υ)(is:ar)(k:some (Step.stop (d b))=some o)(f:∀p,o=.stop p->p=ro)(h:asT B0.length m' e' L' is j (g b u) (i b u)=some (g b u,i b u)):∀a w,rU n c B0 m' e' L' a w->BkP n c B0 ro d j g i id X id a w:=by cases k;have:=f _ rfl;subst this;intro a w f;unfold BkP;rw[aM rfl];exact⟨b,u,rfl,f.asT is h⟩
include hT in
theorem rtR{o:Func}{ρ ex:Type}{sv:ρ->ex->SV}{Lf:ρ->ex->an}{r d:ρ}{j:List ResultVar}{i:Option ρ}(y:ex)(is:ar)(D:i=some r)(g:i=some d/\o.results=j.toArray){x:SV}(f:aXJ T e' L' j=some x/\nbS x=sv d y/\CR B0.length (sv d y)=true/\asT B0.length m' e' L' is B0.length [] (Lf d y)=some ([],Lf d y)):∀a w,rU n c B0 m' e' L' a w->QS P o c B0 sv Lf r a w:=by obtain⟨s,z⟩:=g;obtain⟨u,t,k,C⟩:=f;subst s;cases D;intro a w b;obtain⟨B,H,l,A⟩:=id b;obtain⟨v,F,E⟩:=aPE z hT l A u;obtain⟨G,p,_,q⟩:=b.asT is C;have h:G=[]:=(by simp_all);subst h;refine⟨l.d,v,E,y,?_,aj⟩;rw[<-t] at k ⊢;have:=ZA k (by rw[aO8];exact F);grind
theorem gR{Z:Act->World->Prop}{O:Type}[aN O](E:CO O)(h:Nat)(is d:ar){s:AC}{l:List O}{k nb:Nat}(x:O)(y:E.ex){b:aq}{ec:ao}(f:L[h]?=some (.o (qN (s.v l.length) l k))/\L[h+1]?=some (.box nb b)/\L[h+2]?=some (wOf O nb s l.length k)/\bE (λi=>L[i]?) is=some (E.Lx x y)/\nbL b=E.cs x y/\bE (cA []) (E.cs x y)=some ec/\eA (h::(h+1)::is)=true/\bE (HL e) d=some (d.map λ_=>.h s l.length))
  (kk:∀a w,rU n c B0 m (ovh (.h s (l.set k x).length) e d) (PN L (h::(h+1)::is)++[ow s (l.set k x)]) a w->Z a w):∀a w,rU n c B0 m e L a w->Z a w:=by obtain⟨o,t,j,q,r,g,u,p⟩:=f;intro a w ⟨B,hm,z,v⟩;obtain⟨C,A⟩:=bCS E h (h+1) (h+2) is d x y o t j q r g u p z v;exact kk a w ⟨B,hm,C,A⟩
end
def wAt(n:Nat):an->Option (Nat×Nat)
 |[]=>none
 |.w k b z::L=>match Nat.beq n k with
  |true=>some (b,z)
  |false=>wAt n L
 |_::L=>wAt n L
def ZC{n b z:Nat}:∀{L:an},wAt n L=some (b,z)->Ch.w n b z∈L
 |[],h=>by cases h
 |x::L,h=>by
  cases x with
  |w k d a=>
   simp only[wAt] at h;split at h
   .simp_all
   .exact uI _ (ZC h)
  |box k cs=>exact uI _ (ZC (L:=L) h)
  |ro k cs=>exact uI _ (ZC (L:=L) h)
  |o c=>exact uI _ (ZC (L:=L) h)
  |f g=>exact uI _ (ZC (L:=L) h)
  |no=>exact uI _ (ZC (L:=L) h)
section
variable {P:Program} {T:TT} {hT:I3 P T} {n:Nat} {c:Ctx} {B0:Bl} {N:Act->World->Prop} {X:Nat->Act->World->Prop} {Q:Act->World->Prop} {K K':a8} {m m':Nat} {e e':SE} {L L' Lv:an} {cf cf1 cf2:wJ} {o:Oper} {d:Nat}
theorem eH{O:Type}[aN O](nb:Nat){t el sz:Nat}{s:AC}{i:Int}{a:List O}{x:O}{u r:Bool}{j:Nat}{h g:aq}{l:TK}(f:Shp s a.length)(A:idx a i=some x)(b:j7 T n K cf m e L=.idx o d t s a.length i Lv cf1 cf2 K' m' e' L'/\wAt nb Lv=some (elB (s.v a.length),Y5 (aN.n O) i.toNat (s.v a.length))/\AY T t=some ⟨.sl el,u,j,h⟩/\AY T el=some ⟨l,r,sz,g⟩/\aN.n O=sz)
  (k:G (.mk P T hT n c B0 N X Q) K' m' ((d,.p nb 0)::e') L' cf2):G (.mk P T hT n c B0 N X Q) K m e L cf:=by obtain⟨w,q,v,B,z⟩:=b;obtain⟨p,y⟩:=List.mem_iff_getElem?.1 (ZC q);grind[ie]
end
def F8.o{O:Type}[aN O](C:F8 O)(Lx:O->C.ex->an)(pk:∀{q y ec},bE (cA []) (C.cs q y)=some ec->OP ec q ((Lx q y).map (lS [])))(no:∀q y,noF (Lx q y)=true)(nb:∀q y B,(Lx q y).map (lS B)=(Lx q y).map (lS [])):CO O:=⟨C.ex,C.cs,Lx,λh=>let ⟨y,a,_⟩:=C.ok (aN.own_rd h);⟨y,a⟩,pk,no,nb⟩
def oI:CO Int:=cI.o (λ_ _=>[]) (λh=>by cases h;exact cW rfl) (λ_ _=>rfl) (λ_ _ _=>rfl)
def oU:CO UInt8:=cU.o (λ_ _=>[]) (λh=>by cases h;exact cW rfl) (λ_ _=>rfl) (λ_ _ _=>rfl)
def aCE{O:Type}[aN O][Flat O]{cs:ao}{d:O}(h:aN.rd F0 default cs d)(w:World):aN.own w cs d F0:=Flat.own_of h
section
variable {P:Program} {T:TT} {hT:I3 P T} {n:Nat} {c:Ctx} {B0:Bl} {N:Act->World->Prop} {X:Nat->Act->World->Prop} {Q:Act->World->Prop} {K K':a8} {m m':Nat} {e e':SE} {L L':an} {cf:wJ}
variable {b:Bool} {O:Type} {A B':Option O} {q:Option O}
theorem csK{o:Operand}{x y:Code}(d:ar)(r:j7 T n K cf m e L=.cond o b x y K' m' e' L')(j:bE (HL e') d=some (d.map λ_=>SV.b b))(h:(if b=true then A else B')=q)
  (p:b=true->A=q->G (.mk P T hT n c B0 N X Q) K' m' (ovr true e' d) L' (.c x)) (l:b=false->B'=q->G (.mk P T hT n c B0 N X Q) K' m' (ovr false e' d) L' (.c y)):G (.mk P T hT n c B0 N X Q) K m e L cf:=
 iV (g:=.mk P T hT n c B0 N X Q) (by
  rw[r];intro s a w i;have ⟨B,hm,k,z⟩:=i;obtain⟨v,u,t⟩:=fL k s;cases u;refine aO6 k.env t (λf=>?_) (λf=>?_)
  .rw[aM f] at h;exact p f h a w (aPD f d j i)
  .rw[aO aj] at h;exact l f h a w (aPD f d j i))
theorem caK{cf':wJ}(d:ar)(k:j7 T n K cf m e L=.case b cf' K' m' e' L')(h:bE (HL e') d=some (d.map λ_=>SV.b b))(l:(if b=true then A else B')=q)
  (j:b=true->A=q->G (.mk P T hT n c B0 N X Q) K' m' (ovr true e' d) L' cf') (i:b=false->B'=q->G (.mk P T hT n c B0 N X Q) K' m' (ovr false e' d) L' cf'):G (.mk P T hT n c B0 N X Q) K m e L cf:=
 iV (g:=.mk P T hT n c B0 N X Q) (by
  rw[k];cases b with
  |true=>exact aQH (λa B f=>aEK rfl d h f) (j rfl aj)
  |false=>exact aQH (λa B f=>aEK rfl d h f) (i rfl aj))
end
section
variable {P:Program} {T:TT} {hT:I3 P T} {n:Nat} {c:Ctx} {B0:Bl} {N:Act->World->Prop} {X:Nat->Act->World->Prop} {Q:Act->World->Prop} {K K':a8} {m m':Nat} {e e':SE} {L L' Lv:an} {cf cf1 cf2:wJ} {o:Oper} {d:Nat}
theorem aXV{O:Type}[aN O]{l:List O}(L2:AC->an)(q:j7 T n K cf m e L=.op o Lv cf1 cf2 K' m' e' L')(r:o.dst=some d)(p:∀s',Frz (.mk P T hT n c B0 N X Q) cf1 L' (L2 s'))(h:∀B a w,iW n B e' a->nZ c w B L'->∃s' w',gD P o (vE B e') w (AC.v s' l.length) w'/\nZ c w' B (L2 s'))
  (k:∀s':AC,G (.mk P T hT n c B0 N X Q) K' m' ((d,.h s' l.length)::e') (L2 s') cf2):G (.mk P T hT n c B0 N X Q) K m e L cf:=by refine iV (g:=.mk P T hT n c B0 N X Q) ?_;rw[q];intro i _ t;refine t AC (λ_=>m') (λs'=>(d,.h s' l.length)::e') L2 p (λB a w next x v f s b=>?_) k;obtain⟨s',w',j,u⟩:=h _ a w f s;unfold Oper.wp;rw[j _ a f.env,Oper.upon_value,r];exact b s' _ _ ⟨[],aj,by simpa using f.of (by simp[gT,gV,cA]) (f.env.put (by grind[tR,AA]) _),aj⟩
theorem aKC{O:Type}[aN O]{w:World}{A:bc}{R:bn}{v:Value}{l:List O}(h:St c w A R)(i:Nat)(a:A[i]?=some (dF [v] l)):∃s':AC,v=s'.v l.length:=by obtain⟨g,f,b,_⟩:=aP4 (h.a6E i a);exact⟨⟨g,f⟩,b⟩
section
variable {x y:Operand} {t el sz:Nat} {zv:Value} {b1:Bool} {n1:Nat} {z1:aq}
theorem W9{O:Type}[aN O](b:XE P el sz zv)(g:j7 T n K cf m e L=.op o Lv cf1 cf2 K' m' e' L'/\(o.op,o.dst)=(.buildSlice t 0 #[],some d)/\AY T t=some ⟨.sl el,b1,n1,z1⟩/\aN.n O=sz)
  (k:∀s':AC,G (.mk P T hT n c B0 N X Q) K' m' ((d,.h s' ([]:List O).length)::e') (L'++[ow s' ([]:List O)]) cf2):G (.mk P T hT n c B0 N X Q) K m e L cf:=by
 obtain⟨r,h,q,s⟩:=g;refine aXV (l:=([]:List O)) (λs'=>L'++[ow s' ([]:List O)]) r (dL Prod.snd h) (λ_=>tV _) (λB a w C u=>?_) k;obtain⟨⟨R,i,A⟩,s0⟩:=u;obtain⟨v,w',p,j⟩:=bGX (O:=O) (e:=vE B e') (o:=o) i s (JA q hT) b (dL Prod.fst h);obtain⟨s',rfl⟩:=aKC (v:=v) (l:=([]:List O)) j (L'.map (lS B)).length ae;refine⟨s',w',p,⟨⟨R,by grind[lS],λz f=>?_⟩,s0⟩⟩;obtain f|f:=j4.1 f
 .grind
 .simp at f;subst f;trivial
theorem EW{g:Gx}{cf:wJ}{L:an}{j:Nat}{z:Ch}(hn:gO j cf.AV=true):Frz g cf L (L.set j z):=by have:=aXT (g:=g) (M:=[]) (z:=z) (L:=L) hn;grind
theorem ap{O β:Type}[aN O][Flat O]{A:Option β}{q:β}{s p:AC}{l xs:List O}(i:Nat)(g:XE P el sz zv)(W:j7 T n K cf m e L=.op o Lv cf1 cf2 K' m' e' L')(u:(o.op,o.dst)=(.call {callee:=.builtin .append,args:=#[x,y],argTypes:=#[t,t]},some d))(V:AY T t=some ⟨.sl el,b1,n1,z1⟩)(hn:aN.n O=sz)(h:zv.cells.size=sz)(C:L'[i]?=some (ow s l))(b:gO i cf1.AV=true)(f:∀{w},HS c w L'->bJ (fT w) p xs)(U:jS e' x=some (.h s l.length))(S:jS e' y=some (.h p xs.length))(E:need (l.length+xs.length<=1073741824) A=some q)
  (k:A=some q->∀s':AC,G (.mk P T hT n c B0 N X Q) K' m' ((d,.h s' (l++xs).length)::e') (L'.set i (ow s' (l++xs))) cf2):G (.mk P T hT n c B0 N X Q) K m e L cf:=by
 refine aXV (l:=l++xs) (λs'=>L'.set i (ow s' (l++xs))) W (dL Prod.snd u) (λ_=>EW b) (λB a w F D=>?_) (k (mZ E).2);have Y:bJ (fT w) p xs:=f ⟨_,D⟩;obtain⟨⟨R,J,H⟩,s0⟩:=D;have j:(L'.map (lS B))[i]?=some (dF [s.v l.length] l):=by simp[C,lS]
 obtain⟨v,w',M,r⟩:=a8M i J j Y hn (JA V hT) g h (mZ E).1 (dL Prod.fst u) (hdB F U) (hdB F S);have I:i<L'.length:=(I8.1 C).1;obtain⟨s',rfl⟩:=aKC r i (by rw[List.getElem?_set_self aj]);refine⟨s',w',M,⟨⟨R,?_,λz b=>?_⟩,s0⟩⟩
 .rw[MR];exact r
 .obtain b|b:=nM b
  .grind
  .subst b;trivial
end
end
def a00{O:Type}{l:List O}{i:Int}{x:O}(h:idx l i=some x):l.set i.toNat x=l:=by obtain⟨b,a⟩:=I8.1 (EV h).2.2;rw[<-a];simp
section
variable {P:Program} {T:TT} {hT:I3 P T} {n:Nat} {c:Ctx} {B0:Bl} {N:Act->World->Prop} {X:Nat->Act->World->Prop} {Q:Act->World->Prop} {K K':a8} {m m':Nat} {e e':SE} {L L' Lv:an} {cf cf' cf1 cf2:wJ} {o:Oper} {d:Nat}
theorem EX{O:Type}[aN O](E:CO O)(h:Nat)(is:ar){s:AC}{l:List O}{i:Int}{nb:Nat}{x:O}(k:idx l i=some x)(y:E.ex){a:aq}{ec:ao}(b:V6 (j7 T n K cf m e L)=some (K',cf',m',e',L')/\L'[h]?=some (.o (qN (s.v l.length) l i.toNat))/\L'[h+1]?=some (.box nb a)/\L'[h+2]?=some (wOf O nb s l.length i.toNat)/\bE (λi=>L'[i]?) is=some (E.Lx x y)/\nbL a=E.cs x y/\bE (cA []) (E.cs x y)=some ec/\eA (h::(h+1)::is)=true/\((h::(h+1)::is).all λj=>gO j cf'.AV)=true)
  (kk:G (.mk P T hT n c B0 N X Q) K' m' e' (PN L' (h::(h+1)::is)++[ow s l]) cf'):G (.mk P T hT n c B0 N X Q) K m e L cf:=let ⟨w,q,u,p,r,t,f,v,g⟩:=b;ceS E h is [] x y ⟨w,q,u,p,r,t,f,v,g,rfl⟩ (by rw[a00 k];exact kk)
theorem eJ{Z:Act->World->Prop}{O:Type}[aN O](E:CO O)(h:Nat)(is:ar){s:AC}{l:List O}{i:Int}{nb:Nat}{x:O}(j:idx l i=some x)(y:E.ex){b:aq}{ec:ao}(f:L[h]?=some (.o (qN (s.v l.length) l i.toNat))/\L[h+1]?=some (.box nb b)/\L[h+2]?=some (wOf O nb s l.length i.toNat)/\bE (λi=>L[i]?) is=some (E.Lx x y)/\nbL b=E.cs x y/\bE (cA []) (E.cs x y)=some ec/\eA (h::(h+1)::is)=true)
  (kk:∀a w,rU n c B0 m e (PN L (h::(h+1)::is)++[ow s l]) a w->Z a w):∀a w,rU n c B0 m e L a w->Z a w:=let ⟨p,t,k,q,r,g,u⟩:=f;gR E h is [] x y ⟨p,t,k,q,r,g,u,rfl⟩ (by rw[a00 j];exact kk)
section
variable {x:Operand} {t el:Nat} {zv:Value} {b1:Bool} {n1:Nat} {z1:aq}
theorem lt1{k:IntKind}{i:Int}(y:k=.i64)(b:XE P el 1 zv)(g:j7 T n K cf m e L=.op o Lv cf1 cf2 K' m' e' L'/\(o.op,o.dst)=(.buildSlice t 1 #[(0,x)],some d)/\AY T t=some ⟨.sl el,b1,n1,z1⟩/\(jS e' x).bind uK=some (k,i))
  (kk:∀s':AC,G (.mk P T hT n c B0 N X Q) K' m' ((d,.h s' [i].length)::e') (L'++[ow s' [i]]) cf2):G (.mk P T hT n c B0 N X Q) K m e L cf:=by
 obtain⟨u,h,s,r⟩:=g;subst y;refine aXV (l:=[i]) (λs'=>L'++[ow s' [i]]) u (dL Prod.snd h) (λ_=>tV _) (λB a w C A=>?_) kk;obtain⟨⟨R,j,D⟩,s0⟩:=A;obtain⟨v,w',q,p⟩:=bGY (O:=Int) (e:=vE B e') (o:=o) i j rfl (JA s hT) b (c0:=.int .i64 i) rfl (dL Prod.fst h) (AW C r) rfl;obtain⟨s',rfl⟩:=aKC (v:=v) (l:=[i]) p (L'.map (lS B)).length ae;refine⟨s',w',q,⟨⟨R,by grind[lS],λz f=>?_⟩,s0⟩⟩;obtain f|f:=j4.1 f
 .grind
 .simp at f;subst f;trivial
end
end
def bJ.sub{c:Ctx}{O:Type}[aN O]{s s':AC}{l:List O}{a b:Nat}(h:bJ c s l)(e:jT (aN.n O) a b (s.v l.length)=s'.v ((l.take b).drop a).length)(d:a<=b/\b<=l.length):bJ c s' ((l.take b).drop a):=by have:=a3W (n:=aN.n O) rfl h d.1 d.2;rw[e] at this;exact this
def Sep.perm{w:World}{A B:bc}(h:A.Perm B):∀{F:dA},Sep w A F->Sep w B F:=by
 induction h with
 |nil=>simp
 |cons a _ j=>exact λ⟨i,g,f,e,c,d⟩=>⟨i,g,f,j e,c,d⟩
 |swap a b L=>
  intro F h;have h:Sep w (([b]++[a])++L) F:=h;obtain⟨i,g,f,e,c,d⟩:=Sep.append.1 h;exact(Sep.append (A:=[a]++[b])).2 ⟨i,g,f.swap,e,c,d⟩
 |trans _ _ l k=>grind
def St.via{c:Ctx}{w:World}{A B:bc}{R:bn}(h:St c w A R)(b:∀F,Sep w A F->Sep w B F):St c w B R:=by obtain⟨F,S,a,rest⟩:=h.sep;exact⟨h.keep,⟨F,S,b F a,rest⟩,h.apart⟩
structure PV where
 b:Nat
 z:Nat
 A:ao
 V:ao
 C:ao
abbrev cg:=List PV
def PV.whole(p:PV):Chunk:=cAt p.b p.z (p.A++(p.V++p.C))
def PV.mid(p:PV):Chunk:=cAt p.b (p.z+p.A.length) p.V
def PV.rest(p:PV):bc:=[cAt p.b p.z p.A,cAt p.b (p.z+p.A.length+p.V.length) p.C]
def bJN{O:Type}{a v c:O}{M R:List O}:(a::v::c::(M++R)).Perm (v::(M++(a::c::R))):=by refine(List.Perm.swap v a _).trans (List.Perm.cons v ?_);exact((List.perm_middle (a:=c)).symm.cons a).trans (List.perm_middle (a:=a)).symm
def bNP{w:World}:∀{ps:cg} {F:dA},Sep w (ps.map PV.whole) F->Sep w (ps.map PV.mid++ps.flatMap PV.rest) F
 |[],F,h=>h
 |p::ps,F,h=>by obtain⟨f,e,d,c,a,b⟩:=h;exact Sep.perm bJN (Sep.append.2 ⟨f,e,a8N d,bNP c,a,b⟩)
theorem bNQ{w:World}:∀{ps:cg} {F:dA},Sep w (ps.map PV.mid++ps.flatMap PV.rest) F->Sep w (ps.map PV.whole) F
 |[],F,h=>h
 |p::ps,F,h=>by have d:Sep w ([cAt p.b p.z p.A,p.mid,cAt p.b (p.z+p.A.length+p.V.length) p.C]++(ps.map PV.mid++ps.flatMap PV.rest)) F:=Sep.perm (bJN (M:=ps.map PV.mid) (R:=ps.flatMap PV.rest)).symm h;obtain⟨g,f,e,c,a,b⟩:=Sep.append.1 d;exact⟨g,f,bBI e,bNQ c,a,b⟩
def St.bJO{c:Ctx}{w:World}{A M:bc}{R:bn}(h:St c w (A++M) R)(s0:∀b o,c.S0 b o->b<c.w0.heap.size) :
  ∃κ:Ctx,κ.w0=w/\(∀b o,κ.S0 b o->b<w.heap.size)/\St κ w A []/\(∀f:Fact,f.P c.S0 c.w0->f.P κ.S0 w)/\(∀f∈R,f.P κ.S0 w) /\
   (∀ch∈M,∀f:Fact,(∀w F,ch.P w F->f.P F w)->f.P κ.S0 w)/\∀w' A' H,St κ w' A' H->St c w' (A'++M) R:=by
 obtain⟨F,S,n,e,B,y,d,G⟩:=h.sep;obtain⟨m,l,L,C,E,v⟩:=Sep.append.1 n;have J:c.w0.heap.size<=w.heap.size:=h.keep.size;have D:∀b o,m b o->c.S0 b o->False:=λb o p q=>by
  rcases B b o ((v b o).2 (.inl p)) with t|t
  .exact h.apart b o t q
  grind
 have r:∀b o,(S b o\/l b o)\/c.S0 b o->b<w.heap.size:=by
  rintro b o ((q|q)|q)
  .grind
  .exact Sep.lt C q
  grind
 have s:∀b o,m b o->((S b o\/l b o)\/c.S0 b o)->False:=by
  rintro b o p ((q|q)|q)
  .exact e b o ((v b o).2 (.inl p)) q
  .exact E b o p q
  grind
 refine⟨⟨w,m,λb o=>(S b o\/l b o)\/c.S0 b o⟩,rfl,r,⟨fN.refl _ _,⟨m,λb o=>(S b o\/l b o)\/c.S0 b o,L,s,λ_ _ h=>.inl h,λ_ _ h=>.inl h,r,ae⟩,s⟩,λf a=>?_,λf a=>f.mono (G f a) λb o q=>.inl (.inl q),λch x f a=>?_,?_⟩
 .exact f.mono (f.agree a λb o q=>h.keep.cell b o (s0 b o q) λt=>h.apart b o t q) λb o q=>.inr q
 .obtain⟨j,K⟩:=aLY x;obtain⟨Q,G2,O,_,_,N⟩:=(Sep.take K).1 C;exact f.mono (a w Q O) λb o q=>.inl (.inr ((N b o).2 (.inl q)))
 .intro w' A' H k;obtain⟨I,S',P,Z,Y,X,W,V⟩:=k.sep;have u:fN m w w':=k.keep;have z:∀b o,b<c.w0.heap.size->m b o->c.W b o:=λb o U g=>aj
  refine⟨h.keep.trans u z,⟨λb o=>I b o\/l b o,S,Sep.append.2 ⟨I,l,P,Sep.keep u C λb o a g=>E b o g a,?_,λ_ _=>Iff.rfl⟩,?_,?_,y,λb o i=>SS (d b o i) u.size,?_⟩,h.apart⟩
  .intro b o T a;grind
  .rintro b o (a|a) i
   .grind
   .exact e b o ((v b o).2 (.inr a)) i
  .grind
  .intro f a;exact f.agree (G f a) λb o i=>u.cell b o (d b o i) λg=>e b o ((v b o).2 (.inl g)) i
abbrev PS:=List (Nat×Nat×Nat×Nat)
def aXW:Nat->List aq->an
 |_,[]=>[]
 |k,c::r=>.box k c::aXW (k+1) r
def UW(L:an)(i n:Nat):aq:=match L[i]? with
 |some (.box k cs)=>match Nat.beq n k with
  |true=>cs
  |false=>[]
 |_=>[]
def aQK(L:an):PS->Option bF
 |[]=>some []
 |(i,n,o,k)::r=>match Nat.ble (o + k) (UW L i n).length,Nat.ble 1 k,frc (((UW L i n).drop o).take k),aQK L r with
  |true,true,some d,some a=>some (d::a)
  |_,_,_,_=>none
def UF(L M:an):PS->List aq->an
 |(i,n,o,_)::r,c::cs=>UF L (M.set i (.box n (ovw (UW L i n) o c))) r cs
 |_,_=>M
def MM:PS->ar
 |[]=>[]
 |p::r=>p.1::MM r
def rnP:PS->Nat->SV->bz
 |[],_,x=>match CR 0 x with
  |true=>some x
  |false=>none
 |(_,n,o,_)::r,j,x=>match x with
  |.p b a=>match Nat.beq n b,Nat.beq o a with
   |true,true=>some (.p j 0)
   |_,_=>rnP r (j+1) (.p b a)
  |x=>rnP r (j+1) x
structure HG (c κ:Ctx) (L:an) (js:ar):Prop where
 a:∀{O:Type} [aN O] {s:AC} {d:List O},bJ c s d->bJ κ s d
 o:∀{O:Type} [aN O] {s:AC} {d:List O} (i:Nat),L[i]?=some (ow s d)->gO i js=true->bJ κ s d
 f:∀{O:Type} [aN O] {s:AC} {d:List O} (i:Nat),L[i]?=some (fr s d)->bJ κ s d
def PvR(B:Bl)(L:an):PS->List aq->cg->Prop
 |[],[],[]=>True
 |(i,n,o,k)::r,d::b,p::a=>(∃cs vs,L[i]?=some (.box n cs)/\B[n]?=some (p.b,p.z)/\bE (cA B) cs=some vs/\o+k<=cs.length/\p.A=vs.take o/\p.V=(vs.drop o).take k/\p.C=vs.drop (o+k)/\d=(cs.drop o).take k)/\PvR B L r b a
 |_,_,_=>False
def blP(pv:cg):Bl:=pv.map λp=>(p.b,p.z+p.A.length)
section
variable {c:Ctx} {w:World} {B:Bl} {L:an} {R:bn}
theorem a01{i n:Nat}{x:SV}{r:aq}(h:UW L i n=x::r):L[i]?=some (.box n (x::r)):=by
 unfold UW at h;split at h
 .rename_i k cs a;grind[rR]
 .cases h
theorem bJP(f:St c w (L.map (lS B)) R):∀{ps:PS} {ds:List aq},aQK L ps=some ds->∃pv,PvR B L ps ds pv
 |[],ds,h=>by cases h;exact⟨[],trivial⟩
 |(i,n,o,k)::r,ds,h=>by
  simp only[aQK] at h;split at h
  .rename_i d m l j e q;cases h;have l:=XC l;have j:=XC j;obtain⟨pv,a⟩:=bJP f q;have e:=Y9 e;subst e;cases p:UW L i n with
   |nil=>grind
   |cons x cs=>
    have g:=a01 p;obtain⟨F,b,z,vs,t,s,u⟩:=f.chunk (ch:=XM B n (x::cs)) i (by simp[g,lS]);exact⟨⟨b,z,vs.take o,(vs.drop o).take k,vs.drop (o+k)⟩::pv,⟨x::cs,vs,g,t,s,aj,rfl,rfl,rfl,ae⟩,a⟩
  .cases h
theorem parts{vs:ao}{o k:Nat}:vs.take o++((vs.drop o).take k++vs.drop (o+k))=vs:=by grind[List.drop_drop,aL2]
theorem a69{F:dA}:∀{ps:PS} {ds:List aq} {pv:cg} {F:dA},PvR B L ps ds pv->Sep w (pick (L.map (lS B)) (MM ps)) F->Sep w (pv.map PV.whole) F
 |[],[],[],F,_,h=>h
 |(i,n,o,k)::r,d::ds,p::ps,F,⟨⟨cs,vs,f,G,E,D,C,A,y,x⟩,e⟩,h=>by simp only[MM,pick,D0,f,Option.map_some,Option.getD_some] at h;obtain⟨s,q,m,l,g,j⟩:=h;refine⟨s,q,?_,a69 (F:=F) e l,g,j⟩;obtain⟨b,z,a,v,u,t⟩:=m;grind[PV.whole,parts]
theorem a4A{Bs:Bl}{p:PV}{ps:cg}{j:Nat}(h:∀i,Bs[j+i]?=(blP (p::ps))[i]?):Bs[j]?=some (p.b,p.z+p.A.length)/\∀i,Bs[j+1+i]?=(blP ps)[i]?:=by
 refine⟨?_,λi=>?_⟩
 .have:=h 0;grind[blP]
 .have:=h (i+1);grind[blP]
theorem bCU{Bs:Bl}:∀{ps:PS} {ds:List aq} {pv:cg} {j:Nat} {F:dA},PvR B L ps ds pv->ds.all (CR.okC 0)=true->(∀i,Bs[j+i]?=(blP pv)[i]?)->Sep w (pv.map PV.mid) F->Sep w ((aXW j ds).map (lS Bs)) F
 |[],[],[],_,F,_,_,_,h=>h
 |(i,n,o,k)::r,d::ds,p::ps,j,F,⟨⟨cs,vs,J,I,H,G,E,D,C,A⟩,e⟩,a,f,h=>by
  simp only[aT3,ET] at a;obtain⟨z,y,q,m,g,l⟩:=h;obtain⟨u,t⟩:=a4A f;refine⟨z,y,⟨p.b,p.z+p.A.length,p.V,u,?_,q⟩,bCU e a.2 t m,g,l⟩;have s:bE (cA B) d=some p.V:=by grind[XL,XJ]
  have b:=F7 a.1 s;rw[List.take_zero] at b;exact gH (λx v h=>by simpa using iI (B:=[]) Bs h) b
theorem a4B{Bs:Bl}:∀{ps:PS} {ds:List aq} {pv:cg} {j:Nat} {x e:SV} {v:Value},PvR B L ps ds pv->(∀i,Bs[j+i]?=(blP pv)[i]?)->rnP ps j x=some e->gT B x=some v->gT Bs e=some v
 |[],[],[],j,x,e,v,_,_,a,b=>by
  simp only[rnP] at a;split at a
  .rename_i s;cases a;have:=ZA s b;rw[List.take_zero] at this;simpa using AE (B:=[]) Bs this
  .cases a
 |(i,n,o,k)::r,d::ds,p::ps,j,x,e,v,⟨⟨cs,vs,G,q,F,E,D,C,A,z⟩,h⟩,m,a,b=>by
  obtain⟨H,l⟩:=a4A m;simp only[rnP] at a;split at a
  .rename_i u t;split at a
   .rename_i g f;cases a;have g:=rR g;have f:=rR f;subst g;subst f;simp only[gT,gV,cA,q] at b;have y:p.A.length=o:=by grind[m0]
    simp_all[gT,gV,cA]
   .exact a4B h l a b
  .exact a4B h l a b
theorem aXX{Bs:Bl}{ps:PS}{ds:List aq}{pv:cg}(d:PvR B L ps ds pv)(e:∀i,Bs[0+i]?=(blP pv)[i]?):∀{xs b:aq} {vs:ao},bE (rnP ps 0) xs=some b->bE (gT B) xs=some vs->bE (gT Bs) b=some vs
 |[],_,_,h,a=>by cases h;exact a
 |x::xs,b,vs,h,a=>by
  simp only[bE] at h a;split at h
  .cases h
  .rename_i g;split at h
   .cases h
   .rename_i f;cases h;split at a
    .cases a
    .rename_i v1;split at a
     .cases a
     .rename_i v2;cases a;simp only[bE,a4B d e g v1,aXX d e f v2]
def PvN(B:Bl):cg->List aq->cg->Prop
 |[],[],[]=>True
 |p::b,d::e,q::a=>(q.b=p.b/\q.z=p.z/\q.A=p.A/\q.C=p.C/\q.V.length=p.V.length/\bE (cA B) d=some q.V)/\PvN B b e a
 |_,_,_=>False
theorem a02:∀{ps:cg} {ds:List aq} {qs:cg},PvN B ps ds qs->qs.flatMap PV.rest=ps.flatMap PV.rest/\blP qs=blP ps
 |[],[],[],_=>⟨rfl,rfl⟩
 |p::ps,d::ds,q::qs,⟨⟨i,h,g,f,e,b⟩,a⟩=>by obtain⟨k,j⟩:=a02 a;simp_all[PV.rest,blP]
def aHW:PS->List aq->Bool
 |[],[]=>true
 |(_,_,_,k)::r,d::a=>match Nat.beq d.length k with
  |true=>aHW r a
  |false=>false
 |_,_=>false
theorem bCV:∀{ps:PS} {ds:List aq} {pv:cg},PvR B L ps ds pv->pv.length=ps.length
 |[],[],[],_=>rfl
 |(i,n,o,k)::r,d::ds,p::ps,⟨_,a⟩=>by simp[bCV a]
theorem a7A{Bs:Bl}:∀{ps:PS} {ds:List aq} {pv:cg} {es:List aq} {j:Nat},PvR B L ps ds pv->aHW ps es=true->es.all (CR.okC 0)=true->(∀i,Bs[j+i]?=(blP pv)[i]?)->(∀i cs,es[i]?=some cs->∃F,(XM Bs (j+i) cs).P w F)->∃qs,PvN B pv es qs/\kW w ((aXW j es).map (lS Bs)) (qs.map PV.mid)
 |[],[],[],[],j,_,_,_,_,_=>⟨[],trivial,.nil⟩
 |[],[],[],e::es,j,_,a,_,_,_=>by grind[aHW]
 |(i,n,o,k)::r,d::ds,p::ps,[],j,_,a,_,_,_=>by grind[aHW]
 |(i,n,o,k)::r,d::ds,p::ps,e::es,j,⟨⟨cs,vs,W,V,K,U,T,S,Q,P⟩,H⟩,a,l,J,u=>by
  simp only[aHW] at a;split at a
  .rename_i t;have t:=rR t;simp only[aT3,ET] at l;obtain⟨q,M⟩:=a4A J;obtain⟨qs,E,D⟩:=a7A H a l.2 M λi cs O=>by have:=u (i+1) cs aj;grind
   obtain⟨F,b,z,C,Y,m,X⟩:=u 0 e rfl;have s:=m0 K;have y:=F7 l.1 m;rw[List.take_zero] at y;refine⟨⟨p.b,p.z,p.A,C,p.C⟩::qs,⟨⟨rfl,rfl,rfl,rfl,?_,gH (λx v h=>by simpa using iI (B:=[]) B h) y⟩,E⟩,.cons (λF I=>?_) D⟩
   .grind[m0]
   .obtain⟨Z,N,A,g,f,G⟩:=I;rw[show j=j+0 by omega] at q;simp only[aFJ] at m f g q;rw[q] at g;cases g;rw[m] at f;cases f;exact G
  .cases a
theorem aQL:∀{ws vs:ao} {o:Nat},o+ws.length<=vs.length->aHL vs o ws=vs.take o++(ws++vs.drop (o+ws.length))
 |[],vs,o,h=>by simp[aHL]
 |x::ws,vs,o,h=>by
  simp only[UQ] at h;simp only[aHL];rw[aQL ah];have a:(vs.set o x).take (o+1)=vs.take o++[x]:=by rw[List.take_add_one,List.getElem?_set_self aa];grind[List.take_set,List.set_eq_of_length_le]
  grind[List.drop_set_of_lt]
theorem bCW:∀{ps:PS} {ds es:List aq} {pv qs:cg} {M:an} {F:dA},PvR B L ps ds pv->PvN B pv es qs->(∀i∈MM ps,M[i]?=some .no)->eA (MM ps)=true->Sep w (qs.map PV.whole++M.map (lS B)) F->Sep w ((UF L M ps es).map (lS B)) F
 |[],[],[],[],[],M,F,_,_,_,_,h=>h
 |(i,n,o,k)::r,d::ds,e::es,p::ps,q::qs,M,F,⟨⟨cs,vs,Y,E,D,X,W,V,U,T⟩,v⟩,⟨⟨u,t,Q,P,O,N⟩,a⟩,z,b,h=>by
  simp only[MM,eA,ET] at b;have g:M[i]?=some .no:=z i (by simp[MM]);have m:i<M.length:=(I8.1 g).1;simp only[UF];refine bCW (ps:=r) (ds:=ds) (es:=es) (pv:=ps) (qs:=qs) v a (λj x=>?_) b.2 ?_
  .have l:i≠j:=λe=>by subst e;have:=aT4.1 b.1 _ x;simp at this
   grind[MM]
  .have C:Sep w (qs.map PV.whole++(q.whole::M.map (lS B))) F:=Sep.perm List.perm_middle.symm h;obtain⟨K,F2,I,Z,G,H⟩:=Sep.append.1 C;refine Sep.append.2 ⟨K,F2,I,?_,G,H⟩;have y:UW L i n=cs:=by simp_all[UW]
   have e0:(M.map (lS B)).set i QY=M.map (lS B):=by
    have:(M.map (lS B))[i]?=some QY:=by simp[g,lS]
    grind[aPY]
   have J:Sep w ((M.map (lS B)).set i q.whole) F2:=Sep.put aj aj;rw[MR,y];refine Sep.imp ?_ J;refine kW.set i (kW.refl _) λF A=>⟨p.b,p.z,q.A++(q.V++q.C),E,?_,by rw[<-u,<-t];exact A⟩;have f:=m0 D;have S:p.V.length=k:=aj
   have s:e.length=k:=by grind[m0]
   simp_all[aQA,aHP,aQL]
 |[],[],e::es,[],_,M,F,_,a,_,_,_=>by grind[PvN]
 |[],[],[],[],q::qs,M,F,_,a,_,_,_=>by grind[PvN]
 |(i,n,o,k)::r,d::ds,[],p::ps,qs,M,F,_,a,_,_,_=>by grind[PvN]
 |(i,n,o,k)::r,d::ds,e::es,p::ps,[],M,F,_,a,_,_,_=>by grind[PvN]
theorem a03{x:Ch}:∀{ps:PS} {es:List aq} {M:an},x∈UF L M ps es->x∈M\/∃n cs,x=.box n cs
 |[],_,M,h=>.inl (by simpa[UF] using h)
 |(i,n,o,k)::r,[],M,h=>.inl (by simpa[UF] using h)
 |(i,n,o,k)::r,e::es,M,h=>by
  rcases a03 (ps:=r) (es:=es) (by simpa[UF] using h) with h|h
  .obtain h|h:=nM h
   .exact .inl h
   .exact .inr ⟨_,_,h⟩
  .exact .inr h
end
def cpS:Stop->Option (Oper×Option Nat×FuncId×List SV×wJ×wJ×List Fr×Nat×SE×List Ch)
 |.call o d f xs cf cf' K m e L=>some (o,d,f,xs,cf,cf',K,m,e,L)
 |.callp o d f xs cf cf' K m e L=>some (o,d,f,xs,cf,cf',K,m,e,L)
 |_=>none
def dse(d:cm)(v:SV)(e:SE):SE:=match d with
 |some d=>(d,v)::e
 |none=>e
def MN:an->Bool
 |[]=>true
 |.o _::L=>MN L
 |_::_=>false
theorem aCS{B B':Bl}:∀{L:an},MN L=true->L.map (lS B)=L.map (lS B')
 |[],_=>rfl
 |.o c::L,h=>by simp only[aFG,lS];rw[aCS (L:=L) h]
theorem aCT{B:Bl}{R:bn}:∀{L:an},MN L=true->∀x∈L,roF B R x
 |[],_,x,a=>by cases a
 |.o c::L,h,x,a=>by
  obtain a|a:=qM.1 a
  .subst a;trivial
  .exact aCT (L:=L) h x a
theorem a04{B:Bl}{R:bn}:∀{cs:List aq} {k:Nat},∀x∈aXW k cs,roF B R x
 |[],k,x,a=>by cases a
 |c::cs,k,x,a=>by
  obtain a|a:=qM.1 a
  .subst a;trivial
  .exact a04 x a
def aQM:∀{cs:List aq} {k i:Nat} {c:aq},cs[i]?=some c->(aXW k cs)[i]?=some (.box (k+i) c)
 |a::cs,k,0,c,h=>by simp at h;subst h;rfl
 |a::cs,k,i + 1,c,h=>by have:=aQM (k:=k+1) (show cs[i]?=some c by grind);grind[aXW]
theorem aHX{L:bc}:∀{a b:ar},pick L (a++b)=pick L a++pick L b
 |[],b=>rfl
 |i::a,b=>by simp only[aCN,pick,aHX (a:=a)]
theorem aPG:∀{js:ar} {L:an},(PN L js).length=L.length
 |[],L=>rfl
 |j::js,L=>by simp only[PN];rw[aPG];simp
theorem bCX:∀{js:ar} {L:an} {i:Nat},i<L.length->L[i]?=some .no\/i∈js->(PN L js)[i]?=some .no
 |[],L,i,_,h=>by obtain h|h:=h;exact h;cases h
 |j::js,L,i,a,h=>by simp only[PN];refine bCX aj ?_;grind
theorem bCY{B:Bl}{L:an}:∀{ps:PS} {ds:List aq} {pv:cg},PvR B L ps ds pv->∀i∈MM ps,i<L.length
 |[],[],[],_,i,h=>by cases h
 |(i,n,o,k)::r,d::ds,p::ps,⟨⟨cs,vs,b,_⟩,a⟩,j,h=>by
  obtain h|h:=qM.1 h
  .grind
  .exact bCY a j h
def a7B:∀{a b:ar},eA (a++b)=true->eA a=true
 |[],b,_=>rfl
 |i::a,b,h=>by simp only[aCN,eA,ET,List.all_append] at h ⊢;exact⟨h.1.1,a7B h.2⟩
def a05{g:Gx}{cf:wJ}{L M:an}{j:Nat}{z:Ch}(h:Frz g cf L M)(hn:gO j cf.AV=true):Frz g cf L (M.set j z):=by
 cases cf with
 |d B1 ops l is Lf Lv=>
  intro a;obtain⟨c,b⟩:=h a;have:=aEL (L:=M) (M:=[]) (j:=j) (z:=z) b hn;grind
 |o B1 ops l is Lf Lv ii=>
  intro a;obtain⟨c,b⟩:=h a;have:=aEL (L:=M) (M:=[]) (j:=j) (z:=z) b hn;grind
 |_=>trivial
def a06{g:Gx}{cf:wJ}{L L0:an}:∀{ps:PS} {es:List aq} {M:an},Frz g cf L M->((MM ps).all λj=>gO j cf.AV)=true->Frz g cf L (UF L0 M ps es)
 |[],_,M,h,_=>by grind[UF]
 |(i,n,o,k)::r,[],M,h,_=>by grind[UF]
 |(i,n,o,k)::r,e::es,M,h,a=>by simp only[MM,aT3,ET] at a;exact a06 (ps:=r) (es:=es) (a05 h a.1) a.2
def aKD{i:Nat}:∀{js:ar},gO i js=true->(js.all λj=>!Nat.beq j i)=true
 |[],_=>rfl
 |j::js,h=>by
  simp only[gO] at h;split at h
  .cases h
  .rename_i a;simp only[aT3,ET,Bool.not_eq_true'];refine⟨?_,aKD h⟩;grind[rR]
def bCZ{g:Gx}{s:Stop}{o:Oper}{d:cm}{f:FuncId}{xs:aq}{cf cf':wJ}{K:a8}{m:Nat}{e:SE}{L:an}(c:cpS s=some (o,d,f,xs,cf,cf',K,m,e,L))
  (h:∀fo args a,o.op=.call {callee:=.value fo,args:=args,argTypes:=a}->o.dst=d->jS e fo=some (.f f [])->(∃b,bE (jS e) args.toList=some b/\nbA b=xs)->tR g.n d=true->aL7 g K m e L o cf cf'->G g K m e L cf):Gs g s:=by
 cases s<;>simp only[cpS] at c<;>cases c
 .exact λfo args a p n l k _ j i=>h fo args a p n l k j i
 .exact h
section
variable {P:Program} {T:TT} {hT:I3 P T} {n:Nat} {c:Ctx} {B0:Bl} {N:Act->World->Prop} {X:Nat->Act->World->Prop} {Q:Act->World->Prop} {K K':a8} {m m':Nat} {e e':SE} {L L':an} {cf cf1 cf2:wJ} {o:Oper}
theorem cwk{O β ex:Type}{fo:Option O}{kf:O->Option β}{q:β}{d:cm}{f:FuncId}{xs xs0:aq}{t:List aq}{M:an}{sv:O->ex->SV}{cb:O->ex->List aq}{Lr:O->ex->an}(ps:PS)(is:ar)
  (hs:cpS (j7 T n K cf m e L)=some (o,d,f,xs,cf1,cf2,K',m',e',L')) (hb:aQK L' ps=some t) (u:bE (λi=>L'[i]?) is=some M) (hx:bE (rnP ps 0) xs=some xs0)
  (hk:(MN M && (t.all (CR.okC 0) && (eA (MM ps++is) && (MM ps++is).all λj=>gO j cf1.AV)))=true)
  (hn:∀x y,(aHW ps (cb x y) && ((cb x y).all (CR.okC 0) && (MN (Lr x y) && CR 0 (sv x y))))=true)
  (hc:∀{κ:Ctx},HG c κ L' (MM ps++is)->∀{Bs:Bl},Bs.length=ps.length->∀{x},fo=some x->FnS P f κ xs0 Bs (aXW 0 t++M) sv (λx y=>aXW 0 (cb x y)++Lr x y) x)
  (hF:fo.bind kf=some q)
  (k:∀x,fo=some x->kf x=some q->∀y:ex,G (.mk P T hT n c B0 N X Q) K' m' (dse d (sv x y) e') (UF L' (PN L' (MM ps++is)++Lr x y) ps (cb x y)) cf2):G (.mk P T hT n c B0 N X Q) K m e L cf:=by
 refine iV (g:=.mk P T hT n c B0 N X Q) (bCZ hs ?_);intro fo' args ats ho hd hf ⟨ys,U,hxs⟩ hdn hE;simp only[ET] at hk hn;obtain⟨Y,hkc,H,W⟩:=hk;cases C:fo with
 |none=>grind
 |some x=>
  rw[C] at hF;have S:((MM ps).all λj=>gO j cf1.AV)=true:=aj
  refine hE ex (λ_=>m') (λy=>dse d (sv x y) e') (λy=>UF L' (PN L' (MM ps++is)++Lr x y) ps (cb x y)) (λy=>a06 (ZB _ W) S) (λB a w next Q' hm D hS b=>?_) (k x C hF);generalize hBB:B0S (.mk P T hT n c B0 N X Q) cf1++B=l at hm D hS b;obtain⟨⟨R,s1,s2⟩,s0⟩:=hS;obtain⟨pv,r⟩:=bJP s1 hb;have hBs:(blP pv).length=ps.length:=by grind[blP,bCV]
  have I:∀i,(blP pv)[0+i]?=(blP pv)[i]?:=λi=>ae
  have f1:=s1.front (MM ps++is) H;have f2:St c w ((pv.map PV.mid++M.map (lS l))++(pv.flatMap PV.rest++blank (L'.map (lS l)) (MM ps++is))) R:=by refine f1.via λF h=>?_;rw[aHX,UU u] at h;obtain⟨F1,F2,g1,g2,gd,gF⟩:=Sep.append.1 h;obtain⟨F3,F4,J,g4,gd2,gF2⟩:=Sep.append.1 g1;have g5:=bNP (a69 (F:=F) r J);have g6:Sep w (((pv.map PV.mid++pv.flatMap PV.rest)++M.map (lS l))++blank (L'.map (lS l)) (MM ps++is)) F:=Sep.append.2 ⟨F1,F2,Sep.append.2 ⟨F3,F4,g5,g4,gd2,gF2⟩,g2,gd,gF⟩;refine Sep.perm ?_ g6;grind[List.Perm.append_left,List.Perm.append_right,List.perm_append_comm]
  obtain⟨κ,k1,k2,k3,k4,k5,k6,k7⟩:=f2.bJO s0;subst k1;have Z:HG c κ L' (MM ps++is):=by
   refine⟨λ{O} _ {s d} h=>k4 (fRd [s.v d.length] d) h,λ{O} _ {s d} i u hj=>?_,λ{O} _ {s d} i u=>k5 _ (s2 _ (O1 u))⟩;have:(blank (L'.map (lS l)) (MM ps++is))[i]?=some (dF [s.v d.length] d):=by rw[aJ7 (aKD hj),D0,u];rfl
   exact k6 _ (List.mem_append_right _ (O1 this)) (fRd [s.v d.length] d) λw F h=>aN.own_rd h
  obtain⟨A,E⟩:=hc Z hBs C;obtain⟨vs,h1,h2⟩:=aFK D U;obtain⟨v,h3,h4⟩:=fL D hf;simp[gT,bE] at h3;subst h3;have h1':bE (gT l) xs=some vs:=by grind[US]
  have V:nZ κ κ.w0 (blP pv) (aXW 0 t++M):=by
   refine⟨⟨[],?_,λx hx=>?_⟩,k2⟩
   .rw[D1,aCS (B':=l) Y];refine k3.via λF h=>?_;grind[Sep.append,bCU]
   grind[a04,aCT]
  have h5:=E vs (aXX r I hx h1') V;have h6:=XO (w:=κ.w0) A ho h4 h2;unfold Oper.wp;rw[h6 _ a D.env,Oper.upon_enter];refine Calls.mono h5 λen w' ⟨v,hv,y,g1,g2⟩=>?_;subst hv;obtain⟨n1,n2,n3,n4⟩:=hn x y;have J:=AE l (aWH n4 g1);rw[aHI] at J;obtain⟨⟨R',t1,t2⟩,t0⟩:=g2;obtain⟨qs,q1,q2⟩:=a7A (w:=w') r n1 n2 I λi cs u=>t1.chunk (ch:=XM (blP pv) (0+i) cs) i (by
   rw[D0,List.getElem?_append_left (by
    have:=(I8.1 (aQM (k:=0) u)).1;exact this),aQM u];rfl)
  obtain⟨e1,e2⟩:=a02 q1;have t3:St κ w' (qs.map PV.mid++(Lr x y).map (lS l)) R':=by refine t1.imp ?_;grind[aCS,kW.append,kW.refl]
  have t4:=k7 w' _ R' t3;have t5:St c w' ((UF L' (PN L' (MM ps++is)++Lr x y) ps (cb x y)).map (lS l)) R:=by
   refine t4.via λF h=>?_;refine bCW r q1 (λi u=>?_) (a7B H) ?_
   .grind[bCY,aPG,bCX]
   .rw[D1,NO];have h7:Sep w' ((qs.map PV.mid++qs.flatMap PV.rest)++(blank (L'.map (lS l)) (MM ps++is)++(Lr x y).map (lS l))) F:=by rw[e1];refine Sep.perm ?_ h;grind[List.Perm.append_left,List.perm_append_comm]
    grind[Sep.append,bNQ]
  have t6:nZ c w' l (UF L' (PN L' (MM ps++is)++Lr x y) ps (cb x y)):=by
   refine⟨⟨R,t5,λz p=>?_⟩,s0⟩;obtain p|⟨_,_,p⟩:=a03 p
   .obtain p|p:=j4.1 p
    .obtain p|p:=UT _ _ p
     .grind
     .subst p;trivial
    grind[aCT]
   .subst p;trivial
  rw[hd];cases d with
  |none=>exact b y _ _ ⟨[],aj,by grind[dse,Act.put],aj⟩
  |some d=>exact b y _ _ ⟨[],aj,by simpa[dse] using D.of J (D.env.put (by grind[tR,AA]) v),aj⟩
end
section
variable {P:Program} {T:TT} {hT:I3 P T} {n:Nat} {c:Ctx} {B0:Bl} {N:Act->World->Prop} {X:Nat->Act->World->Prop} {Q:Act->World->Prop} {K K':a8} {m m':Nat} {e e':SE} {L L' Lv:an} {cf cf' cf1 cf2:wJ} {o:Oper}
section
variable {O β ex:Type} {fo:Option O} {kf:O->Option β} {q:β} {d:cm} {f:FuncId} {xs xs0:aq} {M:an} {sv:O->ex->SV} {Lr:O->ex->an}
theorem cw0(is:ar)
  (b:cpS (j7 T n K cf m e L)=some (o,d,f,xs,cf1,cf2,K',m',e',L')) (l:bE (λi=>L'[i]?) is=some M) (a:bE (rnP [] 0) xs=some xs0)
  (t:(MN M && (eA is && is.all λj=>gO j cf1.AV))=true) (hn:∀x y,(MN (Lr x y) && CR 0 (sv x y))=true)
  (p:∀{κ:Ctx},HG c κ L' is->∀{x},fo=some x->FnS P f κ xs0 [] M sv Lr x) (r:fo.bind kf=some q)
  (k:∀x,fo=some x->kf x=some q->∀y:ex,G (.mk P T hT n c B0 N X Q) K' m' (dse d (sv x y) e') (PN L' is++Lr x y) cf2):G (.mk P T hT n c B0 N X Q) K m e L cf:=
 cwk (cb:=λ_ _=>[]) (Lr:=Lr) [] is b rfl l a (by grind[MM]) (λx y=>by grind[aHW]) (λ{κ} h s g x a=>match s,g with|[],_=>p (by grind[MM]) a) r (λx v u y=>by grind[UF,MM])
theorem cw1{c1:aq}{p:O->ex->aq}(a g b l:Nat)(is:ar)
  (t:cpS (j7 T n K cf m e L)=some (o,d,f,xs,cf1,cf2,K',m',e',L')) (A:aQK L' [(a,g,b,l)]=some [c1]) (w:bE (λi=>L'[i]?) is=some M) (r:bE (rnP [(a,g,b,l)] 0) xs=some xs0)
  (v:(MN M && ([c1].all (CR.okC 0) && (eA (a::is) && (a::is).all λj=>gO j cf1.AV)))=true) (hn:∀x y,(aHW [(a,g,b,l)] [p x y] && ([p x y].all (CR.okC 0) && (MN (Lr x y) && CR 0 (sv x y))))=true)
  (z:∀{κ:Ctx},HG c κ L' (a::is)->∀{s:Nat×Nat} {x},fo=some x->FnS P f κ xs0 [s] (.box 0 c1::M) sv (λx y=>.box 0 (p x y)::Lr x y) x) (B:fo.bind kf=some q)
  (k:∀x,fo=some x->kf x=some q->∀y:ex,G (.mk P T hT n c B0 N X Q) K' m' (dse d (sv x y) e') (UF L' (PN L' (a::is)++Lr x y) [(a,g,b,l)] [p x y]) cf2):G (.mk P T hT n c B0 N X Q) K m e L cf:=
 cwk (cb:=λx y=>[p x y]) (Lr:=Lr) [(a,g,b,l)] is t A w r v hn (λ{κ} h C u x r=>match C,u with|[s],_=>z h r) B k
theorem cw2{c1 z:aq}{v u:O->ex->aq}(b r l t:Nat)(a p g s:Nat)(is:ar)
  (C:cpS (j7 T n K cf m e L)=some (o,d,f,xs,cf1,cf2,K',m',e',L')) (I:aQK L' [(b,r,l,t),(a,p,g,s)]=some [c1,z]) (F:bE (λi=>L'[i]?) is=some M) (w:bE (rnP [(b,r,l,t),(a,p,g,s)] 0) xs=some xs0)
  (E:(MN M && ([c1,z].all (CR.okC 0) && (eA (b::a::is) && (b::a::is).all λj=>gO j cf1.AV)))=true) (hn:∀x y,(aHW [(b,r,l,t),(a,p,g,s)] [v x y,u x y] && ([v x y,u x y].all (CR.okC 0) && (MN (Lr x y) && CR 0 (sv x y))))=true)
  (H:∀{κ:Ctx},HG c κ L' (b::a::is)->∀{B A:Nat×Nat} {x},fo=some x->FnS P f κ xs0 [B,A] (.box 0 c1::.box 1 z::M) sv (λx y=>.box 0 (v x y)::.box 1 (u x y)::Lr x y) x) (J:fo.bind kf=some q)
  (k:∀x,fo=some x->kf x=some q->∀y:ex,G (.mk P T hT n c B0 N X Q) K' m' (dse d (sv x y) e') (UF L' (PN L' (b::a::is)++Lr x y) [(b,r,l,t),(a,p,g,s)] [v x y,u x y]) cf2):G (.mk P T hT n c B0 N X Q) K m e L cf:=
 cwk (cb:=λx y=>[v x y,u x y]) (Lr:=Lr) [(b,r,l,t),(a,p,g,s)] is C I F w E hn (λ{κ} h R D x w=>match R,D with|[B,A],_=>H h w) J k
theorem cw3{c1 D c3:aq}{B A z:O->ex->aq}(g t r w:Nat)(b s p v:Nat)(a n3 l u:Nat)(is:ar)
  (I:cpS (j7 T n K cf m e L)=some (o,d,f,xs,cf1,cf2,K',m',e',L')) (V:aQK L' [(g,t,r,w),(b,s,p,v),(a,n3,l,u)]=some [c1,D,c3]) (S:bE (λi=>L'[i]?) is=some M) (C:bE (rnP [(g,t,r,w),(b,s,p,v),(a,n3,l,u)] 0) xs=some xs0)
  (R:(MN M && ([c1,D,c3].all (CR.okC 0) && (eA (g::b::a::is) && (g::b::a::is).all λj=>gO j cf1.AV)))=true) (hn:∀x y,(aHW [(g,t,r,w),(b,s,p,v),(a,n3,l,u)] [B x y,A x y,z x y] && ([B x y,A x y,z x y].all (CR.okC 0) && (MN (Lr x y) && CR 0 (sv x y))))=true)
  (U:∀{κ:Ctx},HG c κ L' (g::b::a::is)->∀{H F E:Nat×Nat} {x},fo=some x->FnS P f κ xs0 [H,F,E] (.box 0 c1::.box 1 D::.box 2 c3::M) sv (λx y=>.box 0 (B x y)::.box 1 (A x y)::.box 2 (z x y)::Lr x y) x) (W:fo.bind kf=some q)
  (k:∀x,fo=some x->kf x=some q->∀y:ex,G (.mk P T hT n c B0 N X Q) K' m' (dse d (sv x y) e') (UF L' (PN L' (g::b::a::is)++Lr x y) [(g,t,r,w),(b,s,p,v),(a,n3,l,u)] [B x y,A x y,z x y]) cf2):G (.mk P T hT n c B0 N X Q) K m e L cf:=
 cwk (cb:=λx y=>[B x y,A x y,z x y]) (Lr:=Lr) [(g,t,r,w),(b,s,p,v),(a,n3,l,u)] is I V S C R hn (λ{κ} h Y J x C=>match Y,J with|[H,F,E],_=>U h C) W k
end
theorem bJR(s:AC)(d b:Nat):elB (s.v d)=elB (s.v b):=by obtain⟨a,c⟩:=s;cases a<;>rfl
theorem bJS(s:AC)(q k d b:Nat):Y5 q k (s.v d)=Y5 q k (s.v b):=by obtain⟨a,c⟩:=s;cases a<;>rfl
theorem ro{O β:Type}[aN O](E:CO O)(j v nb:Nat){s:AC}{i:Int}{r:Nat}{b:List O}{kf:O->Option β}{q:β}(M:V6 (j7 T n K cf m e L)=some (K',cf',m',e',L'))(S:L'[j]?=some (ow s b))(J:L'[v]?=some (wOf O nb s r i.toNat))(d:gO j cf'.AV=true)(A:(idx b i).bind kf=some q)
  (k:∀x,idx b i=some x->kf x=some q->∀y:E.ex,G (.mk P T hT n c B0 N X Q) K' m' e' (L'.set j .no++([.o (qN (s.v b.length) b i.toNat),.box nb (E.cs x y),wOf O nb s b.length i.toNat]++E.Lx x y)) cf'):G (.mk P T hT n c B0 N X Q) K m e L cf:=by
 refine go M ?_;cases t:idx b i with
 |none=>grind
 |some x=>
  rw[t] at A;refine chg (λ_=>m') (λ_=>e') (λy:E.ex=>L'.set j .no++([.o (qN (s.v b.length) b i.toNat),.box nb (E.cs x y),wOf O nb s b.length i.toNat]++E.Lx x y)) (λB a w W Y U=>?_) (λy=>aXT d) (λy=>k x t A y);obtain⟨⟨R,s1,I⟩,s0⟩:=U;have C:B[nb]?=some (elB (s.v b.length),Y5 (aN.n O) i.toNat (s.v b.length)):=by rw[bJR s b.length r,bJS s _ _ b.length r];exact I _ (O1 J)
  have l:(L'.map (lS B))[j]?=some (dF [s.v b.length] b):=by simp[S,lS]
  obtain⟨ec,H⟩:=s1.open j l (EV t).2.2;have u:((L'.map (lS B)).set j QY).length=L'.length:=ae
  obtain⟨F,p⟩:=H.chunk (L'.length+2) (by rw[aV4 aa];simp;rfl);obtain⟨y,g⟩:=E.op (show aN.own w ec x F from p);have D:=H.unpack (L'.length+2) ae (E.pk g);have f:((L'.map (lS B)).set j QY++[qN (s.v b.length) b i.toNat,cAt (elB (s.v b.length)) (Y5 (aN.n O) i.toNat (s.v b.length)) ec,dF ec x]).set (L'.length+2) QY=(L'.map (lS B)).set j QY++[qN (s.v b.length) b i.toNat,cAt (elB (s.v b.length)) (Y5 (aN.n O) i.toNat (s.v b.length)) ec,QY]:=ae
  rw[f] at D;refine⟨y,[],aj,aj,⟨⟨R,?_,λz d=>?_⟩,s0⟩⟩
  .have V:(L'.set j Ch.no).map (lS B)=(L'.map (lS B)).set j QY:=by rw[MR];rfl
   refine D.imp ?_;rw[ML,D1,D1,<-V,QX];refine kW.append (kW.refl _) (kW.append (.cons (λ_ h=>h) (.cons (λF h=>⟨_,_,ec,C,gH (λx v h=>by simpa using iI (B:=[]) B h) g,h⟩) (.cons (λ_ h=>h) .nil))) ?_);rw[E.nb x y B];exact kW.refl _
  .rw[ML];obtain d|d:=j4.1 d
   .obtain d|d:=nM d
    .grind
    .subst d;trivial
   .obtain d|d:=j4.1 d
    .simp at d;obtain rfl|rfl|rfl:=d
     .trivial
     .trivial
     .exact C
    .exact aQI (E.no x y) z d
theorem bx(i:Nat){nb:Nat}{cs:aq}(d:V6 (j7 T n K cf m e L)=some (K',cf',m',e',L'))(f:L'[i]?=some (.box nb cs))(b:gO i cf'.AV=true)(k:G (.mk P T hT n c B0 N X Q) K' m' e' (L'.set i (.box nb (nbL cs))) cf'):G (.mk P T hT n c B0 N X Q) K m e L cf:=by
 refine go d (chg (λ_:Unit=>m') (λ_=>e') (λ_=>L'.set i (.box nb (nbL cs))) (λB a w l r g=>?_) (λ_=>EW b) (λ_=>k));obtain⟨⟨R,j,h⟩,s0⟩:=g;have s:(L'.set i (.box nb (nbL cs))).map (lS B)=L'.map (lS B):=by
  obtain⟨p,q⟩:=I8.1 f;rw[MR];have:lS B (.box nb (nbL cs))=(L'.map (lS B))[i]' aj:=by grind[lS,XM,QZ]
  grind[aPY]
 refine⟨(),[],aj,aj,⟨⟨R,?_,λz b=>?_⟩,s0⟩⟩
 .grind
 .rw[ML];obtain b|b:=nM b
  .grind
  .subst b;trivial
theorem nw(O:Type)[aN O](f:V6 (j7 T n K cf m e L)=some (K',cf',m',e',L'))
  (k:G (.mk P T hT n c B0 N X Q) K' m' e' (L'++[ow ⟨none,0⟩ ([]:List O)]) cf'):G (.mk P T hT n c B0 N X Q) K m e L cf:=by
 refine go f ?_;refine chg (λ_:Unit=>m') (λ_=>e') (λ_=>L'++[ow ⟨none,0⟩ ([]:List O)]) (λB a w j l g=>?_) (λ_=>tV _) (λ_=>k);obtain⟨⟨R,d,i⟩,s0⟩:=g;refine⟨(),[],aj,aj,⟨⟨R,?_,λz b=>?_⟩,s0⟩⟩
 .rw[ML,D1];exact St.more d (fN.refl _ _) ⟨F0,⟨none,0,rfl,jR _,lR _,.inl ⟨rfl,rfl,λ_ _ h=>h⟩⟩,λ_ _ h=>h.elim⟩
 .rw[ML];obtain b|b:=j4.1 b
  .grind
  .simp at b;subst b;trivial
theorem lP{Z:Act->World->Prop}(O:Type)[aN O](kk:∀a w,rU n c B0 m e (L++[ow ⟨none,0⟩ ([]:List O)]) a w->Z a w):∀a w,rU n c B0 m e L a w->Z a w:=by
 intro a w ⟨B,hm,g,f⟩;refine kk a w ⟨B,hm,g,?_⟩;obtain⟨⟨R,d,i⟩,s0⟩:=f;refine⟨⟨R,?_,λz b=>?_⟩,s0⟩
 .rw[D1];exact St.more d (fN.refl _ _) ⟨F0,⟨none,0,rfl,jR _,lR _,.inl ⟨rfl,rfl,λ_ _ h=>h⟩⟩,λ_ _ h=>h.elim⟩
 .obtain b|b:=j4.1 b
  .grind
  .simp at b;subst b;trivial
end
def AC.sub(s:AC)(n a:Nat):AC:=⟨if s.c=a then s.a else s.a.map (·.add (a*n)),s.c-a⟩
theorem QN{O:Type}{l:List O}{s:AC}{n a b k:Nat}(d:a<=b)(c:b<=l.length):jT n a b (s.v k)=(s.sub n a).v ((l.take b).drop a).length:=by rw[wV d c];rfl
section
variable {P:Program} {T:TT} {hT:I3 P T} {n:Nat} {c:Ctx} {B0:Bl} {N:Act->World->Prop} {X:Nat->Act->World->Prop} {Q:Act->World->Prop} {K K':a8} {m m':Nat} {e e':SE} {L L' Lv:an} {cf cf' cf1 cf2:wJ} {o:Oper} {d:Nat}
theorem cpc{O:Type}[aN O](j:Nat){s:AC}{l:List O}(b:V6 (j7 T n K cf m e L)=some (K',cf',m',e',L'))(f:L'[j]?=some (ow s l))(k:l.length<=s.c->G (.mk P T hT n c B0 N X Q) K' m' e' L' cf'):G (.mk P T hT n c B0 N X Q) K m e L cf:=by refine go b ?_;refine chg (λ_:PLift (l.length<=s.c)=>m') (λ_=>e') (λ_=>L') (λB a w r t g=>?_) (λ_=>by simpa using tV (L:=L') []) (λh=>k h.down);obtain⟨⟨R,s1,q⟩,s0⟩:=g;obtain⟨F,i⟩:=s1.chunk (ch:=dF [s.v l.length] l) j (by simp[f,lS]);obtain⟨x,v,p,u⟩:=SQ (show aN.own w [s.v l.length] l F from i);simp only[AC.v,Value.slice.injEq] at p;exact⟨⟨aa⟩,[],aj,aj,⟨⟨R,aj,aj⟩,s0⟩⟩
theorem bHN{O:Type}[aN O]{s:AC}{l:List O}(h:bJ c s l):l.length<=s.c:=by obtain⟨g,f,b,a,_⟩:=(show AB c.S0 c.w0 [s.v l.length] l from h);grind
section
variable {x y z u:Operand} {t el sz:Nat} {k1 k2 k3:IntKind} {i j p:Int} {O β:Type} [aN O] {A:Option β} {q:β} {s:AC} {l:List O} {b1 b2:Bool} {n1:Nat} {z1 z2:aq} {kt:TK}
theorem aE3(I:l.length<=s.c)(f:opS (j7 T n K cf m e L)=some (o,Lv,cf1,cf2,K',m',e',L')/\(o.op,o.dst)=(.slice t x (some y) none none,some d)/\AY T t=some ⟨.sl el,b1,n1,z1⟩/\AY T el=some ⟨kt,b2,sz,z2⟩/\jS e' x=some (.h s l.length)/\(jS e' y).bind uK=some (k1,i))(r:need (0<=i/\i<=(l.length:Int)) A=some q)
  (kk:A=some q->(i.toNat<=l.length/\l.length<=l.length)->G (.mk P T hT n c B0 N X Q) K' m' ((d,.h (s.sub sz i.toNat) ((l.take l.length).drop i.toNat).length)::e') L' cf2):G (.mk P T hT n c B0 N X Q) K m e L cf:=by
 obtain⟨F,k,E,H,D,C⟩:=f;have g:o.op=.slice t x (some y) none none:=dL Prod.fst k;have J:=(mZ r).1;have h:i.toNat<=l.length/\l.length<=l.length:=aa
 refine pu F (dL Prod.snd k) (λB a w v U=>⟨jT sz i.toNat l.length (s.v l.length),by grind[QN,gT,gV,cA],λ_ a b=>?_⟩) (kk (mZ r).2 h);obtain⟨S,R⟩:=J;have M:max i 0=i:=aa
 simp[execOp,g,Instr.sliceAt,Instr.slice,run_underlying (JA E hT),Instr.sliceBounds,b.eval (hdB v D),b.eval (AW v C),Instr.sliceBound,asIntOf,hT.size _ _ H,S,R,I,M,jT]
theorem aMT(S:l.length<=s.c)(f:opS (j7 T n K cf m e L)=some (o,Lv,cf1,cf2,K',m',e',L')/\(o.op,o.dst)=(.slice t x none (some z) none,some d)/\AY T t=some ⟨.sl el,b1,n1,z1⟩/\AY T el=some ⟨kt,b2,sz,z2⟩/\jS e' x=some (.h s l.length)/\(jS e' z).bind uK=some (k2,j))(r:need (0<=j/\j<=(l.length:Int)) A=some q)
  (kk:A=some q->(0<=j.toNat/\j.toNat<=l.length)->G (.mk P T hT n c B0 N X Q) K' m' ((d,.h (s.sub sz 0) ((l.take j.toNat).drop 0).length)::e') L' cf2):G (.mk P T hT n c B0 N X Q) K m e L cf:=by
 obtain⟨F,k,E,H,D,C⟩:=f;have g:o.op=.slice t x none (some z) none:=dL Prod.fst k;have I:=(mZ r).1;have h:0<=j.toNat/\j.toNat<=l.length:=aa
 refine pu F (dL Prod.snd k) (λB a w v U=>⟨jT sz 0 j.toNat (s.v l.length),by grind[QN,gT,gV,cA],λ_ a b=>?_⟩) (kk (mZ r).2 h);obtain⟨R,V⟩:=I;have M:j<=(s.c:Int):=aa
 have J:max j 0=j:=aa
 simp[execOp,g,Instr.sliceAt,Instr.slice,run_underlying (JA E hT),Instr.sliceBounds,b.eval (hdB v D),b.eval (AW v C),Instr.sliceBound,asIntOf,hT.size _ _ H,R,M,J,jT]
theorem bNR(hc:l.length<=s.c)(W:opS (j7 T n K cf m e L)=some (o,Lv,cf1,cf2,K',m',e',L'))(F:(o.op,o.dst)=(.slice t x none (some z) (some u),some d))(E:AY T t=some ⟨.sl el,b1,n1,z1⟩)(H:AY T el=some ⟨kt,b2,sz,z2⟩)(C:jS e' x=some (.h s l.length))(v:(jS e' z).bind uK=some (k2,j))(D:(jS e' u).bind uK=some (k3,p))(I:need (0<=j/\j<=p/\p<=(l.length:Int)) A=some q)
  (kk:A=some q->(0<=j.toNat/\j.toNat<=p.toNat/\p.toNat<=l.length)->G (.mk P T hT n c B0 N X Q) K' m' ((d,.h ⟨(s.sub sz 0).a,p.toNat⟩ ((l.take j.toNat).drop 0).length)::e') L' cf2):G (.mk P T hT n c B0 N X Q) K m e L cf:=by
 have k:o.op=.slice t x none (some z) (some u):=dL Prod.fst F;have hb:=(mZ I).1;have r:0<=j.toNat/\j.toNat<=p.toNat/\p.toNat<=l.length:=aa
 have Z:=wV (l:=l) (a:=0) (b:=j.toNat) aa aa;refine pu W (dL Prod.snd F) (λB a w h hS=>⟨AC.v ⟨(s.sub sz 0).a,p.toNat⟩ ((l.take j.toNat).drop 0).length,by simp[gT,gV,cA],λ_ a f=>?_⟩) (kk (mZ I).2 r);obtain⟨V,U,h2⟩:=hb;have S:p<=(s.c:Int):=aa
 have R:0<=p:=aa
 have M:max j 0=j:=aa
 have J:max p 0=p:=aa
 rw[Z];have g:s.a.map (λx=>x.add 0)=s.a:=by simp[Addr.add]
 by_cases Y:p=0
 .subst Y;simp[execOp,k,Instr.sliceAt,Instr.slice,run_underlying (JA E hT),Instr.sliceBounds,f.eval (hdB h C),f.eval (AW h v),f.eval (AW h D),Instr.sliceBound,asIntOf,hT.size _ _ H,V,U,S,R,M,J,AC.sub,g]
 .simp[execOp,k,Instr.sliceAt,Instr.slice,run_underlying (JA E hT),Instr.sliceBounds,f.eval (hdB h C),f.eval (AW h v),f.eval (AW h D),Instr.sliceBound,asIntOf,hT.size _ _ H,V,U,S,R,M,J,AC.sub,g]
end
end
section
variable {P:Program} {T:TT} {hT:I3 P T} {n:Nat} {c:Ctx} {B0:Bl} {N:Act->World->Prop} {X:Nat->Act->World->Prop} {Q:Act->World->Prop} {K K':a8} {m m':Nat} {e e':SE} {L L' Lv:an} {cf cf' cf1 cf2:wJ} {o:Oper} {d:Nat}
theorem bJT{O:Type}[aN O]{B:Bl}{w:World}{R:bn}{j a b sz:Nat}{s s':AC}{l l':List O}(hn:aN.n O=sz)(k:L[j]?=some (ow s l))(x:a<=b/\b<=l.length)(v:(l.take b).drop a=l')(i:∀w F,aN.own w [s.v l.length] l F->∃g,aN.own w [s'.v l'.length] l' g/\∀b o,g b o->F b o)(p:nZ c w B L):nZ c w B (L.set j (ow s' l')):=by
 obtain⟨⟨R,s1,u⟩,s0⟩:=p;refine⟨⟨R,?_,λz f=>?_⟩,s0⟩
 .rw[MR];refine s1.aHK j (by rw[D0,k];rfl) λF q=>?_;obtain⟨g,t,r⟩:=i w F q;exact⟨g,F0,fN.refl _ _,λ_ _ h=>h.elim,t,λb o h=>.inl (r b o h)⟩
 .obtain f|f:=nM f
  .grind
  .subst f;trivial
theorem bC0{O:Type}[aN O]{s:AC}{l l':List O}{sz a b:Nat}(hn:aN.n O=sz)(g:a<=b/\b<=l.length)(i:(l.take b).drop a=l'):∀w F,aN.own w [s.v l.length] l F->∃f,aN.own w [(s.sub sz a).v l'.length] l' f/\∀b o,f b o->F b o:=by intro w F h;obtain⟨f,k,j⟩:=a6L hn h g.1 g.2;grind[QN]
theorem bC1{O:Type}[aN O]{s:AC}{l l':List O}{sz b p:Nat}(hn:aN.n O=sz)(i:0<=b/\b<=p/\p<=l.length)(k:(l.take b).drop 0=l'):∀w F,aN.own w [s.v l.length] l F->∃f,aN.own w [AC.v ⟨(s.sub sz 0).a,p⟩ l'.length] l' f/\∀b o,f b o->F b o:=by
 intro w F h;obtain⟨f,r,q⟩:=bBQ hn h i.1 i.2.1 i.2.2;have j:s.a.map (λx=>x.add 0)=s.a:=by simp[Addr.add]
 have g:=wV (l:=l) (a:=0) (b:=b) aa aa;rw[k] at g r;refine⟨f,?_,q⟩;simp_all[bG0,AC.sub]
theorem poR{Z:Act->World->Prop}{O:Type}[aN O](j a b:Nat){sz:Nat}{s:AC}{l l':List O}(hn:aN.n O=sz)(i:L[j]?=some (ow s l))(h:a<=b/\b<=l.length)(g:(l.take b).drop a=l')
  (kk:∀f w,rU n c B0 m e (L.set j (ow (s.sub sz a) l')) f w->Z f w):∀f w,rU n c B0 m e L f w->Z f w:=by intro f w ⟨B,hm,p,k⟩;exact kk f w ⟨B,hm,p,bJT (R:=[]) hn i h g (bC0 hn h g) k⟩
theorem pmR{Z:Act->World->Prop}{O:Type}[aN O](j b p:Nat){sz:Nat}{s:AC}{l l':List O}(hn:aN.n O=sz)(g:L[j]?=some (ow s l))(h:0<=b/\b<=p/\p<=l.length)(f:(l.take b).drop 0=l')
  (kk:∀a w,rU n c B0 m e (L.set j (ow ⟨(s.sub sz 0).a,p⟩ l')) a w->Z a w):∀a w,rU n c B0 m e L a w->Z a w:=by intro a w ⟨B,hm,k,i⟩;exact kk a w ⟨B,hm,k,bJT (R:=[]) hn g ⟨aa,aa⟩ f (bC1 hn h f) i⟩
theorem aXY{O:Type}{l xs:List O}{k a n:Nat}(h:k<=n/\n<=l.length)(b:a<=l.length):k<=n/\n<=(dM l a xs).length:=⟨h.1,by grind[gG]⟩
theorem aPH{O:Type}{l xs:List O}{k a:Nat}(h:k<=a)(b:a<=l.length):((dM l a xs).take k).drop 0=(l.take k).drop 0:=by grind[dM]
def AC.bHO(s:AC)(n a p:Nat):AC:=⟨if p=a then s.a else s.a.map (·.add (a*n)),p-a⟩
section
variable {x y z:Operand} {t el sz:Nat} {zv:Value} {k1 k2:IntKind} {i j:Int} {O β:Type} [aN O] {A:Option β} {q:β} {s:AC} {l:List O} {b1 b2:Bool} {n1:Nat} {z1 z2:aq} {kt:TK}
theorem ap2[Flat O](p a b:Nat)(r:a<=b/\b<=l.length)(Y:j7 T n K cf m e L=.op o Lv cf1 cf2 K' m' e' L')(I:(o.op,o.dst)=(.call {callee:=.builtin .append,args:=#[x,y],argTypes:=#[t,t]},some d))(W:AY T t=some ⟨.sl el,b1,n1,z1⟩)(he:AY T el=some ⟨kt,b2,sz,z2⟩)(hn:aN.n O=sz)(Z:L'[p]?=some (ow s l))(h:gO p cf1.AV=true)(U:jS e' x=some (.h (s.sub sz 0) ((l.take a).drop 0).length))(S:jS e' y=some (.h (s.sub sz b) ((l.take l.length).drop b).length))
  (k:(0<=a+(l.length-b)/\a+(l.length-b)<=(dM l a (l.drop b)).length)->G (.mk P T hT n c B0 N X Q) K' m' ((d,.h (s.sub sz 0) (((dM l a (l.drop b)).take (a+(l.length-b))).drop 0).length)::e') (L'.set p (ow s (dM l a (l.drop b)))) cf2):G (.mk P T hT n c B0 N X Q) K m e L cf:=by
 have H:(dM l a (l.drop b)).length=l.length:=gG aa;have hk:0<=a+(l.length-b)/\a+(l.length-b)<=(dM l a (l.drop b)).length:=aa
 refine iV (g:=.mk P T hT n c B0 N X Q) ?_;rw[Y];intro J _ hE;refine hE Unit (λ_=>m') (λ_=>(d,.h (s.sub sz 0) (((dM l a (l.drop b)).take (a+(l.length-b))).drop 0).length)::e') (λ_=>L'.set p (ow s (dM l a (l.drop b)))) (λ_=>EW h) (λB F w next Q' hm u hS f=>?_) (λ_=>k hk);obtain⟨⟨R,M,s2⟩,s0⟩:=hS;have D:ev (vE (B0S (.mk P T hT n c B0 N X Q) cf1++B) e') x=some (jT sz 0 a (s.v l.length)):=by rw[hdB u U,QN (lR a) (wI r.1 r.2)]
 have C:ev (vE (B0S (.mk P T hT n c B0 N X Q) cf1++B) e') y=some (jT sz b l.length (s.v l.length)):=by rw[hdB u S,QN r.2 (jR _)]
 have E:o.op=.call {callee:=.builtin .append,args:=#[x,y],argTypes:=#[t,t]}:=dL Prod.fst I;have hd:o.dst=some d:=dL Prod.snd I;obtain⟨v,w',k1,rfl,k2⟩:=a3Z p M (by rw[D0,Z];rfl) hn r.1 r.2 (JA W hT) (hT.size _ _ he) E D C;unfold Oper.wp;rw[k1 _ F u.env,Oper.upon_value,hd];have V:gT (B0S (.mk P T hT n c B0 N X Q) cf1++B) (.h (s.sub sz 0) (((dM l a (l.drop b)).take (a+(l.length-b))).drop 0).length)=some (jT sz 0 (a+(l.length-b)) (s.v l.length)):=by grind[QN,gT,gV,cA]
 refine f () _ _ ⟨[],aj,by simpa using u.of V (u.env.put (by grind[tR,AA]) _),?_⟩;rw[ML];refine⟨⟨R,?_,λz h=>?_⟩,s0⟩
 .rw[MR];show St c w' ((L'.map _).set p (dF [s.v (dM l a (l.drop b)).length] _)) R;grind
 .obtain h|h:=nM h
  .grind
  .subst h;trivial
theorem a7C(p h:Nat)(Y:h<=l.length){r:List O}(V:r.length=h)(I:opS (j7 T n K cf m e L)=some (o,Lv,cf1,cf2,K',m',e',L'))(u:(o.op,o.dst)=(.slice t x (some y) (some z) none,some d))(H:AY T t=some ⟨.sl el,b1,n1,z1⟩)(M:AY T el=some ⟨kt,b2,sz,z2⟩)(hn:aN.n O=sz)(J:Lv[p]?=some (ow s l))(F:jS e' x=some (.h (s.sub sz 0) r.length))(E:(jS e' y).bind uK=some (k1,i))(D:(jS e' z).bind uK=some (k2,j))(v:need (0<=i/\i<=j/\j<=(l.length:Int)) A=some q)
  (kk:A=some q->(i.toNat<=j.toNat/\j.toNat<=l.length)->G (.mk P T hT n c B0 N X Q) K' m' ((d,.h (s.sub sz i.toNat) ((l.take j.toNat).drop i.toNat).length)::e') L' cf2):G (.mk P T hT n c B0 N X Q) K m e L cf:=by
 have f:o.op=.slice t x (some y) (some z) none:=dL Prod.fst u;have S:=(mZ v).1;have g:i.toNat<=j.toNat/\j.toNat<=l.length:=aa
 refine pu I (dL Prod.snd u) (λB a w k U=>⟨jT sz i.toNat j.toNat (s.v l.length),by grind[QN,gT,gV,cA],?_⟩) (kk (mZ v).2 g);obtain⟨⟨R,C,W⟩,s0⟩:=U;have b:ev (vE B e') x=some (jT sz 0 h (s.v l.length)):=by rw[hdB k F,V];rfl
 exact a30 p C (by rw[D0,J];rfl) hn (JA H hT) (hT.size _ _ M) S f b (AW k E) (AW k D)
theorem clr[Flat O](p a b:Nat)(h:O)(S:a<=b/\b<=l.length)(C:XE P el sz zv)(D:zv.cells.size=sz)(E:∀w,aN.rd F0 w zv.cells.toList h)(u:(zv.cells.toList.all λv=>v.oneCell')=true)(Z:j7 T n K cf m e L=.op o Lv cf1 cf2 K' m' e' L')(M:(o.op,o.dst)=(.call {callee:=.builtin .clear,args:=#[x],argTypes:=#[t]},none))(Y:AY T t=some ⟨.sl el,b1,n1,z1⟩)(hn:aN.n O=sz)(hp:L'[p]?=some (ow s l))(r:gO p cf1.AV=true)(hx:jS e' x=some (.h (s.sub sz a) ((l.take b).drop a).length))
  (k:G (.mk P T hT n c B0 N X Q) K' m' e' (L'.set p (ow s (dM l a (List.replicate (b-a) h)))) cf2):G (.mk P T hT n c B0 N X Q) K m e L cf:=by
 have J:(dM l a (List.replicate (b-a) h)).length=l.length:=gG aa;refine iV (g:=.mk P T hT n c B0 N X Q) ?_;rw[Z];intro U _ hE;refine hE Unit (λ_=>m') (λ_=>e') (λ_=>L'.set p (ow s (dM l a (List.replicate (b-a) h)))) (λ_=>EW r) (λB I w next Q' hm hA hS f=>?_) (λ_=>k);obtain⟨⟨R,V,s2⟩,s0⟩:=hS;have F:ev (vE (B0S (.mk P T hT n c B0 N X Q) cf1++B) e') x=some (jT sz a b (s.v l.length)):=by grind[hdB,QN]
 have H:o.op=.call {callee:=.builtin .clear,args:=#[x],argTypes:=#[t]}:=dL Prod.fst M;have hd:o.dst=none:=dL Prod.snd M;obtain⟨v,w',k1,rfl,k2⟩:=bBV h p V (by rw[D0,hp];rfl) hn S.1 S.2 (JA Y hT) C D E (λv W=>aT4.1 u v W) H F;unfold Oper.wp;rw[k1 _ I hA.env,Oper.upon_value,hd];refine f () _ _ ⟨[],aj,by grind[Act.put],?_⟩;rw[ML];refine⟨⟨R,?_,λz r=>?_⟩,s0⟩
 .rw[MR];show St c w' ((L'.map _).set p (dF [s.v (dM l a (List.replicate (b-a) h)).length] _)) R;grind
 .obtain r|r:=nM r
  .grind
  .subst r;trivial
theorem aXZ{u:Operand}{k3:IntKind}{pz:Int}(hc:l.length<=s.c)(hs:opS (j7 T n K cf m e L)=some (o,Lv,cf1,cf2,K',m',e',L'))(J:(o.op,o.dst)=(.slice t x (some y) (some z) (some u),some d))(H:AY T t=some ⟨.sl el,b1,n1,z1⟩)(M:AY T el=some ⟨kt,b2,sz,z2⟩)(E:jS e' x=some (.h s l.length))(D:(jS e' y).bind uK=some (k1,i))(C:(jS e' z).bind uK=some (k2,j))(F:(jS e' u).bind uK=some (k3,pz))(R:need (0<=i/\i<=j/\j<=pz/\pz<=(l.length:Int)) A=some q)
  (kk:A=some q->(i.toNat<=j.toNat/\j.toNat<=pz.toNat/\pz.toNat<=l.length)->G (.mk P T hT n c B0 N X Q) K' m' ((d,.h (s.bHO sz i.toNat pz.toNat) ((l.take j.toNat).drop i.toNat).length)::e') L' cf2):G (.mk P T hT n c B0 N X Q) K m e L cf:=by
 have k:o.op=.slice t x (some y) (some z) (some u):=dL Prod.fst J;have hb:=(mZ R).1;have v:i.toNat<=j.toNat/\j.toNat<=pz.toNat/\pz.toNat<=l.length:=aa
 have hl:=wV (l:=l) (a:=i.toNat) (b:=j.toNat) aa aa;refine pu hs (dL Prod.snd J) (λB a w g hS=>⟨AC.v (s.bHO sz i.toNat pz.toNat) ((l.take j.toNat).drop i.toNat).length,by simp[gT,gV,cA],λ_ a f=>?_⟩) (kk (mZ R).2 v);obtain⟨h0,h1,Z,h2'⟩:=hb;have Y:pz<=(s.c:Int):=aa
 have W:0<=pz:=aa
 have p:0<=j:=aa
 have V:max j 0=j:=aa
 have U:max pz 0=pz:=aa
 have S:max i 0=i:=aa
 rw[hl];by_cases I:pz.toNat=i.toNat
 .have:pz=i:=aa
  subst this;simp[execOp,k,Instr.sliceAt,Instr.slice,run_underlying (JA H hT),Instr.sliceBounds,f.eval (hdB g E),f.eval (AW g D),f.eval (AW g C),f.eval (AW g F),Instr.sliceBound,asIntOf,hT.size _ _ M,h0,h1,Z,Y,W,p,V,U,S,AC.bHO]
 .have r:¬pz=i:=λh=>I (by rw[h]);simp[execOp,k,Instr.sliceAt,Instr.slice,run_underlying (JA H hT),Instr.sliceBounds,f.eval (hdB g E),f.eval (AW g D),f.eval (AW g C),f.eval (AW g F),Instr.sliceBound,asIntOf,hT.size _ _ M,h0,h1,Z,Y,W,p,V,U,S,I,r,AC.bHO]
theorem bPJ{g:Nat}(p:opS (j7 T n K cf m e L)=some (o,Lv,cf1,cf2,K',m',e',L'))(b:(o.op,o.dst)=(.binOp .shl t x y g,some d))(k:(jS e' x).bind uK=some (k1,i))(h:(jS e' y).bind uK=some (k2,j))(r:need (0<=j) A=some q)
  (kk:A=some q->G (.mk P T hT n c B0 N X Q) K' m' ((d,.i k1 (aP0 k1 i j))::e') L' cf2):G (.mk P T hT n c B0 N X Q) K m e L cf:=pu p (dL Prod.snd b) (λB a w f _=>⟨_,rfl,bAZ (dL Prod.fst b) (AW f k) (AW f h) (by grind[mZ])⟩) (kk (mZ r).2)
theorem eqn{u:Nat}{g:Nat}(r:opS (j7 T n K cf m e L)=some (o,Lv,cf1,cf2,K',m',e',L'))(b:(o.op,o.dst)=(.binOp .eql t x (.const (.slice none 0 0)) u,some d))(p:AY T t=some ⟨.sl el,b1,n1,z1⟩)(k:jS e' x=some (.h s g))
  (kt:s.a=none->G (.mk P T hT n c B0 N X Q) K' m' ((d,.l true)::e') L' cf2) (kf:G (.mk P T hT n c B0 N X Q) K' m' ((d,.l false)::e') L' cf2):G (.mk P T hT n c B0 N X Q) K m e L cf:=by
 cases f:s.a with
 |none=>exact pu r (dL Prod.snd b) (λB a w h _=>⟨_,rfl,a3X (JA p hT) ⟨g,s.c,aj⟩ (dL Prod.fst b) (hdB h k) rfl⟩) (kt f)
 |some v=>exact pu r (dL Prod.snd b) (λB a w h _=>⟨_,rfl,a3Y (JA p hT) ⟨v,g,s.c,aj⟩ (dL Prod.fst b) (hdB h k) rfl⟩) kf
theorem cln{w:Ctx}{r:List O}(h:bJ w s l)(hn:s.a=none)(a:need (([]:List O).length+l.length<=1073741824) (some (([]:List O)++l))=some r):some ([]:List O)=some r:=by obtain⟨u,p,k,g,f,b⟩:=(show AB w.S0 w.w0 [s.v l.length] l from h);grind[need]
end
section
variable {x y:Operand} {t el sz:Nat} {zv:Value} {b1:Bool} {n1:Nat} {z1:aq}
theorem HN{O:Type}[aN O](E:CO O)(is:ar)(q:O)(C:E.ex)(r:XE P el sz zv)(D:j7 T n K cf m e L=.op o Lv cf1 cf2 K' m' e' L'/\(o.op,o.dst)=(.buildSlice t 1 #[(0,x)],some d)/\AY T t=some ⟨.sl el,b1,n1,z1⟩/\aN.n O=sz/\Nat.ble 1 sz=true/\Nat.ble sz 16777216=true/\(jS e' x).map (λv=>nbL (qP v))=some (E.cs q C)/\(jS e' x).map isCells=some true/\(E.cs q C).length=sz/\(bE (cA []) (E.cs q C)).isSome=true/\bE (λi=>L'[i]?) is=some (E.Lx q C)/\eA is=true/\(is.all λj=>gO j cf1.AV)=true)
  (k:∀s':AC,G (.mk P T hT n c B0 N X Q) K' m' ((d,.h s' [q].length)::e') (PN L' is++[ow s' [q]]) cf2):G (.mk P T hT n c B0 N X Q) K m e L cf:=by
 obtain⟨hs,V,ht,hn,hm,Y,S,u,Z,f,hi,ha,b⟩:=D;obtain⟨ec,f⟩:=aPZ.1 f;refine aXV (l:=[q]) (λs'=>PN L' is++[ow s' [q]]) hs (dL Prod.snd V) (λ_=>ZB _ b) (λB a w hA hS=>?_) k;obtain⟨⟨R,s1,s2⟩,s0⟩:=hS;have U:ec.length=sz:=by grind[m0]
 cases s:jS e' x with
 |none=>grind
 |some xv=>
  rw[s] at S u;simp at S u;obtain⟨v,v1,v2⟩:=fL hA s;have p:bE (cA B) (qP xv)=some ec:=by rw[<-QZ,S];exact gH (λx v h=>by simpa using iI (B:=[]) B h) f
  have H:v.cells.toList=ec:=XN v1 p;have p1:=s1.shift is ha (A':=[dF ec q]) λF W=>by rw[UU hi,E.nb] at W;exact Sep.one.2 ((E.pk f w F).2 W)
  have g:(blank (L'.map (lS B)) is).length=L'.length:=by rw[<-NO];simp[aPG]
  obtain⟨v',w',k1,J⟩:=bGR (e:=vE B e') (o:=o) (ps:=[(0,x)]) (vs:=[v]) (cells:=ec) [q] p1 [L'.length] rfl ⟨[],by
    simp only[pick,aV4 (QM g),g,Nat.sub_self];grind,aj,⟨aj,rfl⟩⟩ hn (JA ht hT) r rfl hm aj (dL Prod.fst V) (by simp[evs,v2]) (aP6 (vs:=[v]) (ps:=[(0,x)]) rfl rfl aj (by simp[H]))
  have I:blank (blank (L'.map (lS B)) is++[dF ec q]) [L'.length]=blank (L'.map (lS B)) is++[QY]:=by simp_all[blank]
  rw[I] at J;obtain⟨s',rfl⟩:=aKC (v:=v') (l:=[q]) J (L'.length+1) aj;refine⟨s',w',k1,⟨⟨R,?_,λz b=>?_⟩,s0⟩⟩
  .have k3:=J.sel ((List.range L'.length)++[L'.length+1]) ?_
   .refine k3.imp ?_;rw[D1,NO,aHX];refine kW.append ?_ ?_
    .have:pick (blank (L'.map (lS B)) is++[QY]++[dF [s'.v [q].length] [q]]) (List.range L'.length)=blank (L'.map (lS B)) is:=by
      have gen:∀(M A:bc) (j:Nat),pick (M++A) ((List.range j))=(M++A).take j\/¬j<=(M++A).length:=by
       intro M A j;by_cases hj:j<=(M++A).length
       .left;induction j with
        |zero=>rfl
        |succ j ih=>
         grind[List.range_succ,aHX,pick,List.take_add_one]
       omega
      grind
     grind[kW.refl]
    simp_all[pick,lS,kW.refl]
   .have gen:∀(j:Nat),eA (List.range' j (L'.length-j)++[L'.length+1])=true:=by
     intro j;generalize hk:L'.length-j=k;induction k generalizing j with
     |zero=>rfl
     |succ k ih=>
      rw[List.range'_succ,aCN];simp only[eA,ET,aT4,Bool.not_eq_true'];grind[rR]
    have:=gen 0;simp_all[List.range_eq_range']
  .obtain b|b:=j4.1 b
   .obtain b|b:=UT _ _ b
    .grind
    .subst b;trivial
   .simp at b;subst b;trivial
theorem apN{O β:Type}[aN O]{A:Option β}{q:β}{s r:AC}{l xs:List O}(i j:Nat)(g:XE P el sz zv)(U:j7 T n K cf m e L=.op o Lv cf1 cf2 K' m' e' L')(C:(o.op,o.dst)=(.call {callee:=.builtin .append,args:=#[x,y],argTypes:=#[t,t]},some d))(h:AY T t=some ⟨.sl el,b1,n1,z1⟩/\aN.n O=sz/\zv.cells.size=sz/\L'[i]?=some (ow s l)/\L'[j]?=some (ow r xs)/\eA [i,j]=true/\([i,j].all λj=>gO j cf1.AV)=true/\jS e' x=some (.h s l.length)/\jS e' y=some (.h r xs.length))(D:need (l.length+xs.length<=1073741824) A=some q)
  (k:A=some q->∀s':AC,G (.mk P T hT n c B0 N X Q) K' m' ((d,.h s' (l++xs).length)::e') (PN L' [i,j]++[ow s' (l++xs)]) cf2):G (.mk P T hT n c B0 N X Q) K m e L cf:=by
 obtain⟨S,W,p,hi,hj,Y,b,M,J⟩:=h;refine aXV (l:=l++xs) (λs'=>PN L' [i,j]++[ow s' (l++xs)]) U (dL Prod.snd C) (λ_=>ZB _ b) (λB a w E Z=>?_) (k (mZ D).2);obtain⟨⟨R,H,F⟩,s0⟩:=Z;have V:pick (L'.map (lS B)) [i,j]=[dF [s.v l.length] l,dF [r.v xs.length] xs]:=by grind[pick,lS]
 obtain⟨v,w',I,u⟩:=bGS [i,j] H Y V W (JA S hT) g p (mZ D).1 (dL Prod.fst C) (hdB E M) (hdB E J);have f:(blank (L'.map (lS B)) [i,j]).length=L'.length:=by rw[<-NO];simp[aPG]
 obtain⟨s',rfl⟩:=aKC u L'.length (by rw[aV4 (QM f),f,Nat.sub_self];rfl);refine⟨s',w',I,⟨⟨R,?_,λz b=>?_⟩,s0⟩⟩
 .rw[D1,NO];exact u
 .obtain b|b:=j4.1 b
  .obtain b|b:=UT _ _ b
   .grind
   .subst b;trivial
  .simp at b;subst b;trivial
end
theorem kb{b cb:Bool}(f:ar)(i:b=cb)(g:V6 (j7 T n K cf m e L)=some (K',cf',m',e',L'))(h:bE (HL e') f=some (f.map λ_=>SV.b b))(k:G (.mk P T hT n c B0 N X Q) K' m' (ovr cb e' f) L' cf'):G (.mk P T hT n c B0 N X Q) K m e L cf:=go g (aQH (λa B j=>aEK i f h j) k)
def rhE(v:SV)(e:SE):b5->SE
 |[]=>e
 |(k,j)::r=>match HL e k with
  |some (.g cs)=>(k,.g (ovw cs j [v]))::rhE v e r
  |some (.t cs)=>(k,.t (ovw cs j [v]))::rhE v e r
  |_=>rhE v e r
def rhL(v:SV)(L:an):b5->an
 |[]=>L
 |(k,j)::r=>match L[k]? with
  |some (.box n cs)=>rhL v (L.set k (.box n (ovw cs j [v]))) r
  |_=>rhL v L r
theorem aPI{B:Bl}{f:Bl->SV->Option Value}{u v:SV}(a:∀B,f B u=f B v):∀{cs:aq} {j:Nat},cs[j]?=some u->bE (f B) (ovw cs j [v])=bE (f B) cs
 |[],j,h=>by simp at h
 |x::cs,0,h=>by grind[bE,ovw,aXL]
 |x::cs,j + 1,h=>by show bE (f B) (x::ovw cs j [v])=_;simp only[bE,aPI (B:=B) a (show cs[j]?=some u by grind)]
theorem bC2{s:AC}{g b:Nat}(hn:g=b){B:Bl}:∀{ps:b5} {k:Nat} {x:SV},(∀p∈ps,∃cs,(HL e p.1=some (.g cs)\/HL e p.1=some (.t cs))/\cs[p.2]?=some (.h s g))->HL (rhE (.h s b) e ps) k=some x->∃y,HL e k=some y/\gT B x=gT B y
 |[],k,x,_,h=>⟨x,h,rfl⟩
 |(u,j)::r,k,x,q,h=>by
  have z:=λh=>bC2 hn (B:=B) (ps:=r) (k:=k) (x:=x) (λp i=>q p (uI _ i)) h;obtain⟨cs,a,t⟩:=q (u,j) ae;have w:∀B,cA B (.h s g)=cA B (.h s b):=λB=>by rw[hn]
  have v:∀B,gV B (.h s g)=gV B (.h s b):=λB=>by rw[hn]
  obtain a|a:=a
  .simp only[rhE,a,HL] at h;split at h
   .rename_i l;cases h;have:=rR l;subst this;exact⟨_,a,by simp only[gT,gV,aPI (f:=cA) w t]⟩
   grind
  .simp only[rhE,a,HL] at h;split at h
   .rename_i l;cases h;have:=rR l;subst this;exact⟨_,a,by simp only[gT,aPI (f:=gV) v t]⟩
   grind
theorem a7E{s:AC}{y g:Nat}(hn:y=g){B:Bl}{w:World}{R:bn}:∀{ps:b5} {L:an},(∀p∈ps,∃k cs,L[p.1]?=some (.box k cs)/\cs[p.2]?=some (.h s y))->eA (ps.map (·.1))=true->kW w (L.map (lS B)) ((rhL (.h s g) L ps).map (lS B))/\((∀x∈L,roF B R x)->∀x∈rhL (.h s g) L ps,roF B R x)
 |[],L,_,_=>⟨kW.refl _,λh=>h⟩
 |(i,j)::r,L,H,E=>by
  obtain⟨k,cs,u,G⟩:=H (i,j) ae;have V:∀B,cA B (.h s y)=cA B (.h s g):=λB=>by rw[hn]
  simp only[aFG,eA,ET] at E;have D:=a7E hn (B:=B) (w:=w) (R:=R) (ps:=r) (L:=L.set i (.box k (ovw cs j [.h s g]))) (λp l=>by
   obtain⟨U,v,h3,Y⟩:=H p (uI _ l);have I:i≠p.1:=λhe=>by have:=aT4.1 E.1 p.1 (List.mem_map_of_mem l);simp_all
   exact⟨U,v,aj,Y⟩) E.2
  simp only[rhL,u];refine⟨?_,λh=>D.2 λx q=>?_⟩
  .have h5:kW w (L.map (lS B)) ((L.set i (.box k (ovw cs j [.h s g]))).map (lS B)):=by rw[MR];exact kW.put (a:=XM B k cs) (b:=XM B k (ovw cs j [.h s g])) i (by rw[D0,u];rfl) λF ⟨b,z,vs,S,O,M⟩=>⟨b,z,vs,S,by rw[aPI (f:=cA) V G];exact O,M⟩
   have tr:∀{A B C:bc},kW w A B->kW w B C->kW w A C:=by
    intro A B C u;induction u generalizing C with
    |nil=>simp
    |cons h t D=>intro G;cases G with|cons Z J=>exact .cons (λF W=>Z F (h F W)) (D J)
   grind
  .obtain q|q:=nM q
   .exact h x q
   .subst q;trivial
def atE(e:SE)(p:Nat×Nat):bz:=match HL e p.1 with
 |some (.g cs)=>cs[p.2]?
 |some (.t cs)=>cs[p.2]?
 |_=>none
def atL(L:an)(p:Nat×Nat):bz:=match L[p.1]? with
 |some (.box _ cs)=>cs[p.2]?
 |_=>none
theorem a7F{B:Bl}{a:Act}{w:World}(s:AC){h i:Nat}(hn:h=i){ps qs:b5}(z:bE (atE e) ps=some (ps.map λ_=>.h s h))(u:bE (atL L) qs=some (qs.map λ_=>.h s h))(D:eA (qs.map (·.1))=true)(j:iW n B e a)(E:nZ c w B L):iW n B (rhE (.h s i) e ps) a/\nZ c w B (rhL (.h s i) L qs):=by
 have g:∀{γ:Type} {f:γ->bz} {ps:List γ},bE f ps=some (ps.map λ_=>.h s h)->∀p∈ps,f p=some (.h s h):=by
  intro γ f ps;induction ps with
  |nil=>simp
  |cons q ps F=>
   grind[bE]
 refine⟨⟨j.d,j.size,λk x A=>?_⟩,?_⟩
 .obtain⟨y,l,r⟩:=bC2 hn (B:=B) (λp b=>by
   have:=g z p b;unfold atE at this;grind) A
  obtain⟨v,H,G⟩:=j.get k y l;grind
 .obtain⟨⟨R,s1,t⟩,s0⟩:=E;obtain⟨l,r⟩:=a7E hn (B:=B) (w:=w) (R:=R) (L:=L) (λp b=>by
   have:=g u p b;unfold atL at this;split at this
   .rename_i k cs C;exact⟨k,cs,C,this⟩
   grind) D
  exact⟨⟨R,s1.imp l,r t⟩,s0⟩
theorem aHY{g:Gx}{cf:wJ}{v:SV}:∀{qs:b5} {L M:an},Frz g cf L M->((qs.map (·.1)).all λj=>gO j cf.AV)=true->Frz g cf L (rhL v M qs)
 |[],L,M,h,_=>h
 |(i,j)::r,L,M,h,a=>by
  simp only[aFG,aT3,ET] at a;simp only[rhL];split
  .exact aHY (qs:=r) (a05 h a.1) a.2
  .exact aHY (qs:=r) h a.2
theorem rh(s:AC){f b:Nat}(hn:f=b)(ps qs:b5)(i:bE (atE e) ps=some (ps.map λ_=>.h s f))(h:bE (atL L) qs=some (qs.map λ_=>.h s f))(g:(eA (qs.map (·.1)) && (qs.map (·.1)).all λj=>gO j cf.AV)=true)
  (k:G (.mk P T hT n c B0 N X Q) K m (rhE (.h s b) e ps) (rhL (.h s b) L qs) cf):G (.mk P T hT n c B0 N X Q) K m e L cf:=by rw[ET] at g;refine chg (λ_:Unit=>m) (λ_=>rhE (.h s b) e ps) (λ_=>rhL (.h s b) L qs) (λB a w q p l=>?_) (λ_=>aHY (by simpa using tV (L:=L) []) g.2) (λ_=>k);obtain⟨t,r⟩:=a7F s hn i h g.1 p l;simp_all
theorem iS{Z:Act->World->Prop}(s:AC){g f:Nat}(hn:g=f)(ps qs:b5)(b:bE (atE e) ps=some (ps.map λ_=>.h s g)/\bE (atL L) qs=some (qs.map λ_=>.h s g)/\eA (qs.map (·.1))=true)
  (kk:∀a w,rU n c B0 m (rhE (.h s f) e ps) (rhL (.h s f) L qs) a w->Z a w):∀a w,rU n c B0 m e L a w->Z a w:=by obtain⟨i,h,j⟩:=b;intro a w ⟨B,hm,l,k⟩;obtain⟨q,p⟩:=a7F s hn i h j l k;exact kk a w ⟨B,hm,q,p⟩
end
section
variable {P:Program} {T:TT} {hT:I3 P T} {n:Nat} {c:Ctx} {B0:Bl} {N:Act->World->Prop} {X:Nat->Act->World->Prop} {Q:Act->World->Prop} {K K':a8} {m m':Nat} {e e':SE} {L L' Lv:an} {cf cf' cf1 cf2:wJ} {o:Oper} {d:Nat}
section
variable {x:Operand} {t t2 el sz:Nat} {b1 b2 b3:Bool} {n1 n2 n3:Nat} {z1 z2 z3:aq}
theorem qbo(p:Nat){s:AC}{l:aF}(h:opS (j7 T n K cf m e L)=some (o,Lv,cf1,cf2,K',m',e',L'))(b:(o.op,o.dst)=(.convert t t2 x,some d))(g:AY T t=some ⟨.sl el,b1,n1,z1⟩)(k:AY T el=some ⟨.i .u8,b2,n2,z2⟩)(u:AY T t2=some ⟨.s,b3,n3,z3⟩)(j:Lv[p]?=some (ow s l))(f:jS e' x=some (.h s l.length))
  (kk:G (.mk P T hT n c B0 N X Q) K' m' ((d,.s l)::e') L' cf2):G (.mk P T hT n c B0 N X Q) K m e L cf:=by refine pu h (dL Prod.snd b) (λB a w r q=>⟨_,rfl,?_⟩) kk;obtain⟨⟨R,s1,v⟩,s0⟩:=q;have i:=s1.a6E (cs:=[s.v l.length]) (d:=l) p (by simp[j,lS]);obtain⟨A,z,y⟩:=hT.und _ _ k;exact bKS i (JA g hT) aj (bNN u hT) (dL Prod.fst b) (hdB r f)
theorem bHR{O:Type}[aN O](E:CO O){q:O}{y:E.ex}{ec:ao}(h:bE (cA []) (E.cs q y)=some ec)(a:E.Lx q y=[])(w:World):aN.rd F0 w ec q:=by have:=(E.pk h w F0).2 (by rw[a];exact λ_ _ h=>h);grind[aN.own_rd]
theorem lits{O:Type}[aN O](E:CO O)(y:E.ex){sz:Nat}{B:Bl}{a:Act}(u:iW n B e a)(s:∀q,E.Lx q y=[]):∀{ps:cr} {qs:List O},bE (λp=>(jS e p.2).map λv=>nbL (qP v)) ps=some (qs.map λq=>E.cs q y)->(qs.all λq=>Nat.beq (E.cs q y).length sz && (bE (cA []) (E.cs q y)).isSome)=true ->
  ∃vs cells,evs (vE B e) (ps.map (·.2))=some vs/\vs.length=ps.length/\(vs.all λv=>v.cells.size == sz)=true/\(vs.flatMap λv=>v.cells.toList)=cells/\aV6 sz cells qs
 |[],[],_,_=>⟨[],[],rfl,rfl,rfl,rfl,rfl⟩
 |[],q::qs,h,_=>by cases h
 |p::ps,[],h,_=>by grind[bE]
 |p::ps,q::qs,h,r=>by
  simp only[bE,aFG] at h;split at h
  .cases h
  .rename_i c0 l;split at h
   .cases h
   .rename_i cs D;simp only[Option.some.injEq,List.cons.injEq] at h;obtain⟨rfl,rfl⟩:=h;simp only[aT3,ET] at r;obtain⟨⟨C,f⟩,r⟩:=r;obtain⟨vs,cells,J,I,H,G,F⟩:=lits E y u s D (by simpa using r);obtain⟨ec,j⟩:=aPZ.1 f;cases i:jS e p.2 with
    |none=>rw[i] at l;cases l
    |some w=>
     rw[i] at l;simp at l;obtain⟨v,A,z⟩:=fL u i;have g:bE (cA B) (qP w)=some ec:=by rw[<-QZ,l];exact gH (λx v h=>by simpa using iI (B:=[]) B h) j
     have k:v.cells.toList=ec:=XN A g;have b:ec.length=sz:=by rw[m0 j];exact rR C
     refine⟨v::vs,ec++cells,by simp[evs,z,J],by simp[I],?_,by simp[k,G],?_,?_⟩
     .rw[aT3,H,<-Array.length_toList,k,b];simp
     .rw[List.take_append_of_le_length (QM b.symm),<-b,List.take_length];exact bHR E j (s q) _
     .rw[List.drop_append_of_le_length (QM b.symm),<-b,List.drop_length,aHI,b];exact F
theorem ltK{O:Type}[aN O][Flat O](E:CO O)(y:E.ex)(qs:List O){len:Nat}{ps:cr}{A:Value}(b:XE P el sz A)(h:j7 T n K cf m e L=.op o Lv cf1 cf2 K' m' e' L'/\(o.op,o.dst)=(.buildSlice t len ⟨ps⟩,some d)/\AY T t=some ⟨.sl el,b1,n1,z1⟩/\aN.n O=sz/\qs.length=len/\Nat.ble 1 sz=true/\Nat.ble (len*sz) 16777216=true/\ps.map (·.1)=List.range' 0 len/\bE (λp=>(jS e' p.2).map λv=>nbL (qP v)) ps=some (qs.map λq=>E.cs q y)/\(qs.all λq=>Nat.beq (E.cs q y).length sz && (bE (cA []) (E.cs q y)).isSome)=true)(V:∀q,E.Lx q y=[])
  (k:∀s':AC,G (.mk P T hT n c B0 N X Q) K' m' ((d,.h s' qs.length)::e') (L'++[ow s' qs]) cf2):G (.mk P T hT n c B0 N X Q) K m e L cf:=by
 obtain⟨I,u,H,J,S,M,i,f,r,s⟩:=h;refine aXV (l:=qs) (λs'=>L'++[ow s' qs]) I (dL Prod.snd u) (λ_=>tV _) (λB a w W U=>?_) k;obtain⟨⟨R,C,s2⟩,s0⟩:=U;obtain⟨vs,cells,g1,g2,g3,Z,Y⟩:=lits E y (sz:=sz) W V r s;have j:ps.length=len:=by have:=dL List.length f;grind
 obtain⟨v,w',F,D⟩:=bBB (e:=vE B e') (o:=o) (ps:=ps) (vs:=vs) (cells:=cells) qs C J (JA H hT) b S M i Y (dL Prod.fst u) g1 (aP6 f (by rw[g2,j]) g3 Z);obtain⟨s',rfl⟩:=aKC (v:=v) (l:=qs) D (L'.map (lS B)).length ae;refine⟨s',w',F,⟨⟨R,by grind[lS],λz g=>?_⟩,s0⟩⟩;obtain g|g:=j4.1 g
 .grind
 .simp at g;subst g;trivial
end
end
section
variable {P:Program} {T:TT} {hT:I3 P T} {n:Nat} {c:Ctx} {B0:Bl} {N:Act->World->Prop} {X:Nat->Act->World->Prop} {Q:Act->World->Prop} {K K':a8} {m m':Nat} {e e':SE} {L L' Lv:an} {cf cf' cf1 cf2:wJ} {o:Oper} {d:Nat}
theorem un{O:Type}[aN O](j:Nat)(b:ar)(ps qs:b5){s:AC}{n0:Nat}{l:List O}(f:L[j]?=some (.o (dF [s.v n0] l))/\gO j cf.AV=true/\bE (HL e) b=some (b.map λ_=>.h s n0)/\bE (atE (ovh (.h s l.length) e b)) ps=some (ps.map λ_=>.h s n0)/\bE (atL (L.set j (ow s l))) qs=some (qs.map λ_=>.h s n0)/\(eA (qs.map (·.1)) && (qs.map (·.1)).all λj=>gO j cf.AV)=true)
  (k:l.length=n0->G (.mk P T hT n c B0 N X Q) K m (rhE (.h s l.length) (ovh (.h s l.length) e b) ps) (rhL (.h s l.length) (L.set j (ow s l)) qs) cf):G (.mk P T hT n c B0 N X Q) K m e L cf:=by
 obtain⟨v,p,u,r,q,i⟩:=f;rw[ET] at i;refine chg (λ_:PLift (l.length=n0)=>m) (λ_=>rhE (.h s l.length) (ovh (.h s l.length) e b) ps) (λ_=>rhL (.h s l.length) (L.set j (ow s l)) qs) (λB a w E z x=>?_) (λ_=>aHY (EW p) i.2) (λh=>k h.down);have t:l.length=n0:=by obtain⟨⟨R,s1,D⟩,s0⟩:=x;obtain⟨F,y⟩:=s1.chunk (ch:=dF [s.v n0] l) j (by simp[v,lS]);obtain⟨I,H,C,A⟩:=SQ (show aN.own w [s.v n0] l F from y);grind
 subst t;have g:nZ c w B (L.set j (ow s l)):=by grind[aPY]
 obtain⟨C,A⟩:=a7F s rfl r q i.1 (aXU b u z) g;exact⟨⟨rfl⟩,[],aj,aj,aj⟩
theorem rr(s:AC){b g:Nat}(hn:b=g)(f:ar)(ps qs:b5)(p:bE (HL e) f=some (f.map λ_=>.h s b))(l:bE (atE (ovh (.h s g) e f)) ps=some (ps.map λ_=>.h s b))(i:bE (atL L) qs=some (qs.map λ_=>.h s b))(h:(eA (qs.map (·.1)) && (qs.map (·.1)).all λj=>gO j cf.AV)=true)
  (k:G (.mk P T hT n c B0 N X Q) K m (rhE (.h s g) (ovh (.h s g) e f) ps) (rhL (.h s g) L qs) cf):G (.mk P T hT n c B0 N X Q) K m e L cf:=by rw[ET] at h;subst hn;refine chg (λ_:Unit=>m) (λ_=>rhE (.h s b) (ovh (.h s b) e f) ps) (λ_=>rhL (.h s b) L qs) (λB a w t r q=>?_) (λ_=>aHY (by simpa using tV (L:=L) []) h.2) (λ_=>k);obtain⟨v,u⟩:=a7F s rfl l i h.1 (aXU f p r) q;simp_all
theorem cpy{d:cm}{x y:Operand}{t D el sz:Nat}{O:Type}[aN O][Flat O]{s A:AC}{l xs:List O}{b1 b2:Bool}{Y:Nat}{V U:aq}{Z:TK}(p a:Nat)(H:a<=l.length/\l.length<=l.length)(h:∀{w},HS c w L'->bJ (fT w) A xs)(hs:j7 T n K cf m e L=.op o Lv cf1 cf2 K' m' e' L')(F:(o.op,o.dst)=(.call {callee:=.builtin .copy,args:=#[x,y],argTypes:=#[t,D]},d))(ht:AY T t=some ⟨.sl el,b1,Y,V⟩)(he:AY T el=some ⟨Z,b2,sz,U⟩)(hn:aN.n O=sz)(E:(L'[p]?,gO p cf1.AV)=(some (ow s l),true))(hx:jS e' x=some (.h (s.sub sz a) ((l.take l.length).drop a).length))(hy:jS e' y=some (.h A xs.length))
  (k:G (.mk P T hT n c B0 N X Q) K' m' (dse d (.i .i64 ((min xs.length (l.length-a):Nat):Int)) e') (L'.set p (ow s (dM l a xs))) cf2):G (.mk P T hT n c B0 N X Q) K m e L cf:=by
 have q:L'[p]?=some (ow s l):=dL Prod.fst E;have f:gO p cf1.AV=true:=dL Prod.snd E;have C:(dM l a xs).length=l.length:=gG H.1;refine iV (g:=.mk P T hT n c B0 N X Q) ?_;rw[hs];intro M _ hE;refine hE Unit (λ_=>m') (λ_=>dse d (.i .i64 ((min xs.length (l.length-a):Nat):Int)) e') (λ_=>L'.set p (ow s (dM l a xs))) (λ_=>EW f) (λB u w next Q' hm i I b=>?_) (λ_=>k);have hr:bJ (fT w) A xs:=h ⟨_,I⟩;obtain⟨⟨R,W,J⟩,s0⟩:=I;have j:ev (vE (B0S (.mk P T hT n c B0 N X Q) cf1++B) e') x=some (jT sz a l.length (s.v l.length)):=by grind[hdB,QN]
 have r:o.op=.call {callee:=.builtin .copy,args:=#[x,y],argTypes:=#[t,D]}:=dL Prod.fst F;have hd:o.dst=d:=dL Prod.snd F;obtain⟨v,w',k1,rfl,k2⟩:=a6N p W (by rw[D0,q];rfl) hr hn H.1 (JA ht hT) (hT.size _ _ he) r j (hdB i hy);unfold Oper.wp;rw[k1 _ u i.env,Oper.upon_value,hd];have S:nZ c w' (B0S (.mk P T hT n c B0 N X Q) cf1++B) (L'.set p (ow s (dM l a xs))):=by
  refine⟨⟨R,?_,λz f=>?_⟩,s0⟩
  .rw[MR];show St c w' ((L'.map _).set p (dF [s.v (dM l a xs).length] _)) R;grind
  .obtain f|f:=nM f
   .grind
   .subst f;trivial
 cases d with
 |none=>exact b () _ _ ⟨[],aj,by grind[Act.put,dse],aj⟩
 |some d=>exact b () _ _ ⟨[],aj,by simpa[dse] using i.of (by simp[gT,gV,cA]) (i.env.put (by grind[tR,AA]) _),aj⟩
theorem cp0{d:cm}{x y:Operand}{t A el sz:Nat}{O:Type}[aN O][Flat O]{s r:AC}{l xs:List O}{b1 b2:Bool}{U:Nat}{M J:aq}{V:TK}(p:Nat)(f:∀{w},HS c w L'->bJ (fT w) r xs)(hs:j7 T n K cf m e L=.op o Lv cf1 cf2 K' m' e' L')(D:(o.op,o.dst)=(.call {callee:=.builtin .copy,args:=#[x,y],argTypes:=#[t,A]},d))(ht:AY T t=some ⟨.sl el,b1,U,M⟩)(he:AY T el=some ⟨V,b2,sz,J⟩)(hn:aN.n O=sz)(C:(L'[p]?,gO p cf1.AV)=(some (ow s l),true))(Z:jS e' x=some (.h s l.length))(Y:jS e' y=some (.h r xs.length))
  (k:G (.mk P T hT n c B0 N X Q) K' m' (dse d (.i .i64 ((min xs.length (l.length-0):Nat):Int)) e') (L'.set p (ow s (dM l 0 xs))) cf2):G (.mk P T hT n c B0 N X Q) K m e L cf:=by
 have i:L'[p]?=some (ow s l):=dL Prod.fst C;have b:gO p cf1.AV=true:=dL Prod.snd C;have u:(dM l 0 xs).length=l.length:=gG (lR _);refine iV (g:=.mk P T hT n c B0 N X Q) ?_;rw[hs];intro H _ hE;refine hE Unit (λ_=>m') (λ_=>dse d (.i .i64 ((min xs.length (l.length-0):Nat):Int)) e') (λ_=>L'.set p (ow s (dM l 0 xs))) (λ_=>EW b) (λB q w next Q' hm h E a=>?_) (λ_=>k);have hr:bJ (fT w) r xs:=f ⟨_,E⟩;obtain⟨⟨R,S,F⟩,s0⟩:=E;have j:o.op=.call {callee:=.builtin .copy,args:=#[x,y],argTypes:=#[t,A]}:=dL Prod.fst D;have hd:o.dst=d:=dL Prod.snd D;obtain⟨v,w',W,rfl,k2⟩:=bBS p S (by rw[D0,i];rfl) hr hn (JA ht hT) (hT.size _ _ he) j (hdB h Z) (hdB h Y);unfold Oper.wp;rw[W _ q h.env,Oper.upon_value,hd];have I:nZ c w' (B0S (.mk P T hT n c B0 N X Q) cf1++B) (L'.set p (ow s (dM l 0 xs))):=by
  refine⟨⟨R,?_,λz b=>?_⟩,s0⟩
  .rw[MR];show St c w' ((L'.map _).set p (dF [s.v (dM l 0 xs).length] _)) R;grind
  .obtain b|b:=nM b
   .grind
   .subst b;trivial
 cases d with
 |none=>exact a () _ _ ⟨[],aj,by grind[Act.put,dse],aj⟩
 |some d=>exact a () _ _ ⟨[],aj,by simpa[dse] using h.of (by simp[gT,gV,cA]) (h.env.put (by grind[tR,AA]) _),aj⟩
theorem fR{Z:Act->World->Prop}{f:SE}{g:an}(b:a8R e=some f/\a8S L=some g)(kk:∀a w,rU n c B0 m f g a w->Z a w):∀a w,rU n c B0 m e L a w->Z a w:=by obtain⟨i,h⟩:=b;grind[aPA,aPB]
end
def swN(i j n:Nat):Nat:=match Nat.beq n i with
 |true=>j
 |false=>match Nat.beq n j with
  |true=>i
  |false=>n
def swC(i j:Nat):SV->SV
 |.p n o=>.p (swN i j n) o
 |x=>x
def a81(i j:Nat):aq->aq
 |[]=>[]
 |x::r=>swC i j x::a81 i j r
def swG(i j:Nat):SV->SV
 |.g cs=>.g (a81 i j cs)
 |x=>swC i j x
def bHS(i j:Nat):aq->aq
 |[]=>[]
 |x::r=>swG i j x::bHS i j r
def swF(i j:Nat):ar->ar
 |[]=>[]
 |n::r=>swN i j n::swF i j r
def swT(i j:Nat):SV->SV
 |.t cs=>.t (bHS i j cs)
 |.f f a=>.f f (swF i j a)
 |x=>swG i j x
def swE(i j:Nat):SE->SE
 |[]=>[]
 |(k,x)::r=>(k,swT i j x)::swE i j r
def swL(i j:Nat):an->an
 |[]=>[]
 |x::r=>(match x with
  |.box n cs=>.box (swN i j n) (a81 i j cs)
  |.ro n cs=>.ro (swN i j n) (a81 i j cs)
  |.w n b z=>.w (swN i j n) b z
  |y=>y)::swL i j r
section
variable {B B':Bl} {i j:Nat}
theorem bC3(h:∀n,B'[swN i j n]?=B[n]?)(x:SV):cA B' (swC i j x)=cA B x:=by cases x<;>first|rfl|grind[swC,cA]
theorem aPJ(h:∀n,B'[swN i j n]?=B[n]?):∀cs:aq,bE (cA B') (a81 i j cs)=bE (cA B) cs
 |[]=>rfl
 |x::r=>by simp only[a81,bE,bC3 h,aPJ h r]
theorem a4F(h:∀n,B'[swN i j n]?=B[n]?)(x:SV):gV B' (swG i j x)=gV B x:=by
 cases x with
 |g cs=>grind[swG,gV,aPJ]
 |p n o=>exact bC3 h (.p n o)
 |_=>rfl
theorem a7G(h:∀n,B'[swN i j n]?=B[n]?):∀cs:aq,bE (gV B') (bHS i j cs)=bE (gV B) cs
 |[]=>rfl
 |x::r=>by simp only[bHS,bE,a4F h,a7G h r]
theorem bC4(h:∀n,B'[swN i j n]?=B[n]?):∀cs:ar,bE (aCD B') (swF i j cs)=bE (aCD B) cs
 |[]=>rfl
 |x::r=>by simp only[swF,bE,aCD,h];rw[show bE (aCD B') (swF i j r)=bE (aCD B) r from bC4 h r]
theorem bLD(h:∀n,B'[swN i j n]?=B[n]?)(x:SV):gT B' (swT i j x)=gT B x:=by
 cases x with
 |t cs=>grind[swT,gT,a7G]
 |f f a=>grind[swT,gT,bC4]
 |g cs=>exact a4F h (.g cs)
 |p n o=>exact a4F h (.p n o)
 |_=>rfl
theorem bC5{k:Nat}{x:SV}:∀{e:SE},HL (swE i j e) k=some x->∃y,HL e k=some y/\x=swT i j y
 |[],h=>by cases h
 |(a,y)::r,h=>by
  simp only[swE,HL] at h ⊢;split at h
  .grind
  .rename_i b;exact bC5 h
theorem a7H(h:∀n,B'[swN i j n]?=B[n]?){w:World}{R:bn}:∀(L:an),kW w (L.map (lS B)) ((swL i j L).map (lS B'))/\((∀x∈L,roF B R x)->∀x∈swL i j L,roF B' R x)
 |[]=>⟨.nil,λ_ x d=>by cases d⟩
 |x::L=>by
  obtain⟨p,q⟩:=a7H h (w:=w) (R:=R) L;refine⟨.cons (λF g=>?_) p,λm y a=>?_⟩
  .cases x with
   |box n cs=>
    obtain⟨b,z,vs,l,k,e⟩:=g;exact⟨b,z,vs,aj,by grind[aPJ],e⟩
   |_=>exact g
  .obtain a|a:=qM.1 a
   .have d:=m x ae;cases x with
    |box n cs=>subst a;trivial
    |ro n cs=>
     obtain⟨b,z,vs,l,k,e⟩:=d;subst a;exact⟨b,z,vs,aj,by grind[aPJ],e⟩
    |w n b z=>subst a;show B'[swN i j n]?=_;rw[h];exact d
    |o c=>subst a;trivial
    |no=>subst a;trivial
    |f f=>subst a;exact d
   grind
end
def bNW{B:Bl}{i j:Nat}(d:i<B.length)(c:j<B.length):∃B':Bl,B'.length=B.length/\(∀n,B'[swN i j n]?=B[n]?):=by
 refine⟨(B.set i B[j]).set j B[i],ae,λn=>?_⟩;unfold swN;cases b:Nat.beq n i with
 |true=>
  simp_all
 |false=>
  have b:n≠i:=λh=>by simp_all
  cases a:Nat.beq n j with
  |true=>
   simp_all
  |false=>
   have a:n≠j:=λh=>by simp_all
   grind
section
variable {n:Nat} {c:Ctx} {B0:Bl} {m:Nat} {e:SE} {L:an}
theorem swR{Z:Act->World->Prop}(i j:Nat)(h:(Nat.ble B0.length i && (Nat.ble B0.length j && (Nat.blt i m && Nat.blt j m)))=true)
  (kk:∀a w,rU n c B0 m (swE i j e) (swL i j L) a w->Z a w):∀a w,rU n c B0 m e L a w->Z a w:=by
 simp only[ET,Nat.ble_eq,AA] at h;obtain⟨G,F,E,D⟩:=h;intro a w ⟨B,hm,d,t⟩;refine kk a w ?_;rw[O0] at hm;obtain⟨l,A,C⟩:=bNW (B:=B) (i:=i-B0.length) (j:=j-B0.length) aa aa;have b:∀n,(B0++l)[swN i j n]?=(B0++B)[n]?:=by
  intro n;have o:∀n,n<B0.length->swN i j n=n:=λn r=>by grind[swN,rR]
  have p:∀n,B0.length<=n->swN i j n=B0.length+swN (i-B0.length) (j-B0.length) (n-B0.length):=λn r=>by
   have z:Nat.beq (n-B0.length) (i-B0.length)=Nat.beq n i:=by rw[XA];(simp_all;omega)
   have u:Nat.beq (n-B0.length) (j-B0.length)=Nat.beq n j:=by rw[XA];(simp_all;omega)
   grind[swN]
  grind[Nat.add_sub_cancel_left]
 refine⟨l,aj,⟨d.d,d.size,λk x s=>?_⟩,?_⟩
 .obtain⟨y,f,rfl⟩:=bC5 s;obtain⟨v,g,H⟩:=d.get k y f;grind[bLD]
 .obtain⟨⟨R,s1,q⟩,s0⟩:=t;obtain⟨f,g⟩:=a7H b (w:=w) (R:=R) L;exact⟨⟨R,s1.imp f,g q⟩,s0⟩
theorem pnR{Z:Act->World->Prop}{O:Type}[aN O](j:Nat){s:AC}{l:List O}{b:Nat}(d:l.length=b)(f:L[j]?=some (ow s l))
  (kk:∀a w,rU n c B0 m e (L.set j (.o (dF [s.v b] l))) a w->Z a w):∀a w,rU n c B0 m e L a w->Z a w:=by grind[aPY]
end
def fG{P:Program}{T:TT}{hT:I3 P T}{n:Nat}{c:Ctx}{B0:Bl}{N:Act->World->Prop}{X:Nat->Act->World->Prop}{Q:Act->World->Prop}{K:a8}{m:Nat}{e a:SE}{L b:an}{cf:wJ}(f:a8R e=some a)(d:a8S L=some b)(k:G (.mk P T hT n c B0 N X Q) K m a b cf):G (.mk P T hT n c B0 N X Q) K m e L cf:=by grind[aPA,aPB]
def fc1:SV->bz
 |.i k x=>some (.i k x)
 |.y b=>some (.y b)
 |.b c=>some (.b c)
 |.l c=>some (.l c)
 |.s l=>some (.s l)
 |.p n o=>some (.p n o)
 |.h s n=>some (.h s n)
 |.e s n i o=>some (.e s n i o)
 |.k x=>some (.k x)
 |.g cs=>some (.g cs)
 |.t cs=>some (.t cs)
 |.f f cs=>some (.f f cs)
 |.u=>some .u
def fcs:aq->Option aq
 |[]=>some []
 |x::r=>match fc1 x with
  |some y=>match fcs r with
   |some s=>some (y::s)
   |none=>none
  |none=>none
def fc2:SV->bz
 |.g cs=>match fcs cs with
  |some a=>some (.g a)
  |none=>none
 |x=>fc1 x
def fgs:aq->Option aq
 |[]=>some []
 |x::r=>match fc2 x with
  |some y=>match fgs r with
   |some s=>some (y::s)
   |none=>none
  |none=>none
def fc3:SV->bz
 |.t cs=>match fgs cs with
  |some a=>some (.t a)
  |none=>none
 |x=>fc2 x
def fdE:SE->Option SE
 |[]=>some []
 |(k,v)::r=>match fc3 v with
  |some y=>match fdE r with
   |some s=>some ((k,y)::s)
   |none=>none
  |none=>none
def fdL:an->Option an
 |[]=>some []
 |x::r=>match fdL r with
  |some s=>match x with
   |.box n cs=>match fcs cs with
    |some a=>some (.box n a::s)
    |none=>none
   |.ro n cs=>match fcs cs with
    |some a=>some (.ro n a::s)
    |none=>none
   |y=>some (y::s)
  |none=>none
def bC6{x y:SV}(h:fc1 x=some y):y=x:=by cases x<;>simp only[fc1] at h<;>cases h<;>rfl
theorem a4G:∀{l r:aq},fcs l=some r->r=l
 |[],r,h=>by cases h;rfl
 |x::l,r,h=>by
  simp only[fcs] at h;split at h
  .rename_i y a;split at h
   .rename_i s b;cases h;rw[bC6 a,a4G b]
   .cases h
  .cases h
def bC7{x y:SV}(h:fc2 x=some y):y=x:=by
 cases x with
 |g cs=>
  grind[fc2,a4G]
 |_=>exact bC6 h
theorem bC8:∀{l r:aq},fgs l=some r->r=l
 |[],r,h=>by cases h;rfl
 |x::l,r,h=>by
  simp only[fgs] at h;split at h
  .rename_i y a;split at h
   .rename_i s b;cases h;rw[bC7 a,bC8 b]
   .cases h
  .cases h
def bLF{x y:SV}(h:fc3 x=some y):y=x:=by
 cases x with
 |t cs=>
  grind[fc3,bC8]
 |_=>exact bC7 h
theorem bC9:∀{e r:SE},fdE e=some r->r=e
 |[],r,h=>by cases h;rfl
 |(k,v)::l,r,h=>by
  simp only[fdE] at h;split at h
  .rename_i y a;split at h
   .rename_i s b;cases h;rw[bLF a,bC9 b]
   .cases h
  .cases h
theorem bDA:∀{e r:an},fdL e=some r->r=e
 |[],r,h=>by cases h;rfl
 |x::l,r,h=>by
  simp only[fdL] at h;split at h
  .rename_i s a;have:=bDA a;grind[a4G]
  .cases h
def fD{n:Nat}{c:Ctx}{B0:Bl}{m:Nat}{e b:SE}{L d:an}{Z:Act->World->Prop}(g:fdE e=some b)(f:fdL L=some d)(kk:∀a w,rU n c B0 m b d a w->Z a w):∀a w,rU n c B0 m e L a w->Z a w:=by grind[bC9,bDA]
end Go.Gv
end
