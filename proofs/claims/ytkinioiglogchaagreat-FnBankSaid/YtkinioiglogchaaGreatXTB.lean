import Derived.Test.YtkinioiglogchaaGreatXTA
import Derived.RangeFuncWrites
import Derived.RangeFuncBox
import Derived.RangeFuncLeaves
import Derived.Shelf.Abstract
import Derived.WalkKit
import Derived.OwnWalkIn
import Derived.TacticsInMore
import Derived.LoopNIn
import Derived.LoopIn
import Derived.Shelf.Slices.CompactI
import Derived.Shelf.Spec.SlicesInsertGrow
set_option linter.unusedVariables false
set_option linter.unusedSimpArgs false
set_option linter.unusedSectionVars false
set_option linter.constructorNameAsVariable false
set_option linter.unnecessarySimpa false
noncomputable section
namespace Go.Gv
variable{B B0 Bs:Bl}{b1 b2:Bool}{z:Ch}{y:Code}{c:Ctx}{fn:Func}{g:FuncId}{i:Int}{L L1 M:List Ch}{A:List Chunk}{R:List Fact}{rs:List ResultVar}{c2 cs0 xs z1 z2:List SV}{ec vs:List Value}{el id j k m mj n n0 n1 nb sz t t2:Nat}{x:Operand}{C:Prop}{e e1:SE}{Ta Tb Tc Td Te Tf Tg Th Ti:Sort _}{O ex β π ρ σ υ:Type}{w:World}
section
variable {P:Program} {T:TT} {hT:D6 P T} {n:Nat} {c:Ctx} {B0:Bl} {N:Act->World->Prop} {X:Nat->Act->World->Prop} {Q:Act->World->Prop} {K K':List Fr} {m m':Nat} {e e':SE} {L L':List Ch} {cf cf1 cf2:sW} {o:Oper} {Lv:List Ch} {d:Nat}
theorem ext_nil:cf.ext []=cf:=by cases cf<;>simp[sW.ext]
theorem pu{x:SV}(hs:opS (jK T n K cf m e L)=some (o,Lv,cf1,cf2,K',m',e',L'))(hd:o.dst=some d)(hv:∀B a w,gQ n B e' a->lJ c w B Lv->∃v,fH B x=some v/\eW P o (vE B e') w v w)
  (k:G (.mk P T hT n c B0 N X Q) K' m' ((d,x)::e') L' cf2):G (.mk P T hT n c B0 N X Q) K m e L cf:=by
 refine gO (g:=.mk P T hT n c B0 N X Q) ?_;have key:aCD (.mk P T hT n c B0 N X Q) K' m' e' L' o Lv cf1 cf2->G (.mk P T hT n c B0 N X Q) K' m' e' L' cf1:=λhP=>by refine hP d x [] (λ_=>[]) 0 hd (λ_=>rfl) (λB a w hA hS _=>?_) (λB w L _ hS=>aj) (by grind[ext_nil]);grind
 generalize jK T n K cf m e L=s at hs;cases s<;>simp only[opS] at hs<;>cases hs
 ·exact λ_ hP=>key hP
 ·exact λ_ hP _=>key hP
theorem wT{k:IntKind}{a:Act}(hA:gQ n B e a)(h:(iG e x).bind rI=some (k,i)):ev (vE B e) x=some (.int k i):=by
 cases hx:iG e x with
 |none=>grind
 |some y=>
  grind[eF,aWX]
section
variable {x y:Operand} {t z:TypeId} {k:IntKind} {i j:Int} {O:Type} {A:Option O} {q:O}
theorem bM5(hs:opS (jK T n K cf m e L)=some (o,Lv,cf1,cf2,K',m',e',L'))(ho:(o.op,o.dst)=(.binOp .quo t x y z,some d))(hx:(iG e' x).bind rI=some (k,i))(hy:(iG e' y).bind rI=some (k,j))(hF:need (j≠0) A=some q)
  (kk:A=some q->G (.mk P T hT n c B0 N X Q) K' m' ((d,.i k (k.wrap (i.tdiv j)))::e') L' cf2):G (.mk P T hT n c B0 N X Q) K m e L cf:=pu hs (bZ Prod.snd ho) (λB a w hA _=>⟨_,rfl,aWM (bZ Prod.fst ho) (wT hA hx) (wT hA hy) (lZ hF).1⟩) (kk (lZ hF).2)
theorem bJ8(hs:opS (jK T n K cf m e L)=some (o,Lv,cf1,cf2,K',m',e',L'))(ho:(o.op,o.dst)=(.binOp .rem t x y z,some d))(hx:(iG e' x).bind rI=some (k,i))(hy:(iG e' y).bind rI=some (k,j))(hF:need (j≠0) A=some q)
  (kk:A=some q->G (.mk P T hT n c B0 N X Q) K' m' ((d,.i k (i.tmod j))::e') L' cf2):G (.mk P T hT n c B0 N X Q) K m e L cf:=pu hs (bZ Prod.snd ho) (λB a w hA _=>⟨_,rfl,aWN (bZ Prod.fst ho) (wT hA hx) (wT hA hy) (lZ hF).1⟩) (kk (lZ hF).2)
theorem bHE{x:Operand}{l:List UInt8}{a:Act}(hA:gQ n B e a)(h:iG e x=some (.s l)):ev (vE B e) x=some (sv l):=by obtain⟨v,h1,h2⟩:=eF hA h;cases h1;exact h2
theorem cat{p r:List UInt8}(hs:opS (jK T n K cf m e L)=some (o,Lv,cf1,cf2,K',m',e',L'))(ho:(o.op,o.dst)=(.binOp .add t x y z,some d))(hx:iG e' x=some (.s p))(hy:iG e' y=some (.s r))(hF:need (p.length+r.length<=9223372036854775807) A=some q)
  (kk:A=some q->G (.mk P T hT n c B0 N X Q) K' m' ((d,.s (p++r))::e') L' cf2):G (.mk P T hT n c B0 N X Q) K m e L cf:=pu hs (bZ Prod.snd ho) (λB a w hA _=>⟨_,rfl,bGO (bZ Prod.fst ho) (bHE hA hx) (bHE hA hy) (lZ hF).1⟩) (kk (lZ hF).2)
theorem bCK{x:Operand}{cs:List SV}{a:Act}(hA:gQ n B e a)(h:(iG e x).map nbS=some (.g cs))(hv:aT (bK []) cs=some vs):ev (vE B e) x=some (.agg vs.toArray):=by
 cases hx:iG e x with
 |none=>grind
 |some y=>
  rw[hx] at h;simp at h;obtain⟨v,h1,h2⟩:=eF hA hx;rw[h2,<-h1,<-aIG,h];simp only[fH,gV];have:=eQ (g:=bK B) (λx v h=>by simpa using fW (B:=[]) B h) hv;rw[this]
theorem eqS{ys:List SV}{vx vy:List Value}{fs:Array Field}{b:Bool}(hg:P.eqGuardType P.depth t=false)(hst:P.stoodInHeld t=false)(hu:P.underlying t=some (.struct fs))(hb:∀w,(Op.eqFields 9999 vx.toArray vy.toArray (match P.underlying t with|some (.struct fs)=>fs|_=>#[]).toList).run P w=.ok b w)(hs:opS (jK T n K cf m e L)=some (o,Lv,cf1,cf2,K',m',e',L'))(ho:(o.op,o.dst)=(.binOp .eql t x y z,some d))(hx:(iG e' x).map nbS=some (.g xs))(hy:(iG e' y).map nbS=some (.g ys))(hvx:aT (bK []) xs=some vx)(hvy:aT (bK []) ys=some vy)
  (kk:G (.mk P T hT n c B0 N X Q) K' m' ((d,.b b)::e') L' cf2):G (.mk P T hT n c B0 N X Q) K m e L cf:=pu hs (bZ Prod.snd ho) (λB a w hA _=>⟨_,rfl,bGT hg hst hu hb (bZ Prod.fst ho) (bCK hA hx hvx) (bCK hA hy hvy)⟩) kk
theorem neS{ys:List SV}{vx vy:List Value}{fs:Array Field}{b:Bool}(hg:P.eqGuardType P.depth t=false)(hst:P.stoodInHeld t=false)(hu:P.underlying t=some (.struct fs))(hb:∀w,(Op.eqFields 9999 vx.toArray vy.toArray (match P.underlying t with|some (.struct fs)=>fs|_=>#[]).toList).run P w=.ok b w)(hs:opS (jK T n K cf m e L)=some (o,Lv,cf1,cf2,K',m',e',L'))(ho:(o.op,o.dst)=(.binOp .neq t x y z,some d))(hx:(iG e' x).map nbS=some (.g xs))(hy:(iG e' y).map nbS=some (.g ys))(hvx:aT (bK []) xs=some vx)(hvy:aT (bK []) ys=some vy)
  (kk:G (.mk P T hT n c B0 N X Q) K' m' ((d,.b (!b))::e') L' cf2):G (.mk P T hT n c B0 N X Q) K m e L cf:=pu hs (bZ Prod.snd ho) (λB a w hA _=>⟨_,rfl,bBM hg hst hu hb (bZ Prod.fst ho) (bCK hA hx hvx) (bCK hA hy hvy)⟩) kk
theorem SQ{O:Type}[aN O]:bL (dZ w) ⟨none,0⟩ ([]:List O):=bGS
theorem cl0{O:Type}{fo:Option O}{kf:O->Option β}{q:β}{f:FuncId}{sv:O->SV}(hs:jK T n K cf m e L=.call o (some d) f xs cf1 cf2 K' m' e' L')
  (hc:∀{w},HS c w L'->∀{x},fo=some x->Fn0 P f (dZ w) xs sv x) (hF:fo.bind kf=some q)
  (k:∀x,fo=some x->kf x=some q->G (.mk P T hT n c B0 N X Q) K' m' ((d,sv x)::e') L' cf2):G (.mk P T hT n c B0 N X Q) K m e L cf:=cl (Lf:=λ_ _=>[]) hs (λ_ _=>rfl) (λh=>hc h) hF (λx hx hk _=>aj)
theorem lr{O:Type}{y:Code}{fb:σ->Option (Step σ ρ)}{s0:σ}{gk:ρ->Option O}{q:O}(u0:υ)(ks:List Nat)(el:σ->υ->SE)(is0 is:List Nat)(Ll:σ->υ->List Ch)
  (hs:jK T n K cf m e L=.loop id y K' m' e' L') (hF:(loop fb s0).bind gk=some q)
  (h0:YQ B0.length m' e' L' is0 m' (el s0 u0++kp e' ks) (Ll s0 u0++kl L' is)=some (el s0 u0++kp e' ks,Ll s0 u0++kl L' is))
  (k1:∀ro,gk ro=some q->∀s u o,fb s=some o->(∀p,o=.stop p->p=ro)->G (.mk P T hT n c B0 (NxP n c B0 o m' (λs u=>el s u++kp e' ks) (λs u=>Ll s u++kl L' is)) (BkP n c B0 ro (λb:Empty=>nomatch b) m' (λ(b:Empty) (_:Unit)=>nomatch b) (λb _=>nomatch b) id (XK (.mk P T hT n c B0 N X Q) K')) Q) [] m' (el s u++kp e' ks) (Ll s u++kl L' is) (.c y)):G (.mk P T hT n c B0 N X Q) K m e L cf:=
 lp (β:=Empty) (ω:=Unit) u0 ks el is0 is Ll (λb=>nomatch b) [] (λb=>nomatch b) [] (λb=>nomatch b) hs hF h0 (λro hro s u o hb ho=>by
  have:=k1 ro hro s u o hb ho;have h1:(λ(b:Empty) (u:Unit)=>((λb=>nomatch b:Empty->Unit->SE) b u++kp e' []))=(λ(b:Empty) (_:Unit)=>nomatch b):=funext λb=>nomatch b
  have h2:(λ(b:Empty) (u:Unit)=>((λb=>nomatch b:Empty->Unit->List Ch) b u++kl L' []))=(λ(b:Empty) (_:Unit)=>nomatch b):=funext λb=>nomatch b
  simp_all) (λb=>nomatch b)
end
end
section
variable {P:Program} {T:TT} {hT:D6 P T} {n:Nat} {c:Ctx} {B0:Bl} {N:Act->World->Prop} {X:Nat->Act->World->Prop} {Q:Act->World->Prop} {K K':List Fr} {m m':Nat} {e e':SE} {L L':List Ch} {cf cf1 cf2:sW} {o:Oper} {Lv:List Ch} {d:Nat}
def WA(P:Program)(c:Ctx){O β:Type}{iR:aN O}(C:DO O)(sr:β->SV)(g:FuncId)(cap:List Value)(p:O->Option β):Prop:=(∀args w,(callFunc g args).run P w=.ok (.enter g args) w)/\∀w,eK c.W c.w0 w->∀x y,C.sub (YO w) w x y->∀q,p x=some q->∀v,fH [] (C.sv x y)=some v->Calls P g (v::cap).toArray w (Ret λu w'=>fH [] (sr q)=some u/\lJ (dZ w) w' [] [])
def Fu2(P:Program)(c:Ctx){O α' β:Type}{iR:aN O}{iR':aN α'}(C:DO O)(C':DO α')(sr:β->SV)(g:FuncId)(cap:List Value)(p:O->α'->Option β):Prop:=(∀args w,(callFunc g args).run P w=.ok (.enter g args) w)/\∀w,eK c.W c.w0 w->∀x y x' y',C.sub (YO w) w x y->C'.sub (YO w) w x' y'->∀q,p x x'=some q->∀v v',fH [] (C.sv x y)=some v->fH [] (C'.sv x' y')=some v'->Calls P g (v::v'::cap).toArray w (Ret λu w'=>fH [] (sr q)=some u/\lJ (dZ w) w' [] [])
theorem a6R{iR:aN O}(C:DO O)(hS:lJ c w B L){x:O}{y:C.ex}(h:C.sub c.S0 c.w0 x y):C.sub (YO w) w x y:=by refine C.bM4 h (λb o hb=>?_) (aW1 hS);obtain⟨⟨R,s1,_⟩,s0⟩:=hS;exact s1.keep.cell b o (s0 b o hb) λhw=>s1.apart b o hw hb
theorem lJ.a6S(hS:lJ c w B L):eK c.W c.w0 w:=by obtain⟨⟨R,s1,_⟩,s0⟩:=hS;exact s1.keep
section
variable {O α' β γ:Type} {iR:aN O} {iR':aN α'} {C:DO O} {C':DO α'} {sr:β->SV} {g:FuncId} {cap:List Value} {q:γ} {kf:β->Option γ} {fo:Operand} {args:Array Operand} {ats:Array TypeId}
theorem a6T{f:FuncId}{ts:Array TypeId}{E:Env}(hcall:∀args w,(callFunc f args).run P w=.ok (.enter f args) w)(ho:o.op=.call {callee:=.value x,args:=args,argTypes:=ts})(hx:ev E x=some (.func (.func f) #[] cap.toArray))(hv:evs E args.toList=some vs):bF9 P o E w f (vs++cap).toArray:=aS6 (w:=w) (cap:=cap) (xs:=args.toList) (vs:=vs) hcall aa hx hv
theorem aPC{x:SV}{v:Value}(h:yU 0 x=true)(hv:fH B x=some v):fH [] x=some v:=by have:=SP h hv;grind
theorem fa1{p:O->Option β}(H:WA P c C sr g cap p)(x:O)(y:C.ex)(hs:jK T n K cf m e L=.op o Lv cf1 cf2 K' m' e' L')(ho:(o.op,o.dst)=(.call {callee:=.value fo,args:=args,argTypes:=ats},some d))(hf:iG e' fo=some (.k (.func (.func g) #[] cap.toArray)))(hx:(aT (iG e') args.toList).map nbT=some [C.sv x y])(hz:yU 0 (C.sv x y)=true)(hy:C.sub c.S0 c.w0 x y)(hF:(p x).bind kf=some q)
  (k:∀z,p x=some z->kf z=some q->G (.mk P T hT n c B0 N X Q) K' m' ((d,sr z)::e') L' cf2):G (.mk P T hT n c B0 N X Q) K m e L cf:=by
 refine gO (g:=.mk P T hT n c B0 N X Q) ?_;rw[hs];intro hdn _ hE;obtain⟨hcall,hrun⟩:=H;cases hp:p x with
 |none=>grind
 |some z=>
  rw[hp] at hF;refine hE Unit (λ_=>m') (λ_=>(d,sr z)::e') (λ_=>L') (λ_=>by simpa using sZ (L:=L') []) (λB a w next Q' hm hA hS hnext=>?_) (λ_=>k z hp hF);cases hys:aT (iG e') args.toList with
  |none=>grind
  |some ys=>
   rw[hys] at hx;simp at hx;obtain⟨vs,h1,h2⟩:=ZW hA hys;obtain⟨u,h3,h4⟩:=eF hA hf;simp only[fH,gV,bK] at h3;split at h3
   ·cases h3;rw[<-aZT,hx] at h1;simp only[aT] at h1;cases hv:fH (V8 (.mk P T hT n c B0 N X Q) cf1++B) (C.sv x y) with
    |none=>grind
    |some v=>
     rw[hv] at h1;cases h1;have h6:=a6T (w:=w) hcall (bZ Prod.fst ho) h4 h2;have hd:o.dst=some d:=bZ Prod.snd ho;unfold Oper.wp;rw[h6 _ a hA.env,Oper.upon_enter];refine Calls.mono (hrun w hS.a6S x y (a6R C hS hy) z hp v (aPC hz hv)) λen w' ⟨v',hv',g1,g2⟩=>?_;subst hv';rw[hd] at hdn ⊢;have g3:=wE (V8 (.mk P T hT n c B0 N X Q) cf1++B) g1;exact hnext () _ _ ⟨[],aj,by simpa using hA.of aj (hA.env.put (by grind[qS,wD]) v'),by simpa using hS.after (L2:=[]) rfl g2⟩
   ·cases h3
theorem fu1{p:O->Option β}(hc:∀args w,(callFunc g args).run P w=.ok (.enter g args) w)(hn:∀{U:Ctx} {x y},C.sub U.S0 U.w0 x y->∀{q},p x=some q->Fn0 P g U [C.sv x y] sr q):WA P (dZ w) C sr g [] p:=
 ⟨hc,λw1 _ x y hy q hq v hv=>by
  refine Calls.mono ((hn (U:=dZ w1) hy hq).run [v] (by simp[aT,hv]) (aNO w1)) λen w' ⟨v',h1,y,h2,h3⟩=>⟨v',h1,h2,h3⟩⟩
end
def roL:Nat->List (Nat×List SV)->List Ch
 |_,[]=>[]
 |k,(_,cs)::r=>.ro k cs::roL (k+1) r
def roS:List (Nat×List SV)->List Ch
 |[]=>[]
 |(n,cs)::r=>.ro n cs::roS r
def a6U:Nat->List (Nat×List SV)->List SV
 |_,[]=>[]
 |k,_::r=>.p k 0::a6U (k+1) r
def RC(Bs:Bl):List Value:=Bs.map λb=>.pointer (some ⟨b.1,b.2,none⟩)
theorem rk[aN O]{w1:World}{s:AC}{l:List O}(hk:eK F0 w w1)(h:bL (dZ w) s l):bL (dZ w1) s l:=aN.rd_mono (aN.rd_agree h λb o hb=>hk.cell b o hb λh=>h) λb o hb=>HB hb hk.size
theorem fk1{iR:aN O}{C:DO O}{sr:β->SV}{cs:List (Nat×List SV)}{p:O->Option β}(hc:∀args w,(callFunc g args).run P w=.ok (.enter g args) w)(hB:∀w1,eK F0 w w1->lJ (dZ w1) w1 Bs (roL 0 cs))(hl:aT (fH Bs) (a6U 0 cs)=some (RC Bs))(hz:∀q,yU 0 (sr q)=true)(hn:∀{w1 x y},eK F0 w w1->C.sub (YO w1) w1 x y->∀{q},p x=some q->FnS P g (dZ w1) (C.sv x y::a6U 0 cs) Bs (roL 0 cs) (λr (_:Unit)=>sr r) (λ_ _=>[]) q):WA P (dZ w) C sr g (RC Bs) p:=
 ⟨hc,λw1 hk x y hy q hq v hv=>by
  have hv':fH Bs (C.sv x y)=some v:=by simpa using wE (B:=[]) Bs hv
  refine Calls.mono ((hn hk hy hq).run (v::RC Bs) (by grind[aT]) (hB w1 hk)) λen w' ⟨v',h1,y',h2,h3⟩=>⟨v',h1,?_,?_⟩
  ·grind[aPC]
  ·simpa using aCC (m:=0) h3 rfl⟩
theorem aZ0:∀{cs:List (Nat×List SV)} {k:Nat} {x:Ch},x∈roL k cs->∃j n c,cs[j]?=some (n,c)/\x=.ro (k+j) c
 |(n,c)::r,k,x,h=>by
  rcases iX.1 h with h|h
  ·simp_all
  ·obtain⟨j,n',c',h1,h2⟩:=aZ0 h;exact⟨j+1,n',c',aj,aj⟩
theorem aZ1:∀{cs:List (Nat×List SV)} {n:Nat} {c:List SV},(n,c)∈cs->Ch.ro n c∈roS cs
 |(n',c')::r,n,c,h=>by
  rcases iX.1 h with h|h
  ·cases h;exact ZS ..
  ·exact lH _ (aZ1 h)
theorem a6V{cs:List (Nat×List SV)}{cap:List Value}:aT (VK B) (cs.map (·.1))=some cap->∃Bs:Bl,cap=RC Bs/\Bs.length=cs.length/\∀(j:Nat) n c,cs[j]?=some (n,c)->∃b,Bs[j]?=some b/\B[n]?=some b:=by
 induction cs generalizing cap with
 |nil=>intro h;cases h;exact⟨[],rfl,rfl,ae⟩
 |cons p r ih=>
  obtain⟨n,c⟩:=p;intro h;simp only[AT,aT] at h;split at h
  ·cases h
  ·rename_i v hv;split at h
   ·cases h
   ·rename_i vs hvs;cases h;obtain⟨Bs,h1,h2,h3⟩:=ih hvs;simp only[VK] at hv;split at hv
    ·rename_i b z hb;cases hv;refine⟨(b,z)::Bs,by simp[RC,h1],by simp[h2],λj n' c' hj=>?_⟩;grind
    ·cases hv
def aTG:List (Nat×List SV)->Bool
 |[]=>true
 |(_,c)::r=>yU.okC 0 c && aTG r
theorem aTH:∀{cs:List (Nat×List SV)} {j n:Nat} {c:List SV},aTG cs=true->cs[j]?=some (n,c)->yU.okC 0 c=true
 |(n',c')::r,0,n,c,h,hj=>by simp_all[aTG]
 |(n',c')::r,j + 1,n,c,h,hj=>by simp only[aTG,uG] at h;exact aTH h.2 (by simpa using hj)
theorem bHF{cs:List (Nat×List SV)}(hS:lJ c w B L)(hk:∀x∈roS cs,x∈L)(ho:aTG cs=true)(hB:∀(j:Nat) n c,cs[j]?=some (n,c)->∃b,Bs[j]?=some b/\B[n]?=some b):∀w1,eK F0 w w1->lJ (dZ w1) w1 Bs (roL 0 cs):=by
 intro w1 hkp;have facts:∀x∈roL 0 cs,∃(f:Fact),f.P (YO w1) w1/\(∀R,f∈R->roF Bs R x)/\kS Bs x=J1:=by intro x hx;obtain⟨j,n,cc,h1,h2⟩:=aZ0 hx;subst h2;obtain⟨⟨R,s1,s2⟩,s0⟩:=hS;obtain⟨b,z,vs,g1,g2,g3⟩:=s2 _ (hk _ (aZ1 (D9 h1)));obtain⟨b',q1,q2⟩:=hB j n cc h1;rw[g1] at q2;cases q2;have hc0:=BR (aTH ho h1) g2;rw[List.take_zero] at hc0;obtain⟨i,hi⟩:=aFY g3;refine⟨fAt b z vs,bFF (s1.fact i hi) hkp,λR hR=>⟨b,z,vs,by simpa using q1,eQ (λx v h=>by simpa using fW (B:=[]) Bs h) hc0,hR⟩,rfl⟩
 have build:∀M:List Ch,(∀x∈M,x∈roL 0 cs)->∃R:List Fact,(∀f∈R,f.P (YO w1) w1)/\(∀x∈M,roF Bs R x)/\M.map (kS Bs)=List.replicate M.length J1:=by
  intro M;induction M with
  |nil=>exact λ_=>⟨[],ae,ae,rfl⟩
  |cons x M ih=>
   intro hM;obtain⟨R,h1,h2,h3⟩:=ih λy hy=>hM y (lH _ hy);obtain⟨f,f1,f2,f3⟩:=facts x (hM x ae);refine⟨f::R,λg hg=>?_,λy hy=>?_,by simp[f3,h3,List.replicate_succ]⟩
   ·rcases iX.1 hg with hg|hg
    ·subst hg;exact f1
    ·exact h1 g hg
   ·rcases iX.1 hy with hy|hy
    ·subst hy;exact f2 _ ae
    ·exact aCA (λg hg=>lH _ hg) (h2 y hy)
 obtain⟨R,h1,h2,h3⟩:=build (roL 0 cs) λ_ h=>h;refine⟨⟨R,?_,h2⟩,λ_ _ h=>h⟩;rw[h3];have h4:St (dZ w1) w1 [] R:=St.enter h1;generalize (roL 0 cs).length=k;clear h3;induction k with
 |zero=>exact h4
 |succ k ih=>
  rw[List.replicate_succ'];exact St.more (ch:=J1) ih (eK.refl _ _) ⟨F0,λ_ _ h=>h,λ_ _ h=>h.elim⟩
def shr(ns:List Nat):List Ch->List Ch
 |[]=>[]
 |.box n cs::L=>match fP n ns with
  |true=>.box n cs::shr ns L
  |false=>.ro n cs::shr ns L
 |x::L=>x::shr ns L
theorem St.bHG{M:List Chunk}{b z i:Nat}(h:St c w M R)(hi:M[i]?=some (VY b z vs)):St c w (M.set i J1) (R++[fAt b z vs]):=by
 have h1:=h.take i hi;obtain⟨F,S,⟨F1,F2,h1,h2,hd,hF⟩,a2,a3,a4,a5,a6⟩:=h1.sep;have hlt:∀b' o,F1 b' o->b'<w.heap.size:=λ_ _ hf=>Chunk.lt (VY b z vs) h1 hf;obtain⟨g1,g2,g3⟩:=h1;refine⟨h.keep,⟨F2,λb o=>S b o\/F1 b o,h2,?_,λb o hf=>a3 b o ((hF b o).2 (.inr hf)),?_,?_,?_⟩,h.apart⟩
 ·rintro b o hf (hs|hs)
  ·exact a2 b o ((hF b o).2 (.inr hf)) hs
  ·exact hd b o hs hf
 ·grind
 ·grind
 ·intro f hf;rcases cY.1 hf with hf|hf
  ·exact f.mono (a6 f hf) λb o hs=>.inl hs
  ·simp at hf;subst hf;exact⟨g1,λo ho=>.inr ((g3 b o).2 ho)⟩
theorem aQY{w:World}{B:Bl}(ns:List Nat):∀(M L:List Ch),lJ c w B (M++L)->lJ c w B (M++shr ns L)
 |M,[],h=>h
 |M,x::L,h=>by
  have gen:lJ c w B (M++x::shr ns L):=by have:=aQY ns (M++[x]) L (by simpa using h);grind
  cases x with
  |box n cs=>
   simp only[shr];split
   ·exact gen
   ·obtain⟨⟨R,s1,s2⟩,s0⟩:=gen;have hi:((M++Ch.box n cs::shr ns L).map (kS B))[M.length]?=some (SN B n cs):=by simp[kS]
    obtain⟨F,b,z,vs,h3,h4,h5⟩:=s1.chunk (ch:=SN B n cs) M.length hi;have s3:=s1.imp (jT.put M.length hi λF ⟨b',z',vs',q1,q2,q3⟩=>by
     rw[h3] at q1;cases q1;rw[h4] at q2;cases q2;exact q3)
    have s4:=s3.bHG (b:=b) (z:=z) (vs:=vs) (i:=M.length) (by rw[List.getElem?_set_self];simp);refine⟨⟨R++[fAt b z vs],?_,λx hx=>?_⟩,s0⟩
    ·have:((M++Ch.ro n cs::shr ns L).map (kS B))=(((M++Ch.box n cs::shr ns L).map (kS B)).set M.length (VY b z vs)).set M.length J1:=by simp[kS]
     grind
    ·rcases cY.1 hx with hx|hx
     ·exact aCA (λf hf=>QT _ hf) (s2 x (QT _ hx))
     ·rcases iX.1 hx with hx|hx
      ·subst hx;exact⟨b,z,vs,h3,h4,ae⟩
      ·exact aCA (λf hf=>QT _ hf) (s2 x (aB0 _ (lH _ hx)))
  |_=>exact gen
theorem mf{f:FuncId}{caps:Array Operand}{ops:Array Oper}{l:List Oper}(ns:List Nat)(hs:jK T n K cf m e L=.op o Lv (.r ops l) cf2 K' m' e' L')(ho:(o.op,o.dst)=(.makeFunc (.func f) #[] caps,some d))(hx:aT (iG e') caps.toList=some (ns.map λn=>.p n 0))
  (k:G (.mk P T hT n c B0 N X Q) K' m' ((d,.f f ns)::e') (shr ns L') cf2):G (.mk P T hT n c B0 N X Q) K m e L cf:=by
 refine gO (g:=.mk P T hT n c B0 N X Q) ?_;rw[hs];intro hdn _ hE;refine hE Unit (λ_=>m') (λ_=>(d,.f f ns)::e') (λ_=>shr ns L') (λ_=>trivial) (λB a w next Q' hm hA hS hnext=>?_) (λ_=>k);obtain⟨vs,h1,h2⟩:=ZW hA hx;have hd:o.dst=some d:=bZ Prod.snd ho;have h3:∀{ns:List Nat} {vs:List Value},aT (fH (V8 (.mk P T hT n c B0 N X Q) (.r ops l)++B)) (ns.map λn=>SV.p n 0)=some vs->aT (VK (V8 (.mk P T hT n c B0 N X Q) (.r ops l)++B)) ns=some vs:=by
  intro ns;induction ns with
  |nil=>intro vs h;exact h
  |cons jj ns ih=>
   grind[aT,VK,fH,gV,bK]
 have h5:∀{os:List Operand} {vs:List Value},evs (vE (V8 (.mk P T hT n c B0 N X Q) (.r ops l)++B) e') os=some vs->os.map (ev (vE (V8 (.mk P T hT n c B0 N X Q) (.r ops l)++B) e'))=vs.map some:=by
  intro os;induction os with
  |nil=>intro vs h;cases h;rfl
  |cons o os ih=>
   grind[evs]
 have h6:=bBI (P:=P) (w:=w) (vf:=[]) (vc:=vs) (bZ Prod.fst ho) rfl (h5 h2);unfold Oper.wp;rw[h6 _ a hA.env,Oper.upon_value,hd];rw[hd] at hdn;have h7:fH (V8 (.mk P T hT n c B0 N X Q) (.r ops l)++B) (.f f ns)=some (.func (.func f) #[] vs.toArray):=by grind[fH]
 exact hnext () _ _ ⟨[],aj,by simpa using hA.of h7 (hA.env.put (by grind[qS,wD]) _),by simpa using aQY ns [] L' hS⟩
theorem clc{fo:Option O}{kf:O->Option β}{q:β}{f:FuncId}{xs0:List SV}{sv:O->SV}(is:List Nat)(cs:List (Nat×List SV))(hs:jK T n K cf m e L=.callp o (some d) f xs cf1 cf2 K' m' e' L')(hk:kl L' is=roS cs)(ho:(aTG cs && okA xs.dropLast)=true)(hx:xs=xs.dropLast++[.f g (cs.map (·.1))])
  (hc:∀{w},HS c w L'->∀{Bs:Bl},Bs.length=cs.length->(∀w1,eK F0 w w1->lJ (dZ w1) w1 Bs (roL 0 cs))->∀{x},fo=some x->Fn0 P f (dZ w) (xs.dropLast++[.k (.func (.func g) #[] (RC Bs).toArray)]) sv x) (hF:fo.bind kf=some q)
  (k:∀x,fo=some x->kf x=some q->G (.mk P T hT n c B0 N X Q) K' m' ((d,sv x)::e') L' cf2):G (.mk P T hT n c B0 N X Q) K m e L cf:=by
 refine gO (g:=.mk P T hT n c B0 N X Q) ?_;rw[hs];intro fo' args ats ho' hd hf ⟨ys,hys,hxs⟩ hdn hE;rw[uG] at ho;cases hfo:fo with
 |none=>grind
 |some x=>
  rw[hfo] at hF;refine hE Unit (λ_=>m') (λ_=>(d,sv x)::e') (λ_=>L') (λ_=>by simpa using sZ (L:=L') []) (λB a w next Q' hm hA hS hnext=>?_) (λ_=>k x hfo hF);obtain⟨vs,h1,h2⟩:=ZW hA hys;obtain⟨v,h3,h4⟩:=eF hA hf;simp[fH,aT] at h3;subst h3;rw[<-OJ,hxs] at h1;rw[hx] at h1;have split:∀{az:List SV} {b:SV} {vs:List Value} {B:Bl},aT (fH B) (az++[b])=some vs->∃us v,aT (fH B) az=some us/\fH B b=some v/\vs=us++[v]:=by
   intro az;induction az with
   |nil=>
    grind[aT]
   |cons a az ih=>
    intro b vs B h;simp only[DM,aT] at h;grind[aT]
  obtain⟨us,fv,g1,g2,rfl⟩:=split h1;simp only[fH] at g2;split at g2
  ·rename_i cap hcap;cases g2;obtain⟨Bs,b1,b2,b3⟩:=a6V hcap;subst b1;have hmem:∀x∈roS cs,x∈L':=λx hx=>aJZ (is:=is) aj;obtain⟨hcall,hrun⟩:=hc ⟨_,hS⟩ b2 (bHF hS hmem ho.1 b3) hfo;have join:∀{az:List SV} {us:List Value} {b:SV} {v:Value},aT (fH []) az=some us->fH [] b=some v->aT (fH []) (az++[b])=some (us++[v]):=by
    intro az;induction az with
    |nil=>grind[aT]
    |cons a az ih=>
     intro us b v h hb;simp only[aT] at h;split at h
     ·cases h
     ·rename_i u hu;split at h
      ·cases h
      ·rename_i us' hus;cases h;simp[aT,hu,ih hus hb]
   have h5:=hrun (us++[.func (.func g) #[] (RC Bs).toArray]) (join (aCF ho.2 g1) (by simp[fH,gV,bK,Value.oneCell'])) (aNO w);have h6:=RB (w:=w) hcall ho' h4 h2;unfold Oper.wp;rw[h6 _ a hA.env,Oper.upon_enter];refine Calls.mono h5 λen w' ⟨v,hv,y,e1,e2⟩=>?_;subst hv;rw[hd];have g3:=wE (V8 (.mk P T hT n c B0 N X Q) cf1++B) e1;exact hnext () _ _ ⟨[],aj,by simpa using hA.of aj (hA.env.put (by grind[qS,wD]) v),by simpa using hS.after (L2:=[]) rfl e2⟩
  ·cases g2
theorem HS.u1{iR:aN O}{C:DO O}{sr:β->SV}{cap:List Value}{p:O->Option β}(h:HS c w L)(H:WA P c C sr g cap p):WA P (dZ w) C sr g cap p:=by obtain⟨B,hS⟩:=h.ex;exact⟨H.1,λw1 hk=>H.2 w1 (hS.a6S.trans hk λ_ _ _ h=>h.elim)⟩
theorem HS.u2{α':Type}{iR:aN O}{iR':aN α'}{C:DO O}{C':DO α'}{sr:β->SV}{cap:List Value}{p:O->α'->Option β}(h:HS c w L)(H:Fu2 P c C C' sr g cap p):Fu2 P (dZ w) C C' sr g cap p:=by obtain⟨B,hS⟩:=h.ex;exact⟨H.1,λw1 hk=>H.2 w1 (hS.a6S.trans hk λ_ _ _ h=>h.elim)⟩
theorem bM6{fo:Option O}{kf:O->Option β}{q:β}{f:FuncId}{sv:O->SV}{c1:List SV}(is:List Nat)(hs:jK T n K cf m e L=.callp o (some d) f xs cf1 cf2 K' m' e' L')(hk:kl L' is=[.ro n1 c1])(ho:(aTG [(n1,c1)] && okA xs.dropLast)=true)(hx:xs=xs.dropLast++[.f g [n1]])
  (hc:∀{w},HS c w L'->∀{b1:Nat×Nat},(∀w1,eK F0 w w1->lJ (dZ w1) w1 [b1] [.ro 0 c1])->∀{x},fo=some x->Fn0 P f (dZ w) (xs.dropLast++[.k (.func (.func g) #[] (RC [b1]).toArray)]) sv x) (hF:fo.bind kf=some q)
  (k:∀x,fo=some x->kf x=some q->G (.mk P T hT n c B0 N X Q) K' m' ((d,sv x)::e') L' cf2):G (.mk P T hT n c B0 N X Q) K m e L cf:=
 clc (xs0:=[]) is [(n1,c1)] hs hk ho hx (λh Bs hl hB=>match Bs,hl,hB with|[_],_,hB=>hc h hB) hF k
end
section
variable {P:Program} {T:TT} {hT:D6 P T} {n:Nat} {c:Ctx} {B0:Bl} {N:Act->World->Prop} {X:Nat->Act->World->Prop} {Q:Act->World->Prop} {K K':List Fr} {m m':Nat} {e e':SE} {L L':List Ch} {cf cf1 cf2:sW} {o:Oper} {Lv:List Ch} {d:Nat}
variable {x y z:Operand} {t t2:TypeId} {k k2:IntKind} {i j:Int} {O β:Type} {A:Option β} {q:β}
theorem bHH(hs:opS (jK T n K cf m e L)=some (o,Lv,cf1,cf2,K',m',e',L'))(ho:(o.op,o.dst)=(.call {callee:=.builtin .min,args:=#[x,y],argTypes:=#[t,t2]},some d))(hx:(iG e' x).bind rI=some (.i64,i))(hy:(iG e' y).bind rI=some (k,j))
  (kk:G (.mk P T hT n c B0 N X Q) K' m' ((d,.i .i64 (if j<i then j else i))::e') L' cf2):G (.mk P T hT n c B0 N X Q) K m e L cf:=pu hs (bZ Prod.snd ho) (λB a w hA _=>⟨_,rfl,bGU (bZ Prod.fst ho) (wT hA hx) (wT hA hy)⟩) kk
theorem bKB(hs:opS (jK T n K cf m e L)=some (o,Lv,cf1,cf2,K',m',e',L'))(ho:(o.op,o.dst)=(.call {callee:=.builtin .max,args:=#[x,y],argTypes:=#[t,t2]},some d))(hx:(iG e' x).bind rI=some (.i64,i))(hy:(iG e' y).bind rI=some (k,j))
  (kk:G (.mk P T hT n c B0 N X Q) K' m' ((d,.i .i64 (if i<j then j else i))::e') L' cf2):G (.mk P T hT n c B0 N X Q) K m e L cf:=pu hs (bZ Prod.snd ho) (λB a w hA _=>⟨_,rfl,bGV (bZ Prod.fst ho) (wT hA hx) (wT hA hy)⟩) kk
section
variable {l:List UInt8} {b1:Bool} {n1:Nat} {z1:List SV}
theorem bKC(ht:wW T t=some ⟨.s,b1,n1,z1⟩)(hT:D6 P T):P.underlying t=some .string:=by obtain⟨dd,hd1,hd2⟩:=hT.und _ _ ht;grind
theorem qsi{kf:UInt8->Option β}(hs:opS (jK T n K cf m e L)=some (o,Lv,cf1,cf2,K',m',e',L'))(ho:(o.op,o.dst)=(.index t x y,some d))(ht:wW T t=some ⟨.s,b1,n1,z1⟩)(hx:iG e' x=some (.s l))(hy:(iG e' y).bind rI=some (k,i))(hF:(idx l i).bind kf=some q)
  (kk:∀u,idx l i=some u->kf u=some q->G (.mk P T hT n c B0 N X Q) K' m' ((d,.y u)::e') L' cf2):G (.mk P T hT n c B0 N X Q) K m e L cf:=by
 cases hi:idx l i with
 |none=>grind
 |some u=>
  rw[hi] at hF;exact pu hs (bZ Prod.snd ho) (λB a w hA _=>⟨_,rfl,bBT (bKC ht hT) hi (bZ Prod.fst ho) (bHE hA hx) (wT hA hy)⟩) (kk u hi hF)
end
section
variable [aN O] {s:AC} {l:List O} {el:TypeId} {b1 b2:Bool} {n1 sz:Nat} {z1 z2:List SV} {kt:TK}
theorem hdB{a:Act}(hA:gQ n B e a){ln:Nat}(h:iG e x=some (.h s ln)):ev (vE B e) x=some (s.v ln):=by obtain⟨v,h1,h2⟩:=eF hA h;cases h1;exact h2
theorem D3(ht:wW T t=some ⟨.sl el,b1,n1,z1⟩)(hT:D6 P T):P.underlying t=some (.slice el):=by obtain⟨dd,hd1,hd2⟩:=hT.und _ _ ht;grind
theorem qsb{a b:Nat}(h1:bL c s l)(hb:a<=b/\b<=l.length)(hs:opS (jK T n K cf m e L)=some (o,Lv,cf1,cf2,K',m',e',L'))(hd:o.dst=some d)(hr:∀B act w,gQ n B e' act->aN.rd c.S0 w [s.v l.length] l->eW P o (vE B e') w (iV (aN.n O) a b (s.v l.length)) w)
  (kk:∀s',bL c s' ((l.take b).drop a)->G (.mk P T hT n c B0 N X Q) K' m' ((d,.h s' ((l.take b).drop a).length)::e') L' cf2):G (.mk P T hT n c B0 N X Q) K m e L cf:=by have h2:=aWQ (n:=aN.n O) (a:=a) (b:=b) rfl h1 hb.1 hb.2;obtain⟨ad,cp,e1,_⟩:=aJS h2;rw[e1] at h2;exact pu hs hd (λB act w hA hS=>⟨_,by grind[fH,gV,bK],hr B act w hA (aQX hS (f:=fRd [s.v l.length] l) h1)⟩) (kk ⟨ad,cp⟩ h2)
theorem aW3(hs:opS (jK T n K cf m e L)=some (o,Lv,cf1,cf2,K',m',e',L'))(ho:(o.op,o.dst)=(.slice t x (some y) (some z) none,some d))(ht:wW T t=some ⟨.sl el,b1,n1,z1⟩)(he:wW T el=some ⟨kt,b2,sz,z2⟩)(hn:aN.n O=sz)(h1:bL c s l)(hx:iG e' x=some (.h s l.length))(hy:(iG e' y).bind rI=some (k,i))(hz:(iG e' z).bind rI=some (k2,j))(hF:need (0<=i/\i<=j/\j<=(l.length:Int)) A=some q)
  (kk:A=some q->∀s',bL c s' ((l.take j.toNat).drop i.toNat)->G (.mk P T hT n c B0 N X Q) K' m' ((d,.h s' ((l.take j.toNat).drop i.toNat).length)::e') L' cf2):G (.mk P T hT n c B0 N X Q) K m e L cf:=by have hb:=(lZ hF).1;subst hn;exact qsb h1 aa hs (bZ Prod.snd ho) (λB act w hA h=>a2K h rfl (D3 ht hT) (hT.size _ _ he) hb (bZ Prod.fst ho) (hdB hA hx) (wT hA hy) (wT hA hz)) (kk (lZ hF).2)
theorem a6W(hs:opS (jK T n K cf m e L)=some (o,Lv,cf1,cf2,K',m',e',L'))(ho:(o.op,o.dst)=(.slice t x none (some z) none,some d))(ht:wW T t=some ⟨.sl el,b1,n1,z1⟩)(he:wW T el=some ⟨kt,b2,sz,z2⟩)(hn:aN.n O=sz)(h1:bL c s l)(hx:iG e' x=some (.h s l.length))(hz:(iG e' z).bind rI=some (k2,j))(hF:need (0<=j/\j<=(l.length:Int)) A=some q)
  (kk:A=some q->∀s',bL c s' ((l.take j.toNat).drop 0)->G (.mk P T hT n c B0 N X Q) K' m' ((d,.h s' ((l.take j.toNat).drop 0).length)::e') L' cf2):G (.mk P T hT n c B0 N X Q) K m e L cf:=by have hb:=(lZ hF).1;subst hn;exact qsb h1 aa hs (bZ Prod.snd ho) (λB act w hA h=>a5R h rfl (D3 ht hT) (hT.size _ _ he) hb (bZ Prod.fst ho) (hdB hA hx) (wT hA hz)) (kk (lZ hF).2)
end
section
variable {zv:Value} {n1 m1:Nat} {el:TypeId}
theorem a6X(h:aT (fH []) xs=some vs):aT (fH B) xs=some vs:=eQ (λx v h=>by simpa using wE (B:=[]) B h) h
theorem qba{ps:Array (Nat×Operand)}{cells:List Value}(cs:List SV)(hz:∀w,(zeroValue t).run P w=.ok zv w)(hu:P.underlying t=some (.array n1 el))(hp:∀w,(sizeOf el).run P w=.ok m1 w)(hs:opS (jK T n K cf m e L)=some (o,Lv,cf1,cf2,K',m',e',L'))(ho:(o.op,o.dst)=(.build t ps,some d))(hv:aT (iG e') (ps.toList.map (·.2))=some xs)(hvs:aT (fH []) xs=some vs)(hcs:aT (bK []) cs=some cells)(hc:Instr.fill (λi=>some (i*m1,m1)) zv.cells ((ps.toList.map (·.1)).zip vs)=some cells.toArray)
  (kk:G (.mk P T hT n c B0 N X Q) K' m' ((d,.g cs)::e') L' cf2):G (.mk P T hT n c B0 N X Q) K m e L cf:=
 pu hs (bZ Prod.snd ho) (λB a w hA _=>⟨.agg cells.toArray,by
  simp only[fH,gV];rw[eQ (g:=bK B) (λx v h=>by simpa using fW (B:=[]) B h) hcs],by
  obtain⟨us,h1,h2⟩:=ZW hA hv;rw[a6X hvs] at h1;cases h1;exact a2L (ps:=ps.toList) (by simp_all) hz hu hp h2 hc⟩) kk
theorem qai{γ:Type}(f:γ->Value)(g:γ->SV){l:List γ}{cs:List SV}{kf:γ->Option β}(hu:P.underlying t=some (.array n1 el))(hz:∀w,(sizeOf el).run P w=.ok 1 w)(hg:∀w,(isAgg el).run P w=.ok false w)(hgf:∀u,fH [] (g u)=some (f u))(hs:opS (jK T n K cf m e L)=some (o,Lv,cf1,cf2,K',m',e',L'))(ho:(o.op,o.dst)=(.index t x y,some d))(hx:iG e' x=some (.g cs))(hcs:aT (bK []) cs=some (l.map f))(hn:l.length=n1)(hy:(iG e' y).bind rI=some (k,i))(hF:(idx l i).bind kf=some q)
  (kk:∀u,idx l i=some u->kf u=some q->G (.mk P T hT n c B0 N X Q) K' m' ((d,g u)::e') L' cf2):G (.mk P T hT n c B0 N X Q) K m e L cf:=by
 cases hi:idx l i with
 |none=>grind
 |some u=>
  rw[hi] at hF;refine pu hs (bZ Prod.snd ho) (λB a w hA _=>⟨f u,by simpa using wE (B:=[]) B (hgf u),?_⟩) (kk u hi hF);obtain⟨v,h1,h2⟩:=eF hA hx;simp only[fH,gV] at h1;rw[eQ (g:=bK B) (λx v h=>by simpa using fW (B:=[]) B h) hcs] at h1;cases h1;exact bGX f hu hz hg hi hn rfl (bZ Prod.fst ho) h2 (wT hA hy)
end
end
section
variable {P:Program} {T:TT} {hT:D6 P T} {n:Nat} {c:Ctx} {B0:Bl} {N:Act->World->Prop} {X:Nat->Act->World->Prop} {Q:Act->World->Prop} {K K':List Fr} {m m':Nat} {e e':SE} {L L':List Ch} {cf cf1 cf2:sW} {o:Oper} {Lv:List Ch} {d:Nat}
theorem chg{g:Gx}{ι:Type}(m2:ι->Nat)(e2:ι->SE)(L2:ι->List Ch)(h:∀B a w,B.length=m->gQ g.n B e a->lJ g.c w B L->∃i B',(B++B').length=m2 i/\gQ g.n (B++B') (e2 i) a/\lJ g.c w (B++B') (L2 i))
  (hz:∀i,Frz g cf L (L2 i)) (k:∀i,G g K (m2 i) (e2 i) (L2 i) cf):G g K m e L cf:=by
 have key:∀a w,Rel g m e L a w->∃i,Rel g (m2 i) (e2 i) (L2 i) a w:=λa w ⟨B,h1,h2,h3⟩=>by obtain⟨i,B',k1,k2,k3⟩:=h _ a w h1 h2 h3;exact⟨i,B++B',aj,aj,aj⟩
 cases cf with
 |n=>exact λa w hr=>let ⟨i,hi⟩:=key a w hr;k i a w hi
 |c x=>exact λa w hr=>let ⟨i,hi⟩:=key a w hr;k i a w hi
 |r ops l=>exact λa w hr=>let ⟨i,hi⟩:=key a w hr;k i a w hi
 |d B1 ops l is Lf Lv=>
  refine λhD a w ⟨B,h1,h2,h3,h4⟩=>?_;obtain⟨i,B',k1,k2,k3⟩:=h _ a w h1 h2 h3;obtain⟨z1,z2⟩:=hz i hD;exact k i ⟨hD.pre,hD.len,hD.free,z1,z2,hD.okf,hD.ap⟩ a w ⟨B++B',aj,aj,aj,λw' hw=>by
   have:=(h4 w' hw).app B';grind⟩
 |o B1 ops l is Lf Lv ii=>
  refine λhD a w ⟨B,h1,h2,h3,h4⟩=>?_;obtain⟨i,B',k1,k2,k3⟩:=h _ a w h1 h2 h3;obtain⟨z1,z2⟩:=hz i hD;exact k i ⟨hD.pre,hD.len,hD.free,z1,z2,hD.okf,hD.ap⟩ a w ⟨B++B',aj,aj,aj,λw' hw=>by
   have:=(h4 w' hw).app B';grind⟩
theorem mks[aN O]{y:Operand}{zv:Value}{A:Option β}{q:β}(zd:O)(hinf:SJ P el sz zv)(hzd:∀w,aN.own w zv.cells.toList zd F0)(q0_:jK T n K cf m e L=.op o Lv cf1 cf2 K' m' e' L'/\(o.op,o.dst)=(.makeSlice t x y,some d)/\wW T t=some ⟨.sl el,b1,n1,z1⟩/\aN.n O=sz/\zv.cells.size=sz/\(iG e' x).bind rI=some (.i64,i)/\(iG e' y).bind rI=some (.i64,i))(hF:need (0<=i/\i<=4294967296) A=some q)
  (k:A=some q->∀s':AC,G (.mk P T hT n c B0 N X Q) K' m' ((d,.h s' (List.replicate i.toNat zd).length)::e') (L'++[ow s' (List.replicate i.toNat zd)]) cf2):G (.mk P T hT n c B0 N X Q) K m e L cf:=by
 obtain⟨hs,ho,ht,hn,hzs,hx,hy⟩:=q0_;refine gO (g:=.mk P T hT n c B0 N X Q) ?_;rw[hs];intro hdn _ hE;refine hE AC (λ_=>m') (λs'=>(d,.h s' (List.replicate i.toNat zd).length)::e') (λs'=>L'++[ow s' (List.replicate i.toNat zd)]) (λ_=>sZ _) (λB a w next Q' hm hA hS hnext=>?_) (k (lZ hF).2);obtain⟨⟨R,s1,s2⟩,s0⟩:=hS;have hd:o.dst=some d:=bZ Prod.snd ho;obtain⟨v,w',k1,k2⟩:=a5O zd s1 hn (D3 ht hT) hinf hzs hzd (lZ hF).1 (bZ Prod.fst ho) (wT hA hx) (wT hA hy);have hrd:∃s':AC,v=s'.v (List.replicate i.toNat zd).length:=by have h1:=k2.aY8 (cs:=[v]) (d:=List.replicate i.toNat zd) (L'.map (kS (V8 (.mk P T hT n c B0 N X Q) cf1++B))).length ae;obtain⟨ad,cp,h2,_⟩:=aJS h1;exact⟨⟨ad,cp⟩,h2⟩
 obtain⟨s',rfl⟩:=hrd;unfold Oper.wp;rw[k1 _ a hA.env,Oper.upon_value,hd];refine hnext s' _ _ ⟨[],aj,by simpa using hA.of (by simp[fH,gV,bK]) (hA.env.put (by grind[qS,wD]) _),⟨⟨R,by grind[kS],λx hx=>?_⟩,λb o hb=>HB (s0 b o hb) (iZ _)⟩⟩;rcases cY.1 hx with hx|hx
 ·grind
 ·simp at hx;subst hx;exact trivial
end
def sW.wY:sW->List Nat
 |.d _ _ _ is _ _=>is
 |.o _ _ _ is _ _ _=>is
 |_=>[]
variable{cf:sW}
theorem YV{L M:List Ch}{j:Nat}{z:Ch}:∀{is:List Nat},(∀i∈is,i<L.length)->fP j is=true->kl (L.set j z++M) is=kl L is
 |[],_,_=>rfl
 |i::is,h,hn=>by
  have hi:=h i ae;have h1:=aJ3 hn;have hne:j≠i:=λhe=>h1 (by simp[he]);have h2:(L.set j z++M)[i]?=L[i]?:=aj
  have h3:fP j is=true:=by grind[fP]
  simp only[kl,h2,YV (λi hi=>h i (lH _ hi)) h3]
theorem aZ2{L M:List Ch}:∀{is:List Nat},(∀i∈is,i<L.length)->kl (L++M) is=kl L is
 |[],_=>rfl
 |i::is,h=>by simp only[kl,List.getElem?_append_left (h i ae),aZ2 (M:=M) (λi hi=>h i (lH _ hi))]
theorem aQZ{g:Gx}(hn:fP j cf.wY=true):Frz g cf L (L.set j z++M):=by
 cases cf with
 |d B1 ops l is Lf Lv=>
  exact λhD=>⟨(YV hD.rng hn).trans hD.wY,λi hi=>by have:=hD.rng i hi;simp;omega⟩
 |o B1 ops l is Lf Lv i=>
  exact λhD=>⟨(YV hD.rng hn).trans hD.wY,λi hi=>by have:=hD.rng i hi;simp;omega⟩
 |_=>trivial
theorem aTI(h:St c w A R):St c w (A++[J1]) R:=by obtain⟨F,S,h1,rest⟩:=h.sep;exact⟨h.keep,⟨F,S,Sep.append.2 ⟨F,F0,h1,Sep.one.2 (λ_ _ h=>h),λ_ _ _ h=>h,λb o=>by simp[F0]⟩,rest⟩,h.apart⟩
structure CO (O:Type) [aN O] where
 ex:Type
 cs:O->ex->List SV
 Lx:O->ex->List Ch
 op:∀{w F ec q},aN.own w ec q F->∃y,aT (bK []) (cs q y)=some ec
 pk:∀{q y ec},aT (bK []) (cs q y)=some ec->OP ec q ((Lx q y).map (kS []))
 no:∀q y,noF (Lx q y)=true
 nb:∀q y B,(Lx q y).map (kS B)=(Lx q y).map (kS [])
section
variable {P:Program} {T:TT} {hT:D6 P T} {n:Nat} {c:Ctx} {B0:Bl} {N:Act->World->Prop} {X:Nat->Act->World->Prop} {Q:Act->World->Prop} {K K':List Fr} {m m':Nat} {e e':SE} {L L':List Ch} {cf cf1 cf2:sW} {o:Oper} {Lv:List Ch} {d:Nat}
theorem bM8{g:Gx}{ι:Type}(m2:ι->Nat)(e2:ι->SE)(L2:ι->List Ch)(Ln:ι->List Ch)(h:∀B a w,B.length=m->gQ g.n B e a->lJ g.c w B L->∃i B',(B++B').length=m2 i/\gQ g.n (B++B') (e2 i) a/\lJ g.c w (B++B') (L2 i)/\∀w' M,lJ g.c w' B M->lJ g.c w' (B++B') (M++Ln i))
  (hz:∀i,Frz g cf L (L2 i)) (k:∀i,G g K (m2 i) (e2 i) (L2 i) (cf.ext (Ln i))):G g K m e L cf:=by
 have key:∀a w,Rel g m e L a w->∃i,Rel g (m2 i) (e2 i) (L2 i) a w:=λa w ⟨B,h1,h2,h3⟩=>by obtain⟨i,B',k1,k2,k3,_⟩:=h _ a w h1 h2 h3;exact⟨i,B++B',aj,aj,aj⟩
 cases cf with
 |n=>exact λa w hr=>let ⟨i,hi⟩:=key a w hr;k i a w hi
 |c x=>exact λa w hr=>let ⟨i,hi⟩:=key a w hr;k i a w hi
 |r ops l=>exact λa w hr=>let ⟨i,hi⟩:=key a w hr;k i a w hi
 |d B1 ops l is Lf Lv=>
  refine λhD a w ⟨B,h1,h2,h3,h4⟩=>?_;obtain⟨i,B',k1,k2,k3,k4⟩:=h _ a w h1 h2 h3;obtain⟨z1,z2⟩:=hz i hD;exact k i ⟨hD.pre,hD.len,hD.free,z1,z2,hD.okf,hD.ap⟩ a w ⟨B++B',aj,aj,aj,λw' hw=>by
   grind⟩
 |o B1 ops l is Lf Lv ii=>
  refine λhD a w ⟨B,h1,h2,h3,h4⟩=>?_;obtain⟨i,B',k1,k2,k3,k4⟩:=h _ a w h1 h2 h3;obtain⟨z1,z2⟩:=hz i hD;exact k i ⟨hD.pre,hD.len,hD.free,z1,z2,hD.okf,hD.ap⟩ a w ⟨B++B',aj,aj,aj,λw' hw=>by
   grind⟩
abbrev Shp(s:AC)(len:Nat):Prop:=∃b off m,s.v len=.slice (some ⟨b,off,none⟩) len m/\len<=maxLen
abbrev wOf(O:Type)[aN O](nb:Nat)(s:AC)(len i:Nat):Ch:=.w nb (VJ (s.v len)) (UL (aN.n O) i (s.v len))
theorem oe[aN O](E:CO O)(j:Nat){t:TypeId}{s:AC}{ls:List O}{kf:O->Option β}{q:β}(hs:jK T n K cf m e L=.idx o d t s ls.length i Lv cf1 cf2 K' m' e' L')(hj:L'[j]?=some (ow s ls))(hz:fP j cf1.wY=true)(hF:(idx ls i).bind kf=some q)
  (k:∀x,idx ls i=some x->kf x=some q->∀y:E.ex,Shp s ls.length->G (.mk P T hT n c B0 N X Q) K' (m'+1) e' (L'.set j .no++([.o (sM (s.v ls.length) ls i.toNat),.box m' (E.cs x y),wOf O m' s ls.length i.toNat]++E.Lx x y)) (cf1.ext [wOf O m' s ls.length i.toNat])):G (.mk P T hT n c B0 N X Q) K m e L cf:=by
 refine gO (g:=.mk P T hT n c B0 N X Q) ?_;rw[hs];intro x' y' ho hd hx hy hP;cases hi:idx ls i with
 |none=>grind
 |some x=>
  rw[hi] at hF;refine bM8 (λ_=>m'+1) (λ_=>e') (λy:{y:E.ex // Shp s ls.length}=>L'.set j .no++([.o (sM (s.v ls.length) ls i.toNat),.box m' (E.cs x y.1),wOf O m' s ls.length i.toNat]++E.Lx x y.1)) (λ_=>[wOf O m' s ls.length i.toNat]) (λB a w hm hA hS=>?_) (λy=>aQZ hz) (λy=>k x hi hF y.1 y.2);obtain⟨⟨R,s1,s2⟩,s0⟩:=hS;have hj2:(L'.map (kS B))[j]?=some (eU [s.v ls.length] ls):=by simp[hj,kS]
  obtain⟨ec,h1⟩:=s1.open j hj2 (AW hi).2.2;have hlen:((L'.map (kS B)).set j J1).length=L'.length:=ae
  have hsh:Shp s ls.length:=bBQ (k:=i.toNat) h1 L'.length ae;obtain⟨F,hF'⟩:=h1.chunk (L'.length+2) (by rw[aOY aa];simp;rfl);obtain⟨y,hy2⟩:=E.op (show aN.own w ec x F from hF');have h2:=h1.unpack (L'.length+2) ae (E.pk hy2);have hset:((L'.map (kS B)).set j J1++[sM (s.v ls.length) ls i.toNat,VY (VJ (s.v ls.length)) (UL (aN.n O) i.toNat (s.v ls.length)) ec,eU ec x]).set (L'.length+2) J1=(L'.map (kS B)).set j J1++[sM (s.v ls.length) ls i.toNat,VY (VJ (s.v ls.length)) (UL (aN.n O) i.toNat (s.v ls.length)) ec,J1]:=ae
  rw[hset] at h2;refine⟨⟨y,hsh⟩,[(VJ (s.v ls.length),UL (aN.n O) i.toNat (s.v ls.length))],by simp[hm],hA.app _,⟨⟨R,?_,λz hz=>?_⟩,s0⟩,λw' M hM=>?_⟩
  ·have e1:(L'.set j Ch.no).map (kS B)=(L'.map (kS B)).set j J1:=by rw[KT];rfl
   refine h2.imp ?_;rw[m7,m7,<-e1,nL];refine jT.append (YR _ _) (jT.append (.cons (λ_ h=>h) (.cons (λF h=>⟨_,_,ec,aj,eQ (λx v h=>by simpa using fW (B:=[]) _ h) hy2,h⟩) (.cons (λ_ h=>h) .nil))) ?_);have:=YR (B:=[]) (B++[(VJ (s.v ls.length),UL (aN.n O) i.toNat (s.v ls.length))]) (w:=w) (E.Lx x y);grind
  ·rcases cY.1 hz with hz|hz
   ·rcases rG hz with hz|hz
    ·grind[aQR]
    ·subst hz;trivial
   ·rcases cY.1 hz with hz|hz
    ·simp at hz;rcases hz with rfl|rfl|rfl
     ·trivial
     ·trivial
     ·show(B++_)[m']?=_;grind
    ·exact aJ6 (E.no x y) z hz
  ·obtain⟨⟨R',t1,t2⟩,t0⟩:=hM.app [(VJ (s.v ls.length),UL (aN.n O) i.toNat (s.v ls.length))];refine⟨⟨R',by grind[kS,aTI],λz hz=>?_⟩,t0⟩;rcases cY.1 hz with hz|hz
   ·grind
   ·simp at hz;subst hz;show(B++_)[m']?=_;grind
theorem ie[aN O](p:Nat){s:AC}{ls:List O}{x:O}{k2:TK}(hsh:Shp s ls.length)(hs:jK T n K cf m e L=.idx o d t s ls.length i Lv cf1 cf2 K' m' e' L')(hi:idx ls i=some x)(hw:Lv[p]?=some (wOf O nb s ls.length i.toNat))(ht:wW T t=some ⟨.sl el,b1,n1,z1⟩)(he:wW T el=some ⟨k2,b2,sz,z2⟩)(hn:aN.n O=sz)
  (k:G (.mk P T hT n c B0 N X Q) K' m' ((d,.p nb 0)::e') L' cf2):G (.mk P T hT n c B0 N X Q) K m e L cf:=by refine gO (g:=.mk P T hT n c B0 N X Q) ?_;rw[hs];intro x' y' ho hd hx hy hP;subst hn;refine hP d (.p nb 0) [] (λ_=>[]) 0 hd (λ_=>rfl) (λB a w hA hS hm=>?_) (λB w L _ hS=>aj) (by grind[ext_nil]);obtain⟨v,g1,g2⟩:=eF hA hx;obtain⟨u,g3,g4⟩:=eF hA hy;cases g1;cases g3;obtain⟨⟨R,s1,s2⟩,s0⟩:=hS;have hB:B[nb]?=some (VJ (s.v ls.length),UL (aN.n O) i.toNat (s.v ls.length)):=s2 _ (D9 hw);exact⟨_,by simp[fH,gV,bK,hB],bBR (P:=P) (o:=o) (w:=w) hsh rfl hi (D3 ht hT) (hT.size _ _ he) ho g2 g4⟩
def G4:List Ch->List Nat->List Ch
 |L,[]=>L
 |L,i::r=>G4 (L.set i .no) r
theorem ED{B:Bl}:∀(js:List Nat) (L:List Ch),(G4 L js).map (kS B)=blank (L.map (kS B)) js
 |[],L=>rfl
 |j::js,L=>by simp only[G4,blank];rw[ED js,KT];rfl
theorem LA{x:Ch}:∀(js:List Nat) (L:List Ch),x∈G4 L js->x∈L\/x=.no
 |[],L,h=>.inl h
 |j::js,L,h=>by
  rcases LA js _ h with h|h
  ·exact rG h
  ·exact .inr h
theorem OK{g:Gx}{cf:sW}:∀(js:List Nat) {L:List Ch},(js.all λj=>fP j cf.wY)=true->Frz g cf L (G4 L js++M):=by
 intro js L hj;have main:∀{B1:Bl} {ops:Array Oper} {l:List Bool} {is:List Nat} {Lf:List Ch},(js.all λj=>fP j is)=true->aEL g B1 ops l is Lf L->kl (G4 L js++M) is=Lf/\∀j∈is,j<(G4 L js++M).length:=by
  intro B1 ops l is Lf hj hD;have key:∀(js:List Nat) (L:List Ch),(js.all λj=>fP j is)=true->(∀i∈is,i<L.length)->kl (G4 L js++M) is=kl L is/\(G4 L js).length=L.length:=by
   intro js;induction js with
   |nil=>
    intro L _ hr;exact⟨aZ2 hr,rfl⟩
   |cons j js ih=>
    intro L hj hr;simp only[V2,uG] at hj;obtain⟨h1,h2⟩:=ih (L.set j .no) hj.2 (λi hi=>aj);refine⟨h1.trans ?_,by grind[G4]⟩;have:=YV (M:=[]) (z:=.no) hr hj.1;grind
  obtain⟨k1,k2⟩:=key js L hj hD.rng;exact⟨k1.trans hD.wY,λi hi=>by have:=hD.rng i hi;grind⟩
 cases cf with
 |d B1 ops l is Lf Lv=>exact λhD=>main hj hD
 |o B1 ops l is Lf Lv i=>exact λhD=>main hj hD
 |_=>trivial
def ovh(v:SV)(e:SE):List Nat->SE
 |[]=>e
 |k::ks=>(k,v)::ovh v e ks
theorem aQ0{v:SV}{a:Act}:∀(ks:List Nat),aT (CV e) ks=some (ks.map λ_=>v)->gQ n B e a->gQ n B (ovh v e ks) a:=by
 intro ks;have key:∀(ks:List Nat),aT (CV e) ks=some (ks.map λ_=>v)->∀k∈ks,CV e k=some v:=by
  intro ks;induction ks with
  |nil=>simp
  |cons s ks ih=>
   grind[aT]
 intro hs hA;have hk:=key ks hs;clear hs key;have lk2:∀k x,CV (ovh v e ks) k=some x->CV e k=some x:=by
  induction ks with
  |nil=>exact λk x h=>h
  |cons j ks ih=>
   grind[ovh,CV,nM]
 exact⟨hA.d,hA.size,λk x h=>hA.get k x (lk2 k x h)⟩
theorem LB{B:Bl}:∀{is:List Nat} {M:List Ch},aT (λi=>L[i]?) is=some M->pick (L.map (kS B)) is=M.map (kS B)
 |[],M,h=>by cases h;rfl
 |i::is,M,h=>by
  simp only[aT] at h;split at h
  ·cases h
  ·rename_i h1;split at h
   ·cases h
   ·rename_i h2;cases h;simp only[pick,AS,h1,Option.map_some,aF3,LB h2,AT]
theorem a6Y[aN O](E:CO O)(h b v:Nat)(is ks:List Nat){s:AC}{l:List O}(x:O)(y:E.ex)(hs:L[h]?=some (.o (sM (s.v l.length) l k)))(hb:L[b]?=some (.box nb cs0))(hv:L[v]?=some (wOf O nb s l.length k))(hi:aT (λi=>L[i]?) is=some (E.Lx x y))(hc:nbL cs0=E.cs x y)(hec:aT (bK []) (E.cs x y)=some ec)(ha:dE (h::b::is)=true)(hk:aT (CV e) ks=some (ks.map λ_=>.h s l.length)){a:Act}(hA:gQ n B e a)(hS:lJ c w B L) :
  gQ n B (ovh (.h s (l.set k x).length) e ks) a/\lJ c w B (G4 L (h::b::is)++[ow s (l.set k x)]):=by
 have hlen:(l.set k x).length=l.length:=cR;unfold ow;rw[hlen];refine⟨aQ0 ks hk hA,?_⟩;obtain⟨⟨R,s1,s2⟩,s0⟩:=hS;have hB:B[nb]?=some (VJ (s.v l.length),UL (aN.n O) k (s.v l.length)):=s2 _ (D9 hv);refine⟨⟨R,?_,λz hz=>?_⟩,s0⟩
 ·rw[m7,ED];refine s1.shift (h::b::is) ha λF hF=>?_;simp only[pick,AS,hs,hb,Option.map_some,aF3,LB hi,E.nb] at hF;have hE:aT (bK B) cs0=some ec:=by rw[<-K9,hc];exact eQ (λx v h=>by simpa using fW (B:=[]) B h) hec
  have h2:Sep w ([sM (s.v l.length) l k,VY (VJ (s.v l.length)) (UL (aN.n O) k (s.v l.length)) ec]++(E.Lx x y).map (kS [])) F:=by refine Sep.imp (.cons (λ_ h=>h) (.cons (λF h=>?_) (jT.refl _))) hF;obtain⟨bb,z,vs,k1,k2,k3⟩:=h;grind
  obtain⟨F1,F2,g1,g2,gd,gF⟩:=Sep.append.1 h2;have h3:Sep w ([sM (s.v l.length) l k,VY (VJ (s.v l.length)) (UL (aN.n O) k (s.v l.length)) ec]++[eU ec x]) F:=Sep.append.2 ⟨F1,F2,g1,Sep.one.2 ((E.pk hec w F2).2 g2),gd,gF⟩;exact Sep.one.2 (a2I h3)
 ·rcases cY.1 hz with hz|hz
  ·rcases LA _ _ hz with hz|hz
   ·grind
   ·subst hz;trivial
  ·simp at hz;subst hz;trivial
theorem ce[aN O](E:CO O)(h b v:Nat)(is ks:List Nat){s:AC}{l:List O}(x:O)(y:E.ex)(hs:L[h]?=some (.o (sM (s.v l.length) l k)))(hb:L[b]?=some (.box nb cs0))(hv:L[v]?=some (wOf O nb s l.length k))(hi:aT (λi=>L[i]?) is=some (E.Lx x y))(hc:nbL cs0=E.cs x y)(hec:aT (bK []) (E.cs x y)=some ec)(ha:dE (h::b::is)=true)(hz:((h::b::is).all λj=>fP j cf.wY)=true)(hk:aT (CV e) ks=some (ks.map λ_=>.h s l.length))
  (kk:G (.mk P T hT n c B0 N X Q) K m (ovh (.h s (l.set k x).length) e ks) (G4 L (h::b::is)++[ow s (l.set k x)]) cf):G (.mk P T hT n c B0 N X Q) K m e L cf:=by refine chg (λ_:Unit=>m) (λ_=>ovh (.h s (l.set k x).length) e ks) (λ_=>G4 L (h::b::is)++[ow s (l.set k x)]) (λB a w hm hA hS=>?_) (λ_=>OK _ hz) (λ_=>kk);obtain⟨h1,h2⟩:=a6Y E h b v is ks x y hs hb hv hi hc hec ha hk hA hS;simp_all
end
section
variable {P:Program} {T:TT} {hT:D6 P T} {n:Nat} {c:Ctx} {B0:Bl} {N:Act->World->Prop} {X:Nat->Act->World->Prop} {Q:Act->World->Prop} {K K':List Fr} {m m':Nat} {e e':SE} {L L':List Ch} {cf cf':sW}
theorem ceS[aN O](E:CO O)(h:Nat)(is ks:List Nat){s:AC}{l:List O}(x:O)(y:E.ex)(h0:SM (jK T n K cf m e L)=some (K',cf',m',e',L'))(hs:L'[h]?=some (.o (sM (s.v l.length) l k)))(hb:L'[h+1]?=some (.box nb cs0))(hv:L'[h+2]?=some (wOf O nb s l.length k))(hi:aT (λi=>L'[i]?) is=some (E.Lx x y))(hc:nbL cs0=E.cs x y)(hec:aT (bK []) (E.cs x y)=some ec)(ha:dE (h::(h+1)::is)=true)(hz:((h::(h+1)::is).all λj=>fP j cf'.wY)=true)(hk:aT (CV e') ks=some (ks.map λ_=>.h s l.length))
  (kk:G (.mk P T hT n c B0 N X Q) K' m' (ovh (.h s (l.set k x).length) e' ks) (G4 L' (h::(h+1)::is)++[ow s (l.set k x)]) cf'):G (.mk P T hT n c B0 N X Q) K m e L cf:=gO (g:=.mk P T hT n c B0 N X Q) (aIK h0 (ce E h (h+1) (h+2) is ks x y hs hb hv hi hc hec ha hz hk kk))
theorem sF(hs:jK T n K cf m e L=.fin m' e' L')(h:∀a w,pA n c B0 m' e' L' a w->N a w):G (.mk P T hT n c B0 N X Q) K m e L cf:=gO (g:=.mk P T hT n c B0 N X Q) (by rw[hs];exact h)
theorem sX(hs:jK T n K cf m e L=.ex id m' e' L')(h:∀a w,pA n c B0 m' e' L' a w->X id a w):G (.mk P T hT n c B0 N X Q) K m e L cf:=gO (g:=.mk P T hT n c B0 N X Q) (by rw[hs];exact h)
theorem sR(hs:jK T n K cf m e L=.ret m' e' L')(h:∀a w,pA n c B0 m' e' L' a w->Q a w):G (.mk P T hT n c B0 N X Q) K m e L cf:=gO (g:=.mk P T hT n c B0 N X Q) (by rw[hs];exact h)
theorem nxR{o:Step σ ρ}{el:σ->υ->SE}{Ll:σ->υ->List Ch}{s:σ}(u:υ)(is:List Nat)(hG:some (Step.next s)=some o)(h:YQ B0.length m' e' L' is mj (el s u) (Ll s u)=some (el s u,Ll s u)):∀a w,pA n c B0 m' e' L' a w->NxP n c B0 o mj el Ll a w:=by cases hG;exact λa w hr=>⟨s,u,rfl,hr.YQ is h⟩
theorem nK{eq:π->Prop}{ej:π->υ->SE}{Lj:π->υ->List Ch}{p:π}(u:υ)(is:List Nat)(hF:eq p)(h:YQ B0.length m' e' L' is mj (ej p u) (Lj p u)=some (ej p u,Lj p u)):∀a w,pA n c B0 m' e' L' a w->JP n c B0 eq mj ej Lj a w:=λa w hr=>⟨p,u,hF,pA.YQ hr is h⟩
theorem bkR{o:Step σ ρ}{ro:ρ}{enc:β->ρ}{ej:β->υ->SE}{Lj:β->υ->List Ch}{b:β}(u:υ)(is:List Nat)(hG:some (Step.stop (enc b))=some o)(hr:∀p,o=.stop p->p=ro)(h:YQ B0.length m' e' L' is mj (ej b u) (Lj b u)=some (ej b u,Lj b u)):∀a w,pA n c B0 m' e' L' a w->BkP n c B0 ro enc mj ej Lj id X id a w:=by cases hG;have:=hr _ rfl;subst this;intro a w hr;unfold BkP;rw[aO rfl];exact⟨b,u,rfl,hr.YQ is h⟩
include hT in
theorem rtR{fn:Func}{ρ ex:Type}{sv:ρ->ex->SV}{Lf:ρ->ex->List Ch}{r r':ρ}{rs:List ResultVar}{zz:Option ρ}(y:ex)(is:List Nat)(hF:zz=some r)(q0_:zz=some r'/\fn.results=rs.toArray){x:SV}(q1_:aQQ T e' L' rs=some x/\nbS x=sv r' y/\yU B0.length (sv r' y)=true/\YQ B0.length m' e' L' is B0.length [] (Lf r' y)=some ([],Lf r' y)):∀a w,pA n c B0 m' e' L' a w->QS P fn c B0 sv Lf r a w:=by obtain⟨hz,hr⟩:=q0_;obtain⟨hv,hx,hk,hL⟩:=q1_;subst hz;cases hF;intro a w hr';obtain⟨B,hm,hA,hS⟩:=id hr';obtain⟨v,h1,h2⟩:=aIM hr hT hA hS hv;obtain⟨B',hm',_,hS'⟩:=hr'.YQ is hL;have hB':B'=[]:=(by simp_all);subst hB';refine⟨hA.d,v,h2,y,?_,aj⟩;rw[<-hx] at hk ⊢;have:=SP hk (by rw[aIG];exact h1);grind
theorem nD{Z:Act->World->Prop}[aN O](E:CO O)(h:Nat)(is ks:List Nat){s:AC}{l:List O}(x:O)(y:E.ex)(q0_:L[h]?=some (.o (sM (s.v l.length) l k))/\L[h+1]?=some (.box nb cs0)/\L[h+2]?=some (wOf O nb s l.length k)/\aT (λi=>L[i]?) is=some (E.Lx x y)/\nbL cs0=E.cs x y/\aT (bK []) (E.cs x y)=some ec/\dE (h::(h+1)::is)=true/\aT (CV e) ks=some (ks.map λ_=>.h s l.length))
  (kk:∀a w,pA n c B0 m (ovh (.h s (l.set k x).length) e ks) (G4 L (h::(h+1)::is)++[ow s (l.set k x)]) a w->Z a w):∀a w,pA n c B0 m e L a w->Z a w:=by obtain⟨hs,hb,hv,hi,hc,hec,ha,hk⟩:=q0_;intro a w ⟨B,hm,hA,hS⟩;obtain⟨h1,h2⟩:=a6Y E h (h+1) (h+2) is ks x y hs hb hv hi hc hec ha hk hA hS;exact kk a w ⟨B,hm,h1,h2⟩
end
def wAt(n:Nat):List Ch->Option (Nat×Nat)
 |[]=>none
 |.w k b z::L=>match Nat.beq n k with
  |true=>some (b,z)
  |false=>wAt n L
 |_::L=>wAt n L
theorem SR{n b z:Nat}:∀{L:List Ch},wAt n L=some (b,z)->Ch.w n b z∈L
 |[],h=>by cases h
 |x::L,h=>by
  cases x with
  |w k b' z'=>
   simp only[wAt] at h;split at h
   ·simp_all
   ·exact lH _ (SR h)
  |box k cs=>exact lH _ (SR (L:=L) h)
  |ro k cs=>exact lH _ (SR (L:=L) h)
  |o ch=>exact lH _ (SR (L:=L) h)
  |f g=>exact lH _ (SR (L:=L) h)
  |no=>exact lH _ (SR (L:=L) h)
section
variable {P:Program} {T:TT} {hT:D6 P T} {n:Nat} {c:Ctx} {B0:Bl} {N:Act->World->Prop} {X:Nat->Act->World->Prop} {Q:Act->World->Prop} {K K':List Fr} {m m':Nat} {e e':SE} {L L' Lv:List Ch} {cf cf1 cf2:sW} {o:Oper} {d:Nat}
theorem mL[aN O](nb:Nat){s:AC}{ls:List O}{x:O}{k2:TK}(hsh:Shp s ls.length)(hi:idx ls i=some x)(q0_:jK T n K cf m e L=.idx o d t s ls.length i Lv cf1 cf2 K' m' e' L'/\wAt nb Lv=some (VJ (s.v ls.length),UL (aN.n O) i.toNat (s.v ls.length))/\wW T t=some ⟨.sl el,b1,n1,z1⟩/\wW T el=some ⟨k2,b2,sz,z2⟩/\aN.n O=sz)
  (k:G (.mk P T hT n c B0 N X Q) K' m' ((d,.p nb 0)::e') L' cf2):G (.mk P T hT n c B0 N X Q) K m e L cf:=by obtain⟨hs,hw,ht,he,hn⟩:=q0_;obtain⟨p,hp⟩:=List.mem_iff_getElem?.1 (SR hw);grind[ie]
end
def DO.o{O:Type}[aN O](C:DO O)(Lx:O->C.ex->List Ch)(pk:∀{q y ec},aT (bK []) (C.cs q y)=some ec->OP ec q ((Lx q y).map (kS [])))(no:∀q y,noF (Lx q y)=true)(nb:∀q y B,(Lx q y).map (kS B)=(Lx q y).map (kS [])):CO O:=⟨C.ex,C.cs,Lx,λh=>let ⟨y,h1,_⟩:=C.ok (aN.own_rd h);⟨y,h1⟩,pk,no,nb⟩
def oI:CO Int:=cI.o (λ_ _=>[]) (λh=>by cases h;exact eC rfl) (λ_ _=>rfl) (λ_ _ _=>rfl)
def oU:CO UInt8:=cU.o (λ_ _=>[]) (λh=>by cases h;exact eC rfl) (λ_ _=>rfl) (λ_ _ _=>rfl)
theorem aAS[aN O][Flat O]{cs:List Value}{d:O}(h:aN.rd F0 default cs d)(w:World):aN.own w cs d F0:=Flat.own_of h
section
variable {P:Program} {T:TT} {hT:D6 P T} {n:Nat} {c:Ctx} {B0:Bl} {N:Act->World->Prop} {X:Nat->Act->World->Prop} {Q:Act->World->Prop} {K K':List Fr} {m m':Nat} {e e':SE} {L L':List Ch} {cf:sW}
variable {b:Bool} {O:Type} {A B':Option O} {q:Option O}
theorem csK{o:Operand}{x:Code}(ss:List Nat)(hs:jK T n K cf m e L=.cond o b x y K' m' e' L')(ho:aT (CV e') ss=some (ss.map λ_=>SV.b b))(hF:(if b=true then A else B')=q)
  (k1:b=true->A=q->G (.mk P T hT n c B0 N X Q) K' m' (ovr true e' ss) L' (.c x)) (k2:b=false->B'=q->G (.mk P T hT n c B0 N X Q) K' m' (ovr false e' ss) L' (.c y)):G (.mk P T hT n c B0 N X Q) K m e L cf:=
 gO (g:=.mk P T hT n c B0 N X Q) (by
  rw[hs];intro he a w hr;have ⟨B,hm,hA,hS⟩:=hr;obtain⟨v,h1,h2⟩:=eF hA he;cases h1;refine aIE hA.env h2 (λhc=>?_) (λhc=>?_)
  ·rw[aO hc] at hF;exact k1 hc hF a w (aIL hc ss ho hr)
  ·rw[aP aj] at hF;exact k2 hc hF a w (aIL hc ss ho hr))
theorem caK{cf':sW}(ss:List Nat)(hs:jK T n K cf m e L=.case b cf' K' m' e' L')(ho:aT (CV e') ss=some (ss.map λ_=>SV.b b))(hF:(if b=true then A else B')=q)
  (k1:b=true->A=q->G (.mk P T hT n c B0 N X Q) K' m' (ovr true e' ss) L' cf') (k2:b=false->B'=q->G (.mk P T hT n c B0 N X Q) K' m' (ovr false e' ss) L' cf'):G (.mk P T hT n c B0 N X Q) K m e L cf:=
 gO (g:=.mk P T hT n c B0 N X Q) (by
  rw[hs];cases b with
  |true=>exact aJ5 (λa B hA=>YU rfl ss ho hA) (k1 rfl aj)
  |false=>exact aJ5 (λa B hA=>YU rfl ss ho hA) (k2 rfl aj))
end
section
variable {P:Program} {T:TT} {hT:D6 P T} {n:Nat} {c:Ctx} {B0:Bl} {N:Act->World->Prop} {X:Nat->Act->World->Prop} {Q:Act->World->Prop} {K K':List Fr} {m m':Nat} {e e':SE} {L L' Lv:List Ch} {cf cf1 cf2:sW} {o:Oper} {d:Nat}
theorem aNP[aN O]{l:List O}(L2:AC->List Ch)(hs:jK T n K cf m e L=.op o Lv cf1 cf2 K' m' e' L')(hd:o.dst=some d)(hz:∀s',Frz (.mk P T hT n c B0 N X Q) cf1 L' (L2 s'))(h:∀B a w,gQ n B e' a->lJ c w B L'->∃s' w',eW P o (vE B e') w (AC.v s' l.length) w'/\lJ c w' B (L2 s'))
  (k:∀s':AC,G (.mk P T hT n c B0 N X Q) K' m' ((d,.h s' l.length)::e') (L2 s') cf2):G (.mk P T hT n c B0 N X Q) K m e L cf:=by refine gO (g:=.mk P T hT n c B0 N X Q) ?_;rw[hs];intro hdn _ hE;refine hE AC (λ_=>m') (λs'=>(d,.h s' l.length)::e') L2 hz (λB a w next Q' hm hA hS hnext=>?_) k;obtain⟨s',w',k1,k2⟩:=h _ a w hA hS;unfold Oper.wp;rw[k1 _ a hA.env,Oper.upon_value,hd];exact hnext s' _ _ ⟨[],aj,by simpa using hA.of (by simp[fH,gV,bK]) (hA.env.put (by grind[qS,wD]) _),aj⟩
theorem aAT[aN O]{v:Value}{l:List O}(h:St c w A R)(i:Nat)(hi:A[i]?=some (eU [v] l)):∃s':AC,v=s'.v l.length:=by obtain⟨ad,cp,h2,_⟩:=aJS (h.aY8 i hi);exact⟨⟨ad,cp⟩,h2⟩
section
variable {x y:Operand} {t el sz:Nat} {zv:Value} {b1:Bool} {n1:Nat} {z1:List SV}
theorem lt0[aN O](hinf:SJ P el sz zv)(q0_:jK T n K cf m e L=.op o Lv cf1 cf2 K' m' e' L'/\(o.op,o.dst)=(.buildSlice t 0 #[],some d)/\wW T t=some ⟨.sl el,b1,n1,z1⟩/\aN.n O=sz)
  (k:∀s':AC,G (.mk P T hT n c B0 N X Q) K' m' ((d,.h s' ([]:List O).length)::e') (L'++[ow s' ([]:List O)]) cf2):G (.mk P T hT n c B0 N X Q) K m e L cf:=by
 obtain⟨hs,ho,ht,hn⟩:=q0_;refine aNP (l:=([]:List O)) (λs'=>L'++[ow s' ([]:List O)]) hs (bZ Prod.snd ho) (λ_=>sZ _) (λB a w hA hS=>?_) k;obtain⟨⟨R,s1,s2⟩,s0⟩:=hS;obtain⟨v,w',k1,k2⟩:=bBU (O:=O) (e:=vE B e') (o:=o) s1 hn (D3 ht hT) hinf (bZ Prod.fst ho);obtain⟨s',rfl⟩:=aAT (v:=v) (l:=([]:List O)) k2 (L'.map (kS B)).length ae;refine⟨s',w',k1,⟨⟨R,by grind[kS],λz hz=>?_⟩,s0⟩⟩;rcases cY.1 hz with hz|hz
 ·grind
 ·simp at hz;subst hz;trivial
theorem I5{g:Gx}{cf:sW}{L:List Ch}(hn:fP j cf.wY=true):Frz g cf L (L.set j z):=by have:=aQZ (g:=g) (M:=[]) (z:=z) (L:=L) hn;grind
theorem ap[aN O][Flat O]{A:Option β}{q:β}{s s2:AC}{l xs:List O}(i:Nat)(hinf:SJ P el sz zv)(hs:jK T n K cf m e L=.op o Lv cf1 cf2 K' m' e' L')(ho:(o.op,o.dst)=(.call {callee:=.builtin .append,args:=#[x,y],argTypes:=#[t,t]},some d))(ht:wW T t=some ⟨.sl el,b1,n1,z1⟩)(hn:aN.n O=sz)(hzs:zv.cells.size=sz)(hi:L'[i]?=some (ow s l))(hz:fP i cf1.wY=true)(hsrc:∀{w},HS c w L'->bL (dZ w) s2 xs)(hx:iG e' x=some (.h s l.length))(hy:iG e' y=some (.h s2 xs.length))(hF:need (l.length+xs.length<=1073741824) A=some q)
  (k:A=some q->∀s':AC,G (.mk P T hT n c B0 N X Q) K' m' ((d,.h s' (l++xs).length)::e') (L'.set i (ow s' (l++xs))) cf2):G (.mk P T hT n c B0 N X Q) K m e L cf:=by
 refine aNP (l:=l++xs) (λs'=>L'.set i (ow s' (l++xs))) hs (bZ Prod.snd ho) (λ_=>I5 hz) (λB a w hA hS=>?_) (k (lZ hF).2);have hr:bL (dZ w) s2 xs:=hsrc ⟨_,hS⟩;obtain⟨⟨R,s1,s2'⟩,s0⟩:=hS;have hj2:(L'.map (kS B))[i]?=some (eU [s.v l.length] l):=by simp[hi,kS]
 obtain⟨v,w',k1,k2⟩:=a2H i s1 hj2 hr hn (D3 ht hT) hinf hzs (lZ hF).1 (bZ Prod.fst ho) (hdB hA hx) (hdB hA hy);have hlt:i<L'.length:=(AR.1 hi).1;obtain⟨s',rfl⟩:=aAT k2 i (by rw[List.getElem?_set_self aj]);refine⟨s',w',k1,⟨⟨R,?_,λz hz=>?_⟩,s0⟩⟩
 ·rw[KT];exact k2
 ·rcases rG hz with hz|hz
  ·grind
  ·subst hz;trivial
end
end
theorem aTK{l:List O}{x:O}(h:idx l i=some x):l.set i.toNat x=l:=by obtain⟨hk,h2⟩:=AR.1 (AW h).2.2;rw[<-h2];simp
section
variable {P:Program} {T:TT} {hT:D6 P T} {n:Nat} {c:Ctx} {B0:Bl} {N:Act->World->Prop} {X:Nat->Act->World->Prop} {Q:Act->World->Prop} {K K':List Fr} {m m':Nat} {e e':SE} {L L' Lv:List Ch} {cf cf' cf1 cf2:sW} {o:Oper} {d:Nat}
theorem cqS[aN O](E:CO O)(h:Nat)(is:List Nat){s:AC}{l:List O}{x:O}(hx:idx l i=some x)(y:E.ex)(q0_:SM (jK T n K cf m e L)=some (K',cf',m',e',L')/\L'[h]?=some (.o (sM (s.v l.length) l i.toNat))/\L'[h+1]?=some (.box nb cs0)/\L'[h+2]?=some (wOf O nb s l.length i.toNat)/\aT (λi=>L'[i]?) is=some (E.Lx x y)/\nbL cs0=E.cs x y/\aT (bK []) (E.cs x y)=some ec/\dE (h::(h+1)::is)=true/\((h::(h+1)::is).all λj=>fP j cf'.wY)=true)
  (kk:G (.mk P T hT n c B0 N X Q) K' m' e' (G4 L' (h::(h+1)::is)++[ow s l]) cf'):G (.mk P T hT n c B0 N X Q) K m e L cf:=let ⟨h0,hs,hb,hv,hi,hc,hec,ha,hz⟩:=q0_;ceS E h is [] x y h0 hs hb hv hi hc hec ha hz rfl (by rw[aTK hx];exact kk)
theorem kZ{Z:Act->World->Prop}[aN O](E:CO O)(h:Nat)(is:List Nat){s:AC}{l:List O}{x:O}(hx:idx l i=some x)(y:E.ex)(q0_:L[h]?=some (.o (sM (s.v l.length) l i.toNat))/\L[h+1]?=some (.box nb cs0)/\L[h+2]?=some (wOf O nb s l.length i.toNat)/\aT (λi=>L[i]?) is=some (E.Lx x y)/\nbL cs0=E.cs x y/\aT (bK []) (E.cs x y)=some ec/\dE (h::(h+1)::is)=true)
  (kk:∀a w,pA n c B0 m e (G4 L (h::(h+1)::is)++[ow s l]) a w->Z a w):∀a w,pA n c B0 m e L a w->Z a w:=let ⟨hs,hb,hv,hi,hc,hec,ha⟩:=q0_;nD E h is [] x y ⟨hs,hb,hv,hi,hc,hec,ha,rfl⟩ (by rw[aTK hx];exact kk)
section
variable {x:Operand} {t el:Nat} {zv:Value} {b1:Bool} {n1:Nat} {z1:List SV}
theorem lt1{k:IntKind}(hk:k=.i64)(hinf:SJ P el 1 zv)(hs:jK T n K cf m e L=.op o Lv cf1 cf2 K' m' e' L')(ho:(o.op,o.dst)=(.buildSlice t 1 #[(0,x)],some d))(ht:wW T t=some ⟨.sl el,b1,n1,z1⟩)(hx:(iG e' x).bind rI=some (k,i))
  (kk:∀s':AC,G (.mk P T hT n c B0 N X Q) K' m' ((d,.h s' [i].length)::e') (L'++[ow s' [i]]) cf2):G (.mk P T hT n c B0 N X Q) K m e L cf:=by
 subst hk;refine aNP (l:=[i]) (λs'=>L'++[ow s' [i]]) hs (bZ Prod.snd ho) (λ_=>sZ _) (λB a w hA hS=>?_) kk;obtain⟨⟨R,s1,s2⟩,s0⟩:=hS;obtain⟨v,w',k1,k2⟩:=bBV (O:=Int) (e:=vE B e') (o:=o) i s1 rfl (D3 ht hT) hinf (c0:=.int .i64 i) rfl (bZ Prod.fst ho) (wT hA hx) rfl;obtain⟨s',rfl⟩:=aAT (v:=v) (l:=[i]) k2 (L'.map (kS B)).length ae;refine⟨s',w',k1,⟨⟨R,by grind[kS],λz hz=>?_⟩,s0⟩⟩;rcases cY.1 hz with hz|hz
 ·grind
 ·simp at hz;subst hz;trivial
end
end
theorem bL.sub[aN O]{s s':AC}{l:List O}{a b:Nat}(h:bL c s l)(hp:iV (aN.n O) a b (s.v l.length)=s'.v ((l.take b).drop a).length)(hb:a<=b/\b<=l.length):bL c s' ((l.take b).drop a):=by have:=aWQ (n:=aN.n O) rfl h hb.1 hb.2;rw[hp] at this;exact this
theorem Sep.perm{B:List Chunk}(h:A.Perm B):∀{F:cC},Sep w A F->Sep w B F:=by
 induction h with
 |nil=>simp
 |cons a _ ih=>exact λ⟨F1,F2,h1,h2,hd,hF⟩=>⟨F1,F2,h1,ih h2,hd,hF⟩
 |swap a b L=>
  intro F h;have h:Sep w (([b]++[a])++L) F:=h;obtain⟨F1,F2,h1,h2,hd,hF⟩:=Sep.append.1 h;exact(Sep.append (A:=[a]++[b])).2 ⟨F1,F2,h1.swap,h2,hd,hF⟩
 |trans _ _ i1 i2=>grind
theorem St.via{B:List Chunk}(h:St c w A R)(hs:∀F,Sep w A F->Sep w B F):St c w B R:=by obtain⟨F,S,hsep,rest⟩:=h.sep;exact⟨h.keep,⟨F,S,hs F hsep,rest⟩,h.apart⟩
structure PV where
 b:Nat
 z:Nat
 A:List Value
 V:List Value
 C:List Value
def PV.whole(p:PV):Chunk:=VY p.b p.z (p.A++(p.V++p.C))
def PV.mid(p:PV):Chunk:=VY p.b (p.z+p.A.length) p.V
def PV.rest(p:PV):List Chunk:=[VY p.b p.z p.A,VY p.b (p.z+p.A.length+p.V.length) p.C]
theorem bFN{a v c:O}{M R:List O}:(a::v::c::(M++R)).Perm (v::(M++(a::c::R))):=by refine(List.Perm.swap v a _).trans (List.Perm.cons v ?_);exact((List.perm_middle (a:=c)).symm.cons a).trans (List.perm_middle (a:=a)).symm
theorem bKE{w:World}:∀{ps:List PV} {F:cC},Sep w (ps.map PV.whole) F->Sep w (ps.map PV.mid++ps.flatMap PV.rest) F
 |[],F,h=>h
 |p::ps,F,h=>by obtain⟨F1,F2,h1,h2,hd,hF⟩:=h;exact Sep.perm bFN (Sep.append.2 ⟨F1,F2,a2J h1,bKE h2,hd,hF⟩)
theorem bKF{w:World}:∀{ps:List PV} {F:cC},Sep w (ps.map PV.mid++ps.flatMap PV.rest) F->Sep w (ps.map PV.whole) F
 |[],F,h=>h
 |p::ps,F,h=>by have h2:Sep w ([VY p.b p.z p.A,p.mid,VY p.b (p.z+p.A.length+p.V.length) p.C]++(ps.map PV.mid++ps.flatMap PV.rest)) F:=Sep.perm (bFN (M:=ps.map PV.mid) (R:=ps.flatMap PV.rest)).symm h;obtain⟨F1,F2,h1,h3,hd,hF⟩:=Sep.append.1 h2;exact⟨F1,F2,a5Q h1,bKF h3,hd,hF⟩
theorem St.bFO{M:List Chunk}(h:St c w (A++M) R)(s0:∀b o,c.S0 b o->b<c.w0.heap.size) :
  ∃U:Ctx,U.w0=w/\(∀b o,U.S0 b o->b<w.heap.size)/\St U w A []/\(∀f:Fact,f.P c.S0 c.w0->f.P U.S0 w)/\(∀f∈R,f.P U.S0 w) /\
   (∀ch∈M,∀f:Fact,(∀w F,ch.P w F->f.P F w)->f.P U.S0 w)/\∀w' A' R',St U w' A' R'->St c w' (A'++M) R:=by
 obtain⟨F,S,hsep,hFS,hFW,hSS,hSlt,hR⟩:=h.sep;obtain⟨F1,F2,h1,h2,hd,hF⟩:=Sep.append.1 hsep;have hk0:c.w0.heap.size<=w.heap.size:=h.keep.size;have h1S0:∀b o,F1 b o->c.S0 b o->False:=λb o p q=>by
  rcases hFW b o ((hF b o).2 (.inl p)) with hw|hw
  ·exact h.apart b o hw q
  grind
 have hlt:∀b o,(S b o\/F2 b o)\/c.S0 b o->b<w.heap.size:=by
  rintro b o ((q|q)|q)
  ·grind
  ·exact Sep.lt h2 q
  grind
 have hap:∀b o,F1 b o->((S b o\/F2 b o)\/c.S0 b o)->False:=by
  rintro b o p ((q|q)|q)
  ·exact hFS b o ((hF b o).2 (.inl p)) q
  ·exact hd b o p q
  grind
 refine⟨⟨w,F1,λb o=>(S b o\/F2 b o)\/c.S0 b o⟩,rfl,hlt,⟨eK.refl _ _,⟨F1,λb o=>(S b o\/F2 b o)\/c.S0 b o,h1,hap,λ_ _ h=>.inl h,λ_ _ h=>.inl h,hlt,ae⟩,hap⟩,λf hf=>?_,λf hf=>f.mono (hR f hf) λb o q=>.inl (.inl q),λch hch f hf=>?_,?_⟩
 ·exact f.mono (f.agree hf λb o q=>h.keep.cell b o (s0 b o q) λhw=>h.apart b o hw q) λb o q=>.inr q
 ·obtain⟨j,hj⟩:=aFY hch;obtain⟨G1,G2,g1,_,_,gF⟩:=(Sep.take hj).1 h2;exact f.mono (hf w G1 g1) λb o q=>.inl (.inr ((gF b o).2 (.inl q)))
 ·intro w' A' R' k;obtain⟨F',S',b1,b2,b3,b4,b5,b6⟩:=k.sep;have hk:eK F1 w w':=k.keep;have hGW:∀b o,b<c.w0.heap.size->F1 b o->c.W b o:=λb o hb g=>aj
  refine⟨h.keep.trans hk hGW,⟨λb o=>F' b o\/F2 b o,S,Sep.append.2 ⟨F',F2,b1,Sep.keep hk h2 λb o hf g=>hd b o g hf,?_,λ_ _=>Iff.rfl⟩,?_,?_,hSS,λb o hS=>HB (hSlt b o hS) hk.size,?_⟩,h.apart⟩
  ·intro b o hg hf;grind
  ·rintro b o (hf|hf) hS
   ·grind
   ·exact hFS b o ((hF b o).2 (.inr hf)) hS
  ·grind
  ·intro f hf;exact f.agree (hR f hf) λb o hS=>hk.cell b o (hSlt b o hS) λg=>hFS b o ((hF b o).2 (.inl g)) hS
abbrev PS:=List (Nat×Nat×Nat×Nat)
def aQ1:Nat->List (List SV)->List Ch
 |_,[]=>[]
 |k,c::r=>.box k c::aQ1 (k+1) r
def OL(L:List Ch)(i n:Nat):List SV:=match L[i]? with
 |some (.box k cs)=>match Nat.beq n k with
  |true=>cs
  |false=>[]
 |_=>[]
def aJ8(L:List Ch):PS->Option (List (List SV))
 |[]=>some []
 |(i,n,o,k)::r=>match Nat.ble (o + k) (OL L i n).length,Nat.ble 1 k,frc (((OL L i n).drop o).take k),aJ8 L r with
  |true,true,some d,some ds=>some (d::ds)
  |_,_,_,_=>none
def N2(L M:List Ch):PS->List (List SV)->List Ch
 |(i,n,o,_)::r,c::cs=>N2 L (M.set i (.box n (ovw (OL L i n) o c))) r cs
 |_,_=>M
def G5:PS->List Nat
 |[]=>[]
 |p::r=>p.1::G5 r
def rnP:PS->Nat->SV->Option SV
 |[],_,x=>match yU 0 x with
  |true=>some x
  |false=>none
 |(_,n,o,_)::r,j,x=>match x with
  |.p n' o'=>match Nat.beq n n',Nat.beq o o' with
   |true,true=>some (.p j 0)
   |_,_=>rnP r (j+1) (.p n' o')
  |x=>rnP r (j+1) x
structure HG (c U:Ctx) (L:List Ch) (js:List Nat):Prop where
 a:∀{O:Type} [aN O] {s:AC} {d:List O},bL c s d->bL U s d
 o:∀{O:Type} [aN O] {s:AC} {d:List O} (i:Nat),L[i]?=some (ow s d)->fP i js=true->bL U s d
 f:∀{O:Type} [aN O] {s:AC} {d:List O} (i:Nat),L[i]?=some (fr s d)->bL U s d
def PvR(B:Bl)(L:List Ch):PS->List (List SV)->List PV->Prop
 |[],[],[]=>True
 |(i,n,o,k)::r,d::ds,p::ps=>(∃cs vs,L[i]?=some (.box n cs)/\B[n]?=some (p.b,p.z)/\aT (bK B) cs=some vs/\o+k<=cs.length/\p.A=vs.take o/\p.V=(vs.drop o).take k/\p.C=vs.drop (o+k)/\d=(cs.drop o).take k)/\PvR B L r ds ps
 |_,_,_=>False
def blP(pv:List PV):Bl:=pv.map λp=>(p.b,p.z+p.A.length)
section
variable {c:Ctx} {w:World} {B:Bl} {L:List Ch} {R:List Fact}
theorem aTM{i:Nat}{x:SV}{r:List SV}(h:OL L i n=x::r):L[i]?=some (.box n (x::r)):=by
 unfold OL at h;split at h
 ·rename_i k cs hk;grind[nM]
 ·cases h
theorem bFP(hS:St c w (L.map (kS B)) R):∀{ps:PS} {ds:List (List SV)},aJ8 L ps=some ds->∃pv,PvR B L ps ds pv
 |[],ds,h=>by cases h;exact⟨[],trivial⟩
 |(i,n,o,k)::r,ds,h=>by
  simp only[aJ8] at h;split at h
  ·rename_i d ds' h1 h2 h3 h4;cases h;have h1:=QU h1;have h2:=QU h2;obtain⟨pv,hpv⟩:=bFP hS h4;have h3:=SO h3;subst h3;cases hc:OL L i n with
   |nil=>grind
   |cons x cs=>
    have hL:=aTM hc;obtain⟨F,b,z,vs,g1,g2,g3⟩:=hS.chunk (ch:=SN B n (x::cs)) i (by simp[hL,kS]);exact⟨⟨b,z,vs.take o,(vs.drop o).take k,vs.drop (o+k)⟩::pv,⟨x::cs,vs,hL,g1,g2,aj,rfl,rfl,rfl,ae⟩,hpv⟩
  ·cases h
theorem parts{o:Nat}:vs.take o++((vs.drop o).take k++vs.drop (o+k))=vs:=by grind[List.drop_drop,ZV]
theorem aZ3{F:cC}:∀{ps:PS} {ds:List (List SV)} {pv:List PV} {F:cC},PvR B L ps ds pv->Sep w (pick (L.map (kS B)) (G5 ps)) F->Sep w (pv.map PV.whole) F
 |[],[],[],F,_,h=>h
 |(i,n,o,k)::r,d::ds,p::ps,F,⟨⟨cs,vs,h1,h2,h3,h4,h5,h6,h7,h8⟩,hr⟩,h=>by simp only[G5,pick,AS,h1,Option.map_some,aF3] at h;obtain⟨F1,F2,g1,g2,gd,gF⟩:=h;refine⟨F1,F2,?_,aZ3 (F:=F) hr g2,gd,gF⟩;obtain⟨b,z,vs',k1,k2,k3⟩:=g1;grind[PV.whole,parts]
theorem aW5{p:PV}{ps:List PV}(h:∀i,Bs[j+i]?=(blP (p::ps))[i]?):Bs[j]?=some (p.b,p.z+p.A.length)/\∀i,Bs[j+1+i]?=(blP ps)[i]?:=by
 refine⟨?_,λi=>?_⟩
 ·have:=h 0;grind[blP]
 ·have:=h (i+1);grind[blP]
theorem a60{Bs:Bl}:∀{ps:PS} {ds:List (List SV)} {pv:List PV} {j:Nat} {F:cC},PvR B L ps ds pv->ds.all (yU.okC 0)=true->(∀i,Bs[j+i]?=(blP pv)[i]?)->Sep w (pv.map PV.mid) F->Sep w ((aQ1 j ds).map (kS Bs)) F
 |[],[],[],_,F,_,_,_,h=>h
 |(i,n,o,k)::r,d::ds,p::ps,j,F,⟨⟨cs,vs,h1,h2,h3,h4,h5,h6,h7,h8⟩,hr⟩,ho,hB,h=>by
  simp only[V2,uG] at ho;obtain⟨F1,F2,g1,g2,gd,gF⟩:=h;obtain⟨b1,b2⟩:=aW5 hB;refine⟨F1,F2,⟨p.b,p.z+p.A.length,p.V,b1,?_,g1⟩,a60 hr ho.2 b2 g2,gd,gF⟩;have e1:aT (bK B) d=some p.V:=by grind[Q1,Q0]
  have e2:=BR ho.1 e1;rw[List.take_zero] at e2;exact eQ (λx v h=>by simpa using fW (B:=[]) Bs h) e2
theorem aW6{Bs:Bl}:∀{ps:PS} {ds:List (List SV)} {pv:List PV} {j:Nat} {x x':SV} {v:Value},PvR B L ps ds pv->(∀i,Bs[j+i]?=(blP pv)[i]?)->rnP ps j x=some x'->fH B x=some v->fH Bs x'=some v
 |[],[],[],j,x,x',v,_,_,hx,hv=>by
  simp only[rnP] at hx;split at hx
  ·rename_i h0;cases hx;have:=SP h0 hv;rw[List.take_zero] at this;simpa using wE (B:=[]) Bs this
  ·cases hx
 |(i,n,o,k)::r,d::ds,p::ps,j,x,x',v,⟨⟨cs,vs,h1,h2,h3,h4,h5,h6,h7,h8⟩,hr⟩,hB,hx,hv=>by
  obtain⟨b1,b2⟩:=aW5 hB;simp only[rnP] at hx;split at hx
  ·rename_i n' o';split at hx
   ·rename_i e1 e2;cases hx;have e1:=nM e1;have e2:=nM e2;subst e1;subst e2;simp only[fH,gV,bK,h2] at hv;have hA:p.A.length=o:=by grind[kW]
    simp_all[fH,gV,bK]
   ·exact aW6 hr b2 hx hv
  ·exact aW6 hr b2 hx hv
theorem aQ2{Bs:Bl}{ps:PS}{ds:List (List SV)}{pv:List PV}(hr:PvR B L ps ds pv)(hB:∀i,Bs[0+i]?=(blP pv)[i]?):∀{xs xs':List SV} {vs:List Value},aT (rnP ps 0) xs=some xs'->aT (fH B) xs=some vs->aT (fH Bs) xs'=some vs
 |[],_,_,h,hv=>by cases h;exact hv
 |x::xs,xs',vs,h,hv=>by
  simp only[aT] at h hv;split at h
  ·cases h
  ·rename_i h1;split at h
   ·cases h
   ·rename_i h2;cases h;split at hv
    ·cases hv
    ·rename_i v1;split at hv
     ·cases hv
     ·rename_i v2;cases hv;simp only[aT,aW6 hr hB h1 v1,aQ2 hr hB h2 v2]
def PvN(B:Bl):List PV->List (List SV)->List PV->Prop
 |[],[],[]=>True
 |p::ps,d::ds,q::qs=>(q.b=p.b/\q.z=p.z/\q.A=p.A/\q.C=p.C/\q.V.length=p.V.length/\aT (bK B) d=some q.V)/\PvN B ps ds qs
 |_,_,_=>False
theorem aTN:∀{ps:List PV} {ds:List (List SV)} {qs:List PV},PvN B ps ds qs->qs.flatMap PV.rest=ps.flatMap PV.rest/\blP qs=blP ps
 |[],[],[],_=>⟨rfl,rfl⟩
 |p::ps,d::ds,q::qs,⟨⟨h1,h2,h3,h4,h5,h6⟩,hr⟩=>by obtain⟨e1,e2⟩:=aTN hr;simp_all[PV.rest,blP]
def aCG:PS->List (List SV)->Bool
 |[],[]=>true
 |(_,_,_,k)::r,d::ds=>match Nat.beq d.length k with
  |true=>aCG r ds
  |false=>false
 |_,_=>false
theorem a61:∀{ps:PS} {ds:List (List SV)} {pv:List PV},PvR B L ps ds pv->pv.length=ps.length
 |[],[],[],_=>rfl
 |(i,n,o,k)::r,d::ds,p::ps,⟨_,hr⟩=>by simp[a61 hr]
theorem aZ4{Bs:Bl}:∀{ps:PS} {ds:List (List SV)} {pv:List PV} {es:List (List SV)} {j:Nat},PvR B L ps ds pv->aCG ps es=true->es.all (yU.okC 0)=true->(∀i,Bs[j+i]?=(blP pv)[i]?)->(∀i cs,es[i]?=some cs->∃F,(SN Bs (j+i) cs).P w F)->∃qs,PvN B pv es qs/\jT w ((aQ1 j es).map (kS Bs)) (qs.map PV.mid)
 |[],[],[],[],j,_,_,_,_,_=>⟨[],trivial,.nil⟩
 |[],[],[],e::es,j,_,hl,_,_,_=>by grind[aCG]
 |(i,n,o,k)::r,d::ds,p::ps,[],j,_,hl,_,_,_=>by grind[aCG]
 |(i,n,o,k)::r,d::ds,p::ps,e::es,j,⟨⟨cs,vs,h1,h2,h3,h4,h5,h6,h7,h8⟩,hr⟩,hl,ho,hB,hc=>by
  simp only[aCG] at hl;split at hl
  ·rename_i he;have he:=nM he;simp only[V2,uG] at ho;obtain⟨b1,b2⟩:=aW5 hB;obtain⟨qs,q1,q2⟩:=aZ4 hr hl ho.2 b2 λi cs hi=>by have:=hc (i+1) cs aj;grind
   obtain⟨F,b,z,us,g1,g2,g3⟩:=hc 0 e rfl;have hlen:=kW h3;have g4:=BR ho.1 g2;rw[List.take_zero] at g4;refine⟨⟨p.b,p.z,p.A,us,p.C⟩::qs,⟨⟨rfl,rfl,rfl,rfl,?_,eQ (λx v h=>by simpa using fW (B:=[]) B h) g4⟩,q1⟩,.cons (λF hF=>?_) q2⟩
   ·grind[kW]
   ·obtain⟨b',z',us',k1,k2,k3⟩:=hF;rw[show j=j+0 by omega] at b1;simp only[UJ] at g2 k2 k1 b1;rw[b1] at k1;cases k1;rw[g2] at k2;cases k2;exact k3
  ·cases hl
theorem aJ9:∀{ws vs:List Value} {o:Nat},o+ws.length<=vs.length->aB4 vs o ws=vs.take o++(ws++vs.drop (o+ws.length))
 |[],vs,o,h=>by simp[aB4]
 |x::ws,vs,o,h=>by
  simp only[HA] at h;simp only[aB4];rw[aJ9 ah];have t1:(vs.set o x).take (o+1)=vs.take o++[x]:=by rw[List.take_add_one,List.getElem?_set_self aa];grind[List.take_set,List.set_eq_of_length_le]
  grind[List.drop_set_of_lt]
theorem a62:∀{ps:PS} {ds es:List (List SV)} {pv qs:List PV} {M:List Ch} {F:cC},PvR B L ps ds pv->PvN B pv es qs->(∀i∈G5 ps,M[i]?=some .no)->dE (G5 ps)=true->Sep w (qs.map PV.whole++M.map (kS B)) F->Sep w ((N2 L M ps es).map (kS B)) F
 |[],[],[],[],[],M,F,_,_,_,_,h=>h
 |(i,n,o,k)::r,d::ds,e::es,p::ps,q::qs,M,F,⟨⟨cs,vs,h1,h2,h3,h4,h5,h6,h7,h8⟩,hr⟩,⟨⟨n1,n2,n3,n4,n5,n6⟩,hn⟩,hM,ha,h=>by
  simp only[G5,dE,uG] at ha;have hi:M[i]?=some .no:=hM i (by simp[G5]);have hlt:i<M.length:=(AR.1 hi).1;simp only[N2];refine a62 (ps:=r) (ds:=ds) (es:=es) (pv:=ps) (qs:=qs) hr hn (λj hj=>?_) ha.2 ?_
  ·have hne:i≠j:=λe=>by subst e;have:=V3.1 ha.1 _ hj;simp at this
   grind[G5]
  ·have h9:Sep w (qs.map PV.whole++(q.whole::M.map (kS B))) F:=Sep.perm List.perm_middle.symm h;obtain⟨F1,F2,g1,g2,gd,gF⟩:=Sep.append.1 h9;refine Sep.append.2 ⟨F1,F2,g1,?_,gd,gF⟩;have hc:OL L i n=cs:=by simp_all[OL]
   have e0:(M.map (kS B)).set i J1=M.map (kS B):=by
    have:(M.map (kS B))[i]?=some J1:=by simp[hi,kS]
    grind[aOZ]
   have e1:Sep w ((M.map (kS B)).set i q.whole) F2:=Sep.put aj aj;rw[KT,hc];refine Sep.imp ?_ e1;refine jT.set i (jT.refl _) λF hF=>⟨p.b,p.z,q.A++(q.V++q.C),h2,?_,by rw[<-n1,<-n2];exact hF⟩;have hlen:=kW h3;have hV:p.V.length=k:=aj
   have hVe:e.length=k:=by grind[kW]
   simp_all[aJX,aB9,aJ9]
 |[],[],e::es,[],_,M,F,_,hn,_,_,_=>by grind[PvN]
 |[],[],[],[],q::qs,M,F,_,hn,_,_,_=>by grind[PvN]
 |(i,n,o,k)::r,d::ds,[],p::ps,qs,M,F,_,hn,_,_,_=>by grind[PvN]
 |(i,n,o,k)::r,d::ds,e::es,p::ps,[],M,F,_,hn,_,_,_=>by grind[PvN]
theorem aTO{x:Ch}:∀{ps:PS} {es:List (List SV)} {M:List Ch},x∈N2 L M ps es->x∈M\/∃n cs,x=.box n cs
 |[],_,M,h=>.inl (by simpa[N2] using h)
 |(i,n,o,k)::r,[],M,h=>.inl (by simpa[N2] using h)
 |(i,n,o,k)::r,e::es,M,h=>by
  rcases aTO (ps:=r) (es:=es) (by simpa[N2] using h) with h|h
  ·rcases rG h with h|h
   ·exact .inl h
   ·exact .inr ⟨_,_,h⟩
  ·exact .inr h
end
def cpS:Stop->Option (Oper×Option Nat×FuncId×List SV×sW×sW×List Fr×Nat×SE×List Ch)
 |.call o d f xs cf cf' K m e L=>some (o,d,f,xs,cf,cf',K,m,e,L)
 |.callp o d f xs cf cf' K m e L=>some (o,d,f,xs,cf,cf',K,m,e,L)
 |_=>none
def dse(d:Option Nat)(v:SV)(e:SE):SE:=match d with
 |some d=>(d,v)::e
 |none=>e
def I6:List Ch->Bool
 |[]=>true
 |.o _::L=>I6 L
 |_::_=>false
theorem WB{B B':Bl}:∀{L:List Ch},I6 L=true->L.map (kS B)=L.map (kS B')
 |[],_=>rfl
 |.o c::L,h=>by simp only[AT,kS];rw[WB (L:=L) h]
theorem WC{B:Bl}{R:List Fact}:∀{L:List Ch},I6 L=true->∀x∈L,roF B R x
 |[],_,x,hx=>by cases hx
 |.o c::L,h,x,hx=>by
  rcases iX.1 hx with hx|hx
  ·subst hx;trivial
  ·exact WC (L:=L) h x hx
theorem aTP{B:Bl}{R:List Fact}:∀{cs:List (List SV)} {k:Nat},∀x∈aQ1 k cs,roF B R x
 |[],k,x,hx=>by cases hx
 |c::cs,k,x,hx=>by
  rcases iX.1 hx with hx|hx
  ·subst hx;trivial
  ·exact aTP x hx
theorem aKA:∀{cs:List (List SV)} {k i:Nat} {c:List SV},cs[i]?=some c->(aQ1 k cs)[i]?=some (.box (k+i) c)
 |c'::cs,k,0,c,h=>by simp at h;subst h;rfl
 |c'::cs,k,i + 1,c,h=>by have:=aKA (k:=k+1) (show cs[i]?=some c by grind);grind[aQ1]
theorem aCH{L:List Chunk}:∀{a b:List Nat},pick L (a++b)=pick L a++pick L b
 |[],b=>rfl
 |i::a,b=>by simp only[DM,pick,aCH (a:=a)]
theorem aIN:∀{js:List Nat} {L:List Ch},(G4 L js).length=L.length
 |[],L=>rfl
 |j::js,L=>by simp only[G4];rw[aIN];simp
theorem a63:∀{js:List Nat} {L:List Ch} {i:Nat},i<L.length->L[i]?=some .no\/i∈js->(G4 L js)[i]?=some .no
 |[],L,i,_,h=>by rcases h with h|h;exact h;cases h
 |j::js,L,i,hl,h=>by simp only[G4];refine a63 aj ?_;grind
theorem a64{B:Bl}{L:List Ch}:∀{ps:PS} {ds:List (List SV)} {pv:List PV},PvR B L ps ds pv->∀i∈G5 ps,i<L.length
 |[],[],[],_,i,h=>by cases h
 |(i,n,o,k)::r,d::ds,p::ps,⟨⟨cs,vs,h1,_⟩,hr⟩,j,h=>by
  rcases iX.1 h with h|h
  ·grind
  ·exact a64 hr j h
theorem aZ6:∀{a b:List Nat},dE (a++b)=true->dE a=true
 |[],b,_=>rfl
 |i::a,b,h=>by simp only[DM,dE,uG,List.all_append] at h ⊢;exact⟨h.1.1,aZ6 h.2⟩
theorem aTQ{g:Gx}(h:Frz g cf L M)(hn:fP j cf.wY=true):Frz g cf L (M.set j z):=by
 cases cf with
 |d B1 ops l is Lf Lv=>
  intro hD;obtain⟨h1,h2⟩:=h hD;have:=YV (L:=M) (M:=[]) (j:=j) (z:=z) h2 hn;grind
 |o B1 ops l is Lf Lv ii=>
  intro hD;obtain⟨h1,h2⟩:=h hD;have:=YV (L:=M) (M:=[]) (j:=j) (z:=z) h2 hn;grind
 |_=>trivial
theorem aTR{g:Gx}{cf:sW}{L L0:List Ch}:∀{ps:PS} {es:List (List SV)} {M:List Ch},Frz g cf L M->((G5 ps).all λj=>fP j cf.wY)=true->Frz g cf L (N2 L0 M ps es)
 |[],_,M,h,_=>by grind[N2]
 |(i,n,o,k)::r,[],M,h,_=>by grind[N2]
 |(i,n,o,k)::r,e::es,M,h,hz=>by simp only[G5,V2,uG] at hz;exact aTR (ps:=r) (es:=es) (aTQ h hz.1) hz.2
theorem aEO{i:Nat}:∀{js:List Nat},fP i js=true->(js.all λj=>!Nat.beq j i)=true
 |[],_=>rfl
 |j::js,h=>by
  simp only[fP] at h;split at h
  ·cases h
  ·rename_i hb;simp only[V2,uG,aWL];refine⟨?_,aEO h⟩;grind[nM]
theorem a65{g:Gx}{s:Stop}{o:Oper}{d:Option Nat}{f:FuncId}{cf':sW}{K:List Fr}(hs:cpS s=some (o,d,f,xs,cf,cf',K,m,e,L))
  (h:∀fo args ats,o.op=.call {callee:=.value fo,args:=args,argTypes:=ats}->o.dst=d->iG e fo=some (.f f [])->(∃ys,aT (iG e) args.toList=some ys/\nbA ys=xs)->qS g.n d=true->aF7 g K m e L o cf cf'->G g K m e L cf):Gs g s:=by
 cases s<;>simp only[cpS] at hs<;>cases hs
 ·exact λfo args ats a1 a2 a3 a4 _ a6 a7=>h fo args ats a1 a2 a3 a4 a6 a7
 ·exact h
section
variable {P:Program} {T:TT} {hT:D6 P T} {n:Nat} {c:Ctx} {B0:Bl} {N:Act->World->Prop} {X:Nat->Act->World->Prop} {Q:Act->World->Prop} {K K':List Fr} {m m':Nat} {e e':SE} {L L':List Ch} {cf cf1 cf2:sW} {o:Oper}
theorem cwk{fo:Option O}{kf:O->Option β}{q:β}{d:Option Nat}{f:FuncId}{xs0:List SV}{cs0:List (List SV)}{sv:O->ex->SV}{cb:O->ex->List (List SV)}{Lr:O->ex->List Ch}(ps:PS)(is:List Nat)
  (hs:cpS (jK T n K cf m e L)=some (o,d,f,xs,cf1,cf2,K',m',e',L')) (hb:aJ8 L' ps=some cs0) (hi:aT (λi=>L'[i]?) is=some M) (hx:aT (rnP ps 0) xs=some xs0)
  (hk:(I6 M && (cs0.all (yU.okC 0) && (dE (G5 ps++is) && (G5 ps++is).all λj=>fP j cf1.wY)))=true)
  (hn:∀x y,(aCG ps (cb x y) && ((cb x y).all (yU.okC 0) && (I6 (Lr x y) && yU 0 (sv x y))))=true)
  (hc:∀{U:Ctx},HG c U L' (G5 ps++is)->∀{Bs:Bl},Bs.length=ps.length->∀{x},fo=some x->FnS P f U xs0 Bs (aQ1 0 cs0++M) sv (λx y=>aQ1 0 (cb x y)++Lr x y) x)
  (hF:fo.bind kf=some q)
  (k:∀x,fo=some x->kf x=some q->∀y:ex,G (.mk P T hT n c B0 N X Q) K' m' (dse d (sv x y) e') (N2 L' (G4 L' (G5 ps++is)++Lr x y) ps (cb x y)) cf2):G (.mk P T hT n c B0 N X Q) K m e L cf:=by
 refine gO (g:=.mk P T hT n c B0 N X Q) (a65 hs ?_);intro fo' args ats ho hd hf ⟨ys,hys,hxs⟩ hdn hE;simp only[uG] at hk hn;obtain⟨hkM,hkc,hka,hkz⟩:=hk;cases hfo:fo with
 |none=>grind
 |some x=>
  rw[hfo] at hF;have hz2:((G5 ps).all λj=>fP j cf1.wY)=true:=aj
  refine hE ex (λ_=>m') (λy=>dse d (sv x y) e') (λy=>N2 L' (G4 L' (G5 ps++is)++Lr x y) ps (cb x y)) (λy=>aTR (OK _ hkz) hz2) (λB a w next Q' hm hA hS hnext=>?_) (k x hfo hF);generalize hBB:V8 (.mk P T hT n c B0 N X Q) cf1++B=BB at hm hA hS hnext;obtain⟨⟨R,s1,s2⟩,s0⟩:=hS;obtain⟨pv,hpv⟩:=bFP s1 hb;have hBs:(blP pv).length=ps.length:=by grind[blP,a61]
  have hB0:∀i,(blP pv)[0+i]?=(blP pv)[i]?:=λi=>ae
  have f1:=s1.front (G5 ps++is) hka;have f2:St c w ((pv.map PV.mid++M.map (kS BB))++(pv.flatMap PV.rest++blank (L'.map (kS BB)) (G5 ps++is))) R:=by refine f1.via λF h=>?_;rw[aCH,LB hi] at h;obtain⟨F1,F2,g1,g2,gd,gF⟩:=Sep.append.1 h;obtain⟨F3,F4,g3,g4,gd2,gF2⟩:=Sep.append.1 g1;have g5:=bKE (aZ3 (F:=F) hpv g3);have g6:Sep w (((pv.map PV.mid++pv.flatMap PV.rest)++M.map (kS BB))++blank (L'.map (kS BB)) (G5 ps++is)) F:=Sep.append.2 ⟨F1,F2,Sep.append.2 ⟨F3,F4,g5,g4,gd2,gF2⟩,g2,gd,gF⟩;refine Sep.perm ?_ g6;grind[List.Perm.append_left,List.Perm.append_right,List.perm_append_comm]
  obtain⟨U,k1,k2,k3,k4,k5,k6,k7⟩:=f2.bFO s0;subst k1;have hHG:HG c U L' (G5 ps++is):=by
   refine⟨λ{O} _ {s d} h=>k4 (fRd [s.v d.length] d) h,λ{O} _ {s d} i hi hj=>?_,λ{O} _ {s d} i hi=>k5 _ (s2 _ (D9 hi))⟩;have:(blank (L'.map (kS BB)) (G5 ps++is))[i]?=some (eU [s.v d.length] d):=by rw[aEI (aEO hj),AS,hi];rfl
   exact k6 _ (aB0 _ (D9 this)) (fRd [s.v d.length] d) λw F h=>aN.own_rd h
  obtain⟨hcall,hrun⟩:=hc hHG hBs hfo;obtain⟨vs,h1,h2⟩:=ZW hA hys;obtain⟨v,h3,h4⟩:=eF hA hf;simp[fH,aT] at h3;subst h3;have h1':aT (fH BB) xs=some vs:=by grind[OJ]
  have hst:lJ U U.w0 (blP pv) (aQ1 0 cs0++M):=by
   refine⟨⟨[],?_,λx hx=>?_⟩,k2⟩
   ·rw[m7,WB (B':=BB) hkM];refine k3.via λF h=>?_;grind[Sep.append,a60]
   grind[aTP,WC]
  have h5:=hrun vs (aQ2 hpv hB0 hx h1') hst;have h6:=RB (w:=U.w0) hcall ho h4 h2;unfold Oper.wp;rw[h6 _ a hA.env,Oper.upon_enter];refine Calls.mono h5 λen w' ⟨v,hv,y,g1,g2⟩=>?_;subst hv;obtain⟨n1,n2,n3,n4⟩:=hn x y;have g3:=wE BB (aPC n4 g1);rw[V5] at g3;obtain⟨⟨R',t1,t2⟩,t0⟩:=g2;obtain⟨qs,q1,q2⟩:=aZ4 (w:=w') hpv n1 n2 hB0 λi cs hi=>t1.chunk (ch:=SN (blP pv) (0+i) cs) i (by
   rw[AS,List.getElem?_append_left (by
    have:=(AR.1 (aKA (k:=0) hi)).1;exact this),aKA hi];rfl)
  obtain⟨e1,e2⟩:=aTN q1;have t3:St U w' (qs.map PV.mid++(Lr x y).map (kS BB)) R':=by refine t1.imp ?_;grind[WB,jT.append,jT.refl]
  have t4:=k7 w' _ R' t3;have t5:St c w' ((N2 L' (G4 L' (G5 ps++is)++Lr x y) ps (cb x y)).map (kS BB)) R:=by
   refine t4.via λF h=>?_;refine a62 hpv q1 (λi hi=>?_) (aZ6 hka) ?_
   ·grind[a64,aIN,a63]
   ·rw[m7,ED];have h7:Sep w' ((qs.map PV.mid++qs.flatMap PV.rest)++(blank (L'.map (kS BB)) (G5 ps++is)++(Lr x y).map (kS BB))) F:=by rw[e1];refine Sep.perm ?_ h;grind[List.Perm.append_left,List.perm_append_comm]
    grind[Sep.append,bKF]
  have t6:lJ c w' BB (N2 L' (G4 L' (G5 ps++is)++Lr x y) ps (cb x y)):=by
   refine⟨⟨R,t5,λz hz=>?_⟩,s0⟩;rcases aTO hz with hz|⟨_,_,hz⟩
   ·rcases cY.1 hz with hz|hz
    ·rcases LA _ _ hz with hz|hz
     ·grind
     ·subst hz;trivial
    grind[WC]
   ·subst hz;trivial
  rw[hd];cases d with
  |none=>exact hnext y _ _ ⟨[],aj,by grind[dse,Act.put],aj⟩
  |some d=>exact hnext y _ _ ⟨[],aj,by simpa[dse] using hA.of g3 (hA.env.put (by grind[qS,wD]) v),aj⟩
end
section
variable {P:Program} {T:TT} {hT:D6 P T} {n:Nat} {c:Ctx} {B0:Bl} {N:Act->World->Prop} {X:Nat->Act->World->Prop} {Q:Act->World->Prop} {K K':List Fr} {m m':Nat} {e e':SE} {L L' Lv:List Ch} {cf cf' cf1 cf2:sW} {o:Oper}
section
variable {O β ex:Type} {fo:Option O} {kf:O->Option β} {q:β} {d:Option Nat} {f:FuncId} {xs xs0:List SV} {M:List Ch} {sv:O->ex->SV} {Lr:O->ex->List Ch}
theorem cw0(is:List Nat)
  (hs:cpS (jK T n K cf m e L)=some (o,d,f,xs,cf1,cf2,K',m',e',L')) (hi:aT (λi=>L'[i]?) is=some M) (hx:aT (rnP [] 0) xs=some xs0)
  (hk:(I6 M && (dE is && is.all λj=>fP j cf1.wY))=true) (hn:∀x y,(I6 (Lr x y) && yU 0 (sv x y))=true)
  (hc:∀{U:Ctx},HG c U L' is->∀{x},fo=some x->FnS P f U xs0 [] M sv Lr x) (hF:fo.bind kf=some q)
  (k:∀x,fo=some x->kf x=some q->∀y:ex,G (.mk P T hT n c B0 N X Q) K' m' (dse d (sv x y) e') (G4 L' is++Lr x y) cf2):G (.mk P T hT n c B0 N X Q) K m e L cf:=
 cwk (cb:=λ_ _=>[]) (Lr:=Lr) [] is hs rfl hi hx (by grind[G5]) (λx y=>by grind[aCG]) (λ{U} h Bs hl x hx=>match Bs,hl with|[],_=>hc (by grind[G5]) hx) hF (λx h1 h2 y=>by grind[N2,G5])
theorem cw1{c1:List SV}{a1:O->ex->List SV}(i1 n1 o1 k1:Nat)(is:List Nat)
  (hs:cpS (jK T n K cf m e L)=some (o,d,f,xs,cf1,cf2,K',m',e',L')) (hb:aJ8 L' [(i1,n1,o1,k1)]=some [c1]) (hi:aT (λi=>L'[i]?) is=some M) (hx:aT (rnP [(i1,n1,o1,k1)] 0) xs=some xs0)
  (hk:(I6 M && ([c1].all (yU.okC 0) && (dE (i1::is) && (i1::is).all λj=>fP j cf1.wY)))=true) (hn:∀x y,(aCG [(i1,n1,o1,k1)] [a1 x y] && ([a1 x y].all (yU.okC 0) && (I6 (Lr x y) && yU 0 (sv x y))))=true)
  (hc:∀{U:Ctx},HG c U L' (i1::is)->∀{b1:Nat×Nat} {x},fo=some x->FnS P f U xs0 [b1] (.box 0 c1::M) sv (λx y=>.box 0 (a1 x y)::Lr x y) x) (hF:fo.bind kf=some q)
  (k:∀x,fo=some x->kf x=some q->∀y:ex,G (.mk P T hT n c B0 N X Q) K' m' (dse d (sv x y) e') (N2 L' (G4 L' (i1::is)++Lr x y) [(i1,n1,o1,k1)] [a1 x y]) cf2):G (.mk P T hT n c B0 N X Q) K m e L cf:=
 cwk (cb:=λx y=>[a1 x y]) (Lr:=Lr) [(i1,n1,o1,k1)] is hs hb hi hx hk hn (λ{U} h Bs hl x hx=>match Bs,hl with|[b1],_=>hc h hx) hF k
theorem cw2{c1:List SV}{a1 a2:O->ex->List SV}(i1 n1 o1 k1:Nat)(i2 n2 o2 k2:Nat)(is:List Nat)
  (hs:cpS (jK T n K cf m e L)=some (o,d,f,xs,cf1,cf2,K',m',e',L')) (hb:aJ8 L' [(i1,n1,o1,k1),(i2,n2,o2,k2)]=some [c1,c2]) (hi:aT (λi=>L'[i]?) is=some M) (hx:aT (rnP [(i1,n1,o1,k1),(i2,n2,o2,k2)] 0) xs=some xs0)
  (hk:(I6 M && ([c1,c2].all (yU.okC 0) && (dE (i1::i2::is) && (i1::i2::is).all λj=>fP j cf1.wY)))=true) (hn:∀x y,(aCG [(i1,n1,o1,k1),(i2,n2,o2,k2)] [a1 x y,a2 x y] && ([a1 x y,a2 x y].all (yU.okC 0) && (I6 (Lr x y) && yU 0 (sv x y))))=true)
  (hc:∀{U:Ctx},HG c U L' (i1::i2::is)->∀{b1 b2:Nat×Nat} {x},fo=some x->FnS P f U xs0 [b1,b2] (.box 0 c1::.box 1 c2::M) sv (λx y=>.box 0 (a1 x y)::.box 1 (a2 x y)::Lr x y) x) (hF:fo.bind kf=some q)
  (k:∀x,fo=some x->kf x=some q->∀y:ex,G (.mk P T hT n c B0 N X Q) K' m' (dse d (sv x y) e') (N2 L' (G4 L' (i1::i2::is)++Lr x y) [(i1,n1,o1,k1),(i2,n2,o2,k2)] [a1 x y,a2 x y]) cf2):G (.mk P T hT n c B0 N X Q) K m e L cf:=
 cwk (cb:=λx y=>[a1 x y,a2 x y]) (Lr:=Lr) [(i1,n1,o1,k1),(i2,n2,o2,k2)] is hs hb hi hx hk hn (λ{U} h Bs hl x hx=>match Bs,hl with|[b1,b2],_=>hc h hx) hF k
theorem cw3{c1 c3:List SV}{a1 a2 a3:O->ex->List SV}(i1 n1 o1 k1:Nat)(i2 n2 o2 k2:Nat)(i3 n3 o3 k3:Nat)(is:List Nat)
  (hs:cpS (jK T n K cf m e L)=some (o,d,f,xs,cf1,cf2,K',m',e',L')) (hb:aJ8 L' [(i1,n1,o1,k1),(i2,n2,o2,k2),(i3,n3,o3,k3)]=some [c1,c2,c3]) (hi:aT (λi=>L'[i]?) is=some M) (hx:aT (rnP [(i1,n1,o1,k1),(i2,n2,o2,k2),(i3,n3,o3,k3)] 0) xs=some xs0)
  (hk:(I6 M && ([c1,c2,c3].all (yU.okC 0) && (dE (i1::i2::i3::is) && (i1::i2::i3::is).all λj=>fP j cf1.wY)))=true) (hn:∀x y,(aCG [(i1,n1,o1,k1),(i2,n2,o2,k2),(i3,n3,o3,k3)] [a1 x y,a2 x y,a3 x y] && ([a1 x y,a2 x y,a3 x y].all (yU.okC 0) && (I6 (Lr x y) && yU 0 (sv x y))))=true)
  (hc:∀{U:Ctx},HG c U L' (i1::i2::i3::is)->∀{b1 b2 b3:Nat×Nat} {x},fo=some x->FnS P f U xs0 [b1,b2,b3] (.box 0 c1::.box 1 c2::.box 2 c3::M) sv (λx y=>.box 0 (a1 x y)::.box 1 (a2 x y)::.box 2 (a3 x y)::Lr x y) x) (hF:fo.bind kf=some q)
  (k:∀x,fo=some x->kf x=some q->∀y:ex,G (.mk P T hT n c B0 N X Q) K' m' (dse d (sv x y) e') (N2 L' (G4 L' (i1::i2::i3::is)++Lr x y) [(i1,n1,o1,k1),(i2,n2,o2,k2),(i3,n3,o3,k3)] [a1 x y,a2 x y,a3 x y]) cf2):G (.mk P T hT n c B0 N X Q) K m e L cf:=
 cwk (cb:=λx y=>[a1 x y,a2 x y,a3 x y]) (Lr:=Lr) [(i1,n1,o1,k1),(i2,n2,o2,k2),(i3,n3,o3,k3)] is hs hb hi hx hk hn (λ{U} h Bs hl x hx=>match Bs,hl with|[b1,b2,b3],_=>hc h hx) hF k
end
theorem bFR(s:AC)(n1 n2:Nat):VJ (s.v n1)=VJ (s.v n2):=by obtain⟨a,c⟩:=s;cases a<;>rfl
theorem bFS(s:AC)(q k n1 n2:Nat):UL q k (s.v n1)=UL q k (s.v n2):=by obtain⟨a,c⟩:=s;cases a<;>rfl
theorem ro[aN O](E:CO O)(j v nb:Nat){s:AC}{ls:List O}{kf:O->Option β}{q:β}(hs:SM (jK T n K cf m e L)=some (K',cf',m',e',L'))(hj:L'[j]?=some (ow s ls))(hv:L'[v]?=some (wOf O nb s n0 i.toNat))(hz:fP j cf'.wY=true)(hF:(idx ls i).bind kf=some q)
  (k:∀x,idx ls i=some x->kf x=some q->∀y:E.ex,G (.mk P T hT n c B0 N X Q) K' m' e' (L'.set j .no++([.o (sM (s.v ls.length) ls i.toNat),.box nb (E.cs x y),wOf O nb s ls.length i.toNat]++E.Lx x y)) cf'):G (.mk P T hT n c B0 N X Q) K m e L cf:=by
 refine go hs ?_;cases hi:idx ls i with
 |none=>grind
 |some x=>
  rw[hi] at hF;refine chg (λ_=>m') (λ_=>e') (λy:E.ex=>L'.set j .no++([.o (sM (s.v ls.length) ls i.toNat),.box nb (E.cs x y),wOf O nb s ls.length i.toNat]++E.Lx x y)) (λB a w hm hA hS=>?_) (λy=>aQZ hz) (λy=>k x hi hF y);obtain⟨⟨R,s1,s2⟩,s0⟩:=hS;have hB:B[nb]?=some (VJ (s.v ls.length),UL (aN.n O) i.toNat (s.v ls.length)):=by rw[bFR s ls.length n0,bFS s _ _ ls.length n0];exact s2 _ (D9 hv)
  have hj2:(L'.map (kS B))[j]?=some (eU [s.v ls.length] ls):=by simp[hj,kS]
  obtain⟨ec,h1⟩:=s1.open j hj2 (AW hi).2.2;have hlen:((L'.map (kS B)).set j J1).length=L'.length:=ae
  obtain⟨F,hF'⟩:=h1.chunk (L'.length+2) (by rw[aOY aa];simp;rfl);obtain⟨y,hy2⟩:=E.op (show aN.own w ec x F from hF');have h2:=h1.unpack (L'.length+2) ae (E.pk hy2);have hset:((L'.map (kS B)).set j J1++[sM (s.v ls.length) ls i.toNat,VY (VJ (s.v ls.length)) (UL (aN.n O) i.toNat (s.v ls.length)) ec,eU ec x]).set (L'.length+2) J1=(L'.map (kS B)).set j J1++[sM (s.v ls.length) ls i.toNat,VY (VJ (s.v ls.length)) (UL (aN.n O) i.toNat (s.v ls.length)) ec,J1]:=ae
  rw[hset] at h2;refine⟨y,[],aj,aj,⟨⟨R,?_,λz hz=>?_⟩,s0⟩⟩
  ·have e1:(L'.set j Ch.no).map (kS B)=(L'.map (kS B)).set j J1:=by rw[KT];rfl
   refine h2.imp ?_;rw[uH,m7,m7,<-e1,nL];refine jT.append (jT.refl _) (jT.append (.cons (λ_ h=>h) (.cons (λF h=>⟨_,_,ec,hB,eQ (λx v h=>by simpa using fW (B:=[]) B h) hy2,h⟩) (.cons (λ_ h=>h) .nil))) ?_);rw[E.nb x y B];exact jT.refl _
  ·rw[uH];rcases cY.1 hz with hz|hz
   ·rcases rG hz with hz|hz
    ·grind
    ·subst hz;trivial
   ·rcases cY.1 hz with hz|hz
    ·simp at hz;rcases hz with rfl|rfl|rfl
     ·trivial
     ·trivial
     ·exact hB
    ·exact aJ6 (E.no x y) z hz
theorem nw(O:Type)[aN O](hs:SM (jK T n K cf m e L)=some (K',cf',m',e',L'))
  (k:G (.mk P T hT n c B0 N X Q) K' m' e' (L'++[ow ⟨none,0⟩ ([]:List O)]) cf'):G (.mk P T hT n c B0 N X Q) K m e L cf:=by
 refine go hs ?_;refine chg (λ_:Unit=>m') (λ_=>e') (λ_=>L'++[ow ⟨none,0⟩ ([]:List O)]) (λB a w hm hA hS=>?_) (λ_=>sZ _) (λ_=>k);obtain⟨⟨R,s1,s2⟩,s0⟩:=hS;refine⟨(),[],aj,aj,⟨⟨R,?_,λz hz=>?_⟩,s0⟩⟩
 ·rw[uH,m7];exact St.more s1 (eK.refl _ _) ⟨F0,⟨none,0,rfl,iZ _,jD _,.inl ⟨rfl,rfl,λ_ _ h=>h⟩⟩,λ_ _ h=>h.elim⟩
 ·rw[uH];rcases cY.1 hz with hz|hz
  ·grind
  ·simp at hz;subst hz;trivial
theorem N0{Z:Act->World->Prop}(O:Type)[aN O](kk:∀a w,pA n c B0 m e (L++[ow ⟨none,0⟩ ([]:List O)]) a w->Z a w):∀a w,pA n c B0 m e L a w->Z a w:=by
 intro a w ⟨B,hm,hA,hS⟩;refine kk a w ⟨B,hm,hA,?_⟩;obtain⟨⟨R,s1,s2⟩,s0⟩:=hS;refine⟨⟨R,?_,λz hz=>?_⟩,s0⟩
 ·rw[m7];exact St.more s1 (eK.refl _ _) ⟨F0,⟨none,0,rfl,iZ _,jD _,.inl ⟨rfl,rfl,λ_ _ h=>h⟩⟩,λ_ _ h=>h.elim⟩
 ·rcases cY.1 hz with hz|hz
  ·grind
  ·simp at hz;subst hz;trivial
end
def AC.sub(s:AC)(n a:Nat):AC:=⟨if s.c=a then s.a else s.a.map (·.add (a*n)),s.c-a⟩
theorem WD{l:List O}{s:AC}{a b:Nat}(h1:a<=b)(h2:b<=l.length):iV n a b (s.v k)=(s.sub n a).v ((l.take b).drop a).length:=by rw[yT h1 h2];rfl
section
variable {P:Program} {T:TT} {hT:D6 P T} {n:Nat} {c:Ctx} {B0:Bl} {N:Act->World->Prop} {X:Nat->Act->World->Prop} {Q:Act->World->Prop} {K K':List Fr} {m m':Nat} {e e':SE} {L L' Lv:List Ch} {cf cf' cf1 cf2:sW} {o:Oper} {d:Nat}
theorem cpc[aN O](j:Nat){s:AC}{l:List O}(hs:SM (jK T n K cf m e L)=some (K',cf',m',e',L'))(hj:L'[j]?=some (ow s l))(k:l.length<=s.c->G (.mk P T hT n c B0 N X Q) K' m' e' L' cf'):G (.mk P T hT n c B0 N X Q) K m e L cf:=by refine go hs ?_;refine chg (λ_:PLift (l.length<=s.c)=>m') (λ_=>e') (λ_=>L') (λB a w hm hA hS=>?_) (λ_=>by simpa using sZ (L:=L') []) (λh=>k h.down);obtain⟨⟨R,s1,s2⟩,s0⟩:=hS;obtain⟨F,hF⟩:=s1.chunk (ch:=eU [s.v l.length] l) j (by simp[hj,kS]);obtain⟨ad,cp,h1,h2⟩:=MB (show aN.own w [s.v l.length] l F from hF);simp only[AC.v,Value.slice.injEq] at h1;exact⟨⟨aa⟩,[],aj,aj,⟨⟨R,aj,aj⟩,s0⟩⟩
section
variable {x y z u:Operand} {t el sz:Nat} {k1 k2 k3:IntKind} {i j p:Int} {O β:Type} [aN O] {A:Option β} {q:β} {s:AC} {l:List O} {b1 b2:Bool} {n1:Nat} {z1 z2:List SV} {kt:TK}
theorem aNQ(hc:l.length<=s.c)(hs:opS (jK T n K cf m e L)=some (o,Lv,cf1,cf2,K',m',e',L'))(ho:(o.op,o.dst)=(.slice t x (some y) none none,some d))(ht:wW T t=some ⟨.sl el,b1,n1,z1⟩)(he:wW T el=some ⟨kt,b2,sz,z2⟩)(hx:iG e' x=some (.h s l.length))(hy:(iG e' y).bind rI=some (k1,i))(hF:need (0<=i/\i<=(l.length:Int)) A=some q)
  (kk:A=some q->(i.toNat<=l.length/\l.length<=l.length)->G (.mk P T hT n c B0 N X Q) K' m' ((d,.h (s.sub sz i.toNat) ((l.take l.length).drop i.toNat).length)::e') L' cf2):G (.mk P T hT n c B0 N X Q) K m e L cf:=by
 have hop:o.op=.slice t x (some y) none none:=bZ Prod.fst ho;have hb:=(lZ hF).1;have hb2:i.toNat<=l.length/\l.length<=l.length:=aa
 refine pu hs (bZ Prod.snd ho) (λB a w hA hS=>⟨iV sz i.toNat l.length (s.v l.length),by grind[WD,fH,gV,bK],λ_ a hA'=>?_⟩) (kk (lZ hF).2 hb2);obtain⟨h0,h1⟩:=hb;have h5:max i 0=i:=aa
 simp[execOp,hop,Instr.sliceAt,Instr.slice,run_underlying (D3 ht hT),Instr.sliceBounds,hA'.eval (hdB hA hx),hA'.eval (wT hA hy),Instr.sliceBound,asIntOf,hT.size _ _ he,h0,h1,hc,h5,iV]
theorem aW7(hc:l.length<=s.c)(hs:opS (jK T n K cf m e L)=some (o,Lv,cf1,cf2,K',m',e',L'))(ho:(o.op,o.dst)=(.slice t x none (some z) none,some d))(ht:wW T t=some ⟨.sl el,b1,n1,z1⟩)(he:wW T el=some ⟨kt,b2,sz,z2⟩)(hx:iG e' x=some (.h s l.length))(hz:(iG e' z).bind rI=some (k2,j))(hF:need (0<=j/\j<=(l.length:Int)) A=some q)
  (kk:A=some q->(0<=j.toNat/\j.toNat<=l.length)->G (.mk P T hT n c B0 N X Q) K' m' ((d,.h (s.sub sz 0) ((l.take j.toNat).drop 0).length)::e') L' cf2):G (.mk P T hT n c B0 N X Q) K m e L cf:=by
 have hop:o.op=.slice t x none (some z) none:=bZ Prod.fst ho;have hb:=(lZ hF).1;have hb2:0<=j.toNat/\j.toNat<=l.length:=aa
 refine pu hs (bZ Prod.snd ho) (λB a w hA hS=>⟨iV sz 0 j.toNat (s.v l.length),by grind[WD,fH,gV,bK],λ_ a hA'=>?_⟩) (kk (lZ hF).2 hb2);obtain⟨h0,h1⟩:=hb;have h3:j<=(s.c:Int):=aa
 have h5:max j 0=j:=aa
 simp[execOp,hop,Instr.sliceAt,Instr.slice,run_underlying (D3 ht hT),Instr.sliceBounds,hA'.eval (hdB hA hx),hA'.eval (wT hA hz),Instr.sliceBound,asIntOf,hT.size _ _ he,h0,h3,h5,iV]
theorem bKG(hc:l.length<=s.c)(hs:opS (jK T n K cf m e L)=some (o,Lv,cf1,cf2,K',m',e',L'))(ho:(o.op,o.dst)=(.slice t x none (some z) (some u),some d))(ht:wW T t=some ⟨.sl el,b1,n1,z1⟩)(he:wW T el=some ⟨kt,b2,sz,z2⟩)(hx:iG e' x=some (.h s l.length))(hz:(iG e' z).bind rI=some (k2,j))(hu:(iG e' u).bind rI=some (k3,p))(hF:need (0<=j/\j<=p/\p<=(l.length:Int)) A=some q)
  (kk:A=some q->(0<=j.toNat/\j.toNat<=p.toNat/\p.toNat<=l.length)->G (.mk P T hT n c B0 N X Q) K' m' ((d,.h ⟨(s.sub sz 0).a,p.toNat⟩ ((l.take j.toNat).drop 0).length)::e') L' cf2):G (.mk P T hT n c B0 N X Q) K m e L cf:=by
 have hop:o.op=.slice t x none (some z) (some u):=bZ Prod.fst ho;have hb:=(lZ hF).1;have hb2:0<=j.toNat/\j.toNat<=p.toNat/\p.toNat<=l.length:=aa
 have hl:=yT (l:=l) (a:=0) (b:=j.toNat) aa aa;refine pu hs (bZ Prod.snd ho) (λB a w hA hS=>⟨AC.v ⟨(s.sub sz 0).a,p.toNat⟩ ((l.take j.toNat).drop 0).length,by simp[fH,gV,bK],λ_ a hA'=>?_⟩) (kk (lZ hF).2 hb2);obtain⟨h0,h1,h2⟩:=hb;have h3:p<=(s.c:Int):=aa
 have h4:0<=p:=aa
 have h5:max j 0=j:=aa
 have h6:max p 0=p:=aa
 rw[hl];have hadd:s.a.map (λx=>x.add 0)=s.a:=by simp[Addr.add]
 by_cases hp:p=0
 ·subst hp;simp[execOp,hop,Instr.sliceAt,Instr.slice,run_underlying (D3 ht hT),Instr.sliceBounds,hA'.eval (hdB hA hx),hA'.eval (wT hA hz),hA'.eval (wT hA hu),Instr.sliceBound,asIntOf,hT.size _ _ he,h0,h1,h3,h4,h5,h6,AC.sub,hadd]
 ·simp[execOp,hop,Instr.sliceAt,Instr.slice,run_underlying (D3 ht hT),Instr.sliceBounds,hA'.eval (hdB hA hx),hA'.eval (wT hA hz),hA'.eval (wT hA hu),Instr.sliceBound,asIntOf,hT.size _ _ he,h0,h1,h3,h4,h5,h6,AC.sub,hadd]
end
end
section
variable {P:Program} {T:TT} {hT:D6 P T} {n:Nat} {c:Ctx} {B0:Bl} {N:Act->World->Prop} {X:Nat->Act->World->Prop} {Q:Act->World->Prop} {K K':List Fr} {m m':Nat} {e e':SE} {L L' Lv:List Ch} {cf cf' cf1 cf2:sW} {o:Oper} {d:Nat}
theorem bFT[aN O]{R:List Fact}{a b:Nat}{s s':AC}{l l':List O}(hn:aN.n O=sz)(hj:L[j]?=some (ow s l))(hb:a<=b/\b<=l.length)(hl:(l.take b).drop a=l')(hs:∀w F,aN.own w [s.v l.length] l F->∃F',aN.own w [s'.v l'.length] l' F'/\∀b o,F' b o->F b o)(hS:lJ c w B L):lJ c w B (L.set j (ow s' l')):=by
 obtain⟨⟨R,s1,s2⟩,s0⟩:=hS;refine⟨⟨R,?_,λz hz=>?_⟩,s0⟩
 ·rw[KT];refine s1.aEG j (by rw[AS,hj];rfl) λF hF=>?_;obtain⟨F',h1,h2⟩:=hs w F hF;exact⟨F',F0,eK.refl _ _,λ_ _ h=>h.elim,h1,λb o h=>.inl (h2 b o h)⟩
 ·rcases rG hz with hz|hz
  ·grind
  ·subst hz;trivial
theorem a66[aN O]{s:AC}{l l':List O}{a b:Nat}(hn:aN.n O=sz)(hb:a<=b/\b<=l.length)(hl:(l.take b).drop a=l'):∀w F,aN.own w [s.v l.length] l F->∃F',aN.own w [(s.sub sz a).v l'.length] l' F'/\∀b o,F' b o->F b o:=by intro w F h;obtain⟨F',h1,h2⟩:=aZF hn h hb.1 hb.2;grind[WD]
theorem a67[aN O]{s:AC}{l l':List O}{b p:Nat}(hn:aN.n O=sz)(hb:0<=b/\b<=p/\p<=l.length)(hl:(l.take b).drop 0=l'):∀w F,aN.own w [s.v l.length] l F->∃F',aN.own w [AC.v ⟨(s.sub sz 0).a,p⟩ l'.length] l' F'/\∀b o,F' b o->F b o:=by
 intro w F h;obtain⟨F',h1,h2⟩:=a5X hn h hb.1 hb.2.1 hb.2.2;have hadd:s.a.map (λx=>x.add 0)=s.a:=by simp[Addr.add]
 have hln:=yT (l:=l) (a:=0) (b:=b) aa aa;rw[hl] at hln h1;refine⟨F',?_,h2⟩;simp_all[bBX,AC.sub]
theorem poR{Z:Act->World->Prop}[aN O](j a b:Nat){s:AC}{l l':List O}(hn:aN.n O=sz)(hj:L[j]?=some (ow s l))(hb:a<=b/\b<=l.length)(hl:(l.take b).drop a=l')
  (kk:∀a' w,pA n c B0 m e (L.set j (ow (s.sub sz a) l')) a' w->Z a' w):∀a' w,pA n c B0 m e L a' w->Z a' w:=by intro a' w ⟨B,hm,hA,hS⟩;exact kk a' w ⟨B,hm,hA,bFT (R:=[]) hn hj hb hl (a66 hn hb hl) hS⟩
theorem pmR{Z:Act->World->Prop}[aN O](j b p:Nat){s:AC}{l l':List O}(hn:aN.n O=sz)(hj:L[j]?=some (ow s l))(hb:0<=b/\b<=p/\p<=l.length)(hl:(l.take b).drop 0=l')
  (kk:∀a' w,pA n c B0 m e (L.set j (ow ⟨(s.sub sz 0).a,p⟩ l')) a' w->Z a' w):∀a' w,pA n c B0 m e L a' w->Z a' w:=by intro a' w ⟨B,hm,hA,hS⟩;exact kk a' w ⟨B,hm,hA,bFT (R:=[]) hn hj ⟨aa,aa⟩ hl (a67 hn hb hl) hS⟩
theorem aW8{l xs:List O}{a n:Nat}(h:k<=n/\n<=l.length)(ha:a<=l.length):k<=n/\n<=(cS l a xs).length:=⟨h.1,by grind[eZ]⟩
theorem aQ3{l xs:List O}{a:Nat}(h:k<=a)(ha:a<=l.length):((cS l a xs).take k).drop 0=(l.take k).drop 0:=by grind[cS]
def AC.bCL(s:AC)(n a p:Nat):AC:=⟨if p=a then s.a else s.a.map (·.add (a*n)),p-a⟩
section
variable {x y z:Operand} {t el sz:Nat} {zv:Value} {k1 k2:IntKind} {i j:Int} {O β:Type} [aN O] {A:Option β} {q:β} {s:AC} {l:List O} {b1 b2:Bool} {n1:Nat} {z1 z2:List SV} {kt:TK}
theorem ap2[Flat O](p a b:Nat)(hb:a<=b/\b<=l.length)(hs:jK T n K cf m e L=.op o Lv cf1 cf2 K' m' e' L')(ho:(o.op,o.dst)=(.call {callee:=.builtin .append,args:=#[x,y],argTypes:=#[t,t]},some d))(ht:wW T t=some ⟨.sl el,b1,n1,z1⟩)(he:wW T el=some ⟨kt,b2,sz,z2⟩)(hn:aN.n O=sz)(hp:L'[p]?=some (ow s l))(hz:fP p cf1.wY=true)(hx:iG e' x=some (.h (s.sub sz 0) ((l.take a).drop 0).length))(hy:iG e' y=some (.h (s.sub sz b) ((l.take l.length).drop b).length))
  (k:(0<=a+(l.length-b)/\a+(l.length-b)<=(cS l a (l.drop b)).length)->G (.mk P T hT n c B0 N X Q) K' m' ((d,.h (s.sub sz 0) (((cS l a (l.drop b)).take (a+(l.length-b))).drop 0).length)::e') (L'.set p (ow s (cS l a (l.drop b)))) cf2):G (.mk P T hT n c B0 N X Q) K m e L cf:=by
 have hlen:(cS l a (l.drop b)).length=l.length:=eZ aa;have hk:0<=a+(l.length-b)/\a+(l.length-b)<=(cS l a (l.drop b)).length:=aa
 refine gO (g:=.mk P T hT n c B0 N X Q) ?_;rw[hs];intro hdn _ hE;refine hE Unit (λ_=>m') (λ_=>(d,.h (s.sub sz 0) (((cS l a (l.drop b)).take (a+(l.length-b))).drop 0).length)::e') (λ_=>L'.set p (ow s (cS l a (l.drop b)))) (λ_=>I5 hz) (λB act w next Q' hm hA hS hnext=>?_) (λ_=>k hk);obtain⟨⟨R,s1,s2⟩,s0⟩:=hS;have hx2:ev (vE (V8 (.mk P T hT n c B0 N X Q) cf1++B) e') x=some (iV sz 0 a (s.v l.length)):=by rw[hdB hA hx,WD (jD a) (lO hb.1 hb.2)]
 have hy2:ev (vE (V8 (.mk P T hT n c B0 N X Q) cf1++B) e') y=some (iV sz b l.length (s.v l.length)):=by rw[hdB hA hy,WD hb.2 (iZ _)]
 have hop:o.op=.call {callee:=.builtin .append,args:=#[x,y],argTypes:=#[t,t]}:=bZ Prod.fst ho;have hd:o.dst=some d:=bZ Prod.snd ho;obtain⟨v,w',k1,rfl,k2⟩:=aWT p s1 (by rw[AS,hp];rfl) hn hb.1 hb.2 (D3 ht hT) (hT.size _ _ he) hop hx2 hy2;unfold Oper.wp;rw[k1 _ act hA.env,Oper.upon_value,hd];have hv:fH (V8 (.mk P T hT n c B0 N X Q) cf1++B) (.h (s.sub sz 0) (((cS l a (l.drop b)).take (a+(l.length-b))).drop 0).length)=some (iV sz 0 (a+(l.length-b)) (s.v l.length)):=by grind[WD,fH,gV,bK]
 refine hnext () _ _ ⟨[],aj,by simpa using hA.of hv (hA.env.put (by grind[qS,wD]) _),?_⟩;rw[uH];refine⟨⟨R,?_,λz hz=>?_⟩,s0⟩
 ·rw[KT];show St c w' ((L'.map _).set p (eU [s.v (cS l a (l.drop b)).length] _)) R;grind
 ·rcases rG hz with hz|hz
  ·grind
  ·subst hz;trivial
theorem a68(p k':Nat)(hk:k'<=l.length){l0:List O}(h0:l0.length=k')(hs:opS (jK T n K cf m e L)=some (o,Lv,cf1,cf2,K',m',e',L'))(ho:(o.op,o.dst)=(.slice t x (some y) (some z) none,some d))(ht:wW T t=some ⟨.sl el,b1,n1,z1⟩)(he:wW T el=some ⟨kt,b2,sz,z2⟩)(hn:aN.n O=sz)(hp:Lv[p]?=some (ow s l))(hx:iG e' x=some (.h (s.sub sz 0) l0.length))(hy:(iG e' y).bind rI=some (k1,i))(hz:(iG e' z).bind rI=some (k2,j))(hF:need (0<=i/\i<=j/\j<=(l.length:Int)) A=some q)
  (kk:A=some q->(i.toNat<=j.toNat/\j.toNat<=l.length)->G (.mk P T hT n c B0 N X Q) K' m' ((d,.h (s.sub sz i.toNat) ((l.take j.toNat).drop i.toNat).length)::e') L' cf2):G (.mk P T hT n c B0 N X Q) K m e L cf:=by
 have hop:o.op=.slice t x (some y) (some z) none:=bZ Prod.fst ho;have hb:=(lZ hF).1;have hb2:i.toNat<=j.toNat/\j.toNat<=l.length:=aa
 refine pu hs (bZ Prod.snd ho) (λB a w hA hS=>⟨iV sz i.toNat j.toNat (s.v l.length),by grind[WD,fH,gV,bK],?_⟩) (kk (lZ hF).2 hb2);obtain⟨⟨R,s1,s2⟩,s0⟩:=hS;have hx2:ev (vE B e') x=some (iV sz 0 k' (s.v l.length)):=by rw[hdB hA hx,h0];rfl
 exact aWU p s1 (by rw[AS,hp];rfl) hn (D3 ht hT) (hT.size _ _ he) hb hop hx2 (wT hA hy) (wT hA hz)
theorem clr[Flat O](p a b:Nat)(zd:O)(hb:a<=b/\b<=l.length)(hinf:SJ P el sz zv)(hzs:zv.cells.size=sz)(hzd:∀w,aN.rd F0 w zv.cells.toList zd)(hone:(zv.cells.toList.all λv=>v.oneCell')=true)(hs:jK T n K cf m e L=.op o Lv cf1 cf2 K' m' e' L')(ho:(o.op,o.dst)=(.call {callee:=.builtin .clear,args:=#[x],argTypes:=#[t]},none))(ht:wW T t=some ⟨.sl el,b1,n1,z1⟩)(hn:aN.n O=sz)(hp:L'[p]?=some (ow s l))(hz:fP p cf1.wY=true)(hx:iG e' x=some (.h (s.sub sz a) ((l.take b).drop a).length))
  (k:G (.mk P T hT n c B0 N X Q) K' m' e' (L'.set p (ow s (cS l a (List.replicate (b-a) zd)))) cf2):G (.mk P T hT n c B0 N X Q) K m e L cf:=by
 have hlen:(cS l a (List.replicate (b-a) zd)).length=l.length:=eZ aa;refine gO (g:=.mk P T hT n c B0 N X Q) ?_;rw[hs];intro hdn _ hE;refine hE Unit (λ_=>m') (λ_=>e') (λ_=>L'.set p (ow s (cS l a (List.replicate (b-a) zd)))) (λ_=>I5 hz) (λB act w next Q' hm hA hS hnext=>?_) (λ_=>k);obtain⟨⟨R,s1,s2⟩,s0⟩:=hS;have hx2:ev (vE (V8 (.mk P T hT n c B0 N X Q) cf1++B) e') x=some (iV sz a b (s.v l.length)):=by grind[hdB,WD]
 have hop:o.op=.call {callee:=.builtin .clear,args:=#[x],argTypes:=#[t]}:=bZ Prod.fst ho;have hd:o.dst=none:=bZ Prod.snd ho;obtain⟨v,w',k1,rfl,k2⟩:=a52 zd p s1 (by rw[AS,hp];rfl) hn hb.1 hb.2 (D3 ht hT) hinf hzs hzd (λv hv=>V3.1 hone v hv) hop hx2;unfold Oper.wp;rw[k1 _ act hA.env,Oper.upon_value,hd];refine hnext () _ _ ⟨[],aj,by grind[Act.put],?_⟩;rw[uH];refine⟨⟨R,?_,λz hz=>?_⟩,s0⟩
 ·rw[KT];show St c w' ((L'.map _).set p (eU [s.v (cS l a (List.replicate (b-a) zd)).length] _)) R;grind
 ·rcases rG hz with hz|hz
  ·grind
  ·subst hz;trivial
theorem aW9{u:Operand}{k3:IntKind}{pz:Int}(hc:l.length<=s.c)(hs:opS (jK T n K cf m e L)=some (o,Lv,cf1,cf2,K',m',e',L'))(ho:(o.op,o.dst)=(.slice t x (some y) (some z) (some u),some d))(ht:wW T t=some ⟨.sl el,b1,n1,z1⟩)(he:wW T el=some ⟨kt,b2,sz,z2⟩)(hx:iG e' x=some (.h s l.length))(hy:(iG e' y).bind rI=some (k1,i))(hz:(iG e' z).bind rI=some (k2,j))(hu:(iG e' u).bind rI=some (k3,pz))(hF:need (0<=i/\i<=j/\j<=pz/\pz<=(l.length:Int)) A=some q)
  (kk:A=some q->(i.toNat<=j.toNat/\j.toNat<=pz.toNat/\pz.toNat<=l.length)->G (.mk P T hT n c B0 N X Q) K' m' ((d,.h (s.bCL sz i.toNat pz.toNat) ((l.take j.toNat).drop i.toNat).length)::e') L' cf2):G (.mk P T hT n c B0 N X Q) K m e L cf:=by
 have hop:o.op=.slice t x (some y) (some z) (some u):=bZ Prod.fst ho;have hb:=(lZ hF).1;have hb2:i.toNat<=j.toNat/\j.toNat<=pz.toNat/\pz.toNat<=l.length:=aa
 have hl:=yT (l:=l) (a:=i.toNat) (b:=j.toNat) aa aa;refine pu hs (bZ Prod.snd ho) (λB a w hA hS=>⟨AC.v (s.bCL sz i.toNat pz.toNat) ((l.take j.toNat).drop i.toNat).length,by simp[fH,gV,bK],λ_ a hA'=>?_⟩) (kk (lZ hF).2 hb2);obtain⟨h0,h1,h2,h2'⟩:=hb;have h3:pz<=(s.c:Int):=aa
 have h4:0<=pz:=aa
 have h4':0<=j:=aa
 have h5:max j 0=j:=aa
 have h6:max pz 0=pz:=aa
 have h7:max i 0=i:=aa
 rw[hl];by_cases hp:pz.toNat=i.toNat
 ·have:pz=i:=aa
  subst this;simp[execOp,hop,Instr.sliceAt,Instr.slice,run_underlying (D3 ht hT),Instr.sliceBounds,hA'.eval (hdB hA hx),hA'.eval (wT hA hy),hA'.eval (wT hA hz),hA'.eval (wT hA hu),Instr.sliceBound,asIntOf,hT.size _ _ he,h0,h1,h2,h3,h4,h4',h5,h6,h7,AC.bCL]
 ·have hp2:¬pz=i:=λh=>hp (by rw[h]);simp[execOp,hop,Instr.sliceAt,Instr.slice,run_underlying (D3 ht hT),Instr.sliceBounds,hA'.eval (hdB hA hx),hA'.eval (wT hA hy),hA'.eval (wT hA hz),hA'.eval (wT hA hu),Instr.sliceBound,asIntOf,hT.size _ _ he,h0,h1,h2,h3,h4,h4',h5,h6,h7,hp,hp2,AC.bCL]
theorem bNA(hs:opS (jK T n K cf m e L)=some (o,Lv,cf1,cf2,K',m',e',L'))(ho:(o.op,o.dst)=(.binOp .shl t x y t2,some d))(hx:(iG e' x).bind rI=some (k1,i))(hy:(iG e' y).bind rI=some (k2,j))(hF:need (0<=j) A=some q)
  (kk:A=some q->G (.mk P T hT n c B0 N X Q) K' m' ((d,.i k1 (aJN k1 i j))::e') L' cf2):G (.mk P T hT n c B0 N X Q) K m e L cf:=pu hs (bZ Prod.snd ho) (λB a w hA _=>⟨_,rfl,a48 (bZ Prod.fst ho) (wT hA hx) (wT hA hy) (by grind[lZ])⟩) (kk (lZ hF).2)
theorem eqn{ln:Nat}(hs:opS (jK T n K cf m e L)=some (o,Lv,cf1,cf2,K',m',e',L'))(ho:(o.op,o.dst)=(.binOp .eql t x (.const (.slice none 0 0)) t2,some d))(ht:wW T t=some ⟨.sl el,b1,n1,z1⟩)(hx:iG e' x=some (.h s ln))
  (kt:s.a=none->G (.mk P T hT n c B0 N X Q) K' m' ((d,.l true)::e') L' cf2) (kf:G (.mk P T hT n c B0 N X Q) K' m' ((d,.l false)::e') L' cf2):G (.mk P T hT n c B0 N X Q) K m e L cf:=by
 cases hs':s.a with
 |none=>exact pu hs (bZ Prod.snd ho) (λB a w hA _=>⟨_,rfl,aWR (D3 ht hT) ⟨ln,s.c,aj⟩ (bZ Prod.fst ho) (hdB hA hx) rfl⟩) (kt hs')
 |some ad=>exact pu hs (bZ Prod.snd ho) (λB a w hA _=>⟨_,rfl,aWS (D3 ht hT) ⟨ad,ln,s.c,aj⟩ (bZ Prod.fst ho) (hdB hA hx) rfl⟩) kf
theorem cln{w:Ctx}{r:List O}(h:bL w s l)(hn:s.a=none)(hF:need (([]:List O).length+l.length<=1073741824) (some (([]:List O)++l))=some r):some ([]:List O)=some r:=by obtain⟨ad,cp,h1,h2,h3,h4⟩:=(show qV w.S0 w.w0 [s.v l.length] l from h);grind[need]
end
section
variable {x y:Operand} {t el sz:Nat} {zv:Value} {b1:Bool} {n1:Nat} {z1:List SV}
theorem Y7[aN O](E:CO O)(is:List Nat)(q:O)(ye:E.ex)(hinf:SJ P el sz zv)(q0_:jK T n K cf m e L=.op o Lv cf1 cf2 K' m' e' L'/\(o.op,o.dst)=(.buildSlice t 1 #[(0,x)],some d)/\wW T t=some ⟨.sl el,b1,n1,z1⟩/\aN.n O=sz/\Nat.ble 1 sz=true/\Nat.ble sz 16777216=true/\(iG e' x).map (λv=>nbL (mH v))=some (E.cs q ye)/\(iG e' x).map isCells=some true/\(E.cs q ye).length=sz/\(aT (bK []) (E.cs q ye)).isSome=true/\aT (λi=>L'[i]?) is=some (E.Lx q ye)/\dE is=true/\(is.all λj=>fP j cf1.wY)=true)
  (k:∀s':AC,G (.mk P T hT n c B0 N X Q) K' m' ((d,.h s' [q].length)::e') (G4 L' is++[ow s' [q]]) cf2):G (.mk P T hT n c B0 N X Q) K m e L cf:=by
 obtain⟨hs,ho,ht,hn,hm,hm2,hx,hxc,hle,hec,hi,ha,hz⟩:=q0_;obtain⟨ec,hec⟩:=aB3.1 hec;refine aNP (l:=[q]) (λs'=>G4 L' is++[ow s' [q]]) hs (bZ Prod.snd ho) (λ_=>OK _ hz) (λB a w hA hS=>?_) k;obtain⟨⟨R,s1,s2⟩,s0⟩:=hS;have hecl:ec.length=sz:=by grind[kW]
 cases hxv:iG e' x with
 |none=>grind
 |some xv=>
  rw[hxv] at hx hxc;simp at hx hxc;obtain⟨v,v1,v2⟩:=eF hA hxv;have hcell:aT (bK B) (mH xv)=some ec:=by rw[<-K9,hx];exact eQ (λx v h=>by simpa using fW (B:=[]) B h) hec
  have hvc:v.cells.toList=ec:=MC v1 hcell;have p1:=s1.shift is ha (A':=[eU ec q]) λF hF=>by rw[LB hi,E.nb] at hF;exact Sep.one.2 ((E.pk hec w F).2 hF)
  have hlen:(blank (L'.map (kS B)) is).length=L'.length:=by rw[<-ED];simp[aIN]
  obtain⟨v',w',k1,k2⟩:=aZE (e:=vE B e') (o:=o) (ps:=[(0,x)]) (vs:=[v]) (cells:=ec) [q] p1 [L'.length] rfl ⟨[],by
    simp only[pick,aOY (UK hlen),hlen,Nat.sub_self];grind,aj,⟨aj,rfl⟩⟩ hn (D3 ht hT) hinf rfl hm aj (bZ Prod.fst ho) (by simp[evs,v2]) (aB7 (vs:=[v]) (ps:=[(0,x)]) rfl rfl aj (by simp[hvc]))
  have hb2:blank (blank (L'.map (kS B)) is++[eU ec q]) [L'.length]=blank (L'.map (kS B)) is++[J1]:=by simp_all[blank]
  rw[hb2] at k2;obtain⟨s',rfl⟩:=aAT (v:=v') (l:=[q]) k2 (L'.length+1) aj;refine⟨s',w',k1,⟨⟨R,?_,λz hz=>?_⟩,s0⟩⟩
  ·have k3:=k2.sel ((List.range L'.length)++[L'.length+1]) ?_
   ·refine k3.imp ?_;rw[m7,ED,aCH];refine jT.append ?_ ?_
    ·have:pick (blank (L'.map (kS B)) is++[J1]++[eU [s'.v [q].length] [q]]) (List.range L'.length)=blank (L'.map (kS B)) is:=by
      have gen:∀(M M':List Chunk) (j:Nat),pick (M++M') ((List.range j))=(M++M').take j\/¬j<=(M++M').length:=by
       intro M M' j;by_cases hj:j<=(M++M').length
       ·left;induction j with
        |zero=>rfl
        |succ j ih=>
         grind[List.range_succ,aCH,pick,List.take_add_one]
       omega
      grind
     grind[jT.refl]
    simp_all[pick,kS,jT.refl]
   ·have gen:∀(j:Nat),dE (List.range' j (L'.length-j)++[L'.length+1])=true:=by
     intro j;generalize hk:L'.length-j=k;induction k generalizing j with
     |zero=>rfl
     |succ k ih=>
      rw[List.range'_succ,DM];simp only[dE,uG,V3,aWL];grind[nM]
    have:=gen 0;simp_all[List.range_eq_range']
  ·rcases cY.1 hz with hz|hz
   ·rcases LA _ _ hz with hz|hz
    ·grind
    ·subst hz;trivial
   ·simp at hz;subst hz;trivial
theorem apN[aN O]{A:Option β}{q:β}{s s2:AC}{l xs:List O}(i j:Nat)(hinf:SJ P el sz zv)(hs:jK T n K cf m e L=.op o Lv cf1 cf2 K' m' e' L')(ho:(o.op,o.dst)=(.call {callee:=.builtin .append,args:=#[x,y],argTypes:=#[t,t]},some d))(q0_:wW T t=some ⟨.sl el,b1,n1,z1⟩/\aN.n O=sz/\zv.cells.size=sz/\L'[i]?=some (ow s l)/\L'[j]?=some (ow s2 xs)/\dE [i,j]=true/\([i,j].all λj=>fP j cf1.wY)=true/\iG e' x=some (.h s l.length)/\iG e' y=some (.h s2 xs.length))(hF:need (l.length+xs.length<=1073741824) A=some q)
  (k:A=some q->∀s':AC,G (.mk P T hT n c B0 N X Q) K' m' ((d,.h s' (l++xs).length)::e') (G4 L' [i,j]++[ow s' (l++xs)]) cf2):G (.mk P T hT n c B0 N X Q) K m e L cf:=by
 obtain⟨ht,hn,hzs,hi,hj,ha,hz,hx,hy⟩:=q0_;refine aNP (l:=l++xs) (λs'=>G4 L' [i,j]++[ow s' (l++xs)]) hs (bZ Prod.snd ho) (λ_=>OK _ hz) (λB a w hA hS=>?_) (k (lZ hF).2);obtain⟨⟨R,s1,s2'⟩,s0⟩:=hS;have hp:pick (L'.map (kS B)) [i,j]=[eU [s.v l.length] l,eU [s2.v xs.length] xs]:=by grind[pick,kS]
 obtain⟨v,w',k1,k2⟩:=bBP [i,j] s1 ha hp hn (D3 ht hT) hinf hzs (lZ hF).1 (bZ Prod.fst ho) (hdB hA hx) (hdB hA hy);have hlen:(blank (L'.map (kS B)) [i,j]).length=L'.length:=by rw[<-ED];simp[aIN]
 obtain⟨s',rfl⟩:=aAT k2 L'.length (by rw[aOY (UK hlen),hlen,Nat.sub_self];rfl);refine⟨s',w',k1,⟨⟨R,?_,λz hz=>?_⟩,s0⟩⟩
 ·rw[m7,ED];exact k2
 ·rcases cY.1 hz with hz|hz
  ·rcases LA _ _ hz with hz|hz
   ·grind
   ·subst hz;trivial
  ·simp at hz;subst hz;trivial
end
theorem kb{b cb:Bool}(ss:List Nat)(hb:b=cb)(hs:SM (jK T n K cf m e L)=some (K',cf',m',e',L'))(ho:aT (CV e') ss=some (ss.map λ_=>SV.b b))(k:G (.mk P T hT n c B0 N X Q) K' m' (ovr cb e' ss) L' cf'):G (.mk P T hT n c B0 N X Q) K m e L cf:=go hs (aJ5 (λa B hA=>YU hb ss ho hA) k)
def rhE(v:SV)(e:SE):List (Nat×Nat)->SE
 |[]=>e
 |(k,j)::r=>match CV e k with
  |some (.g cs)=>(k,.g (ovw cs j [v]))::rhE v e r
  |some (.t cs)=>(k,.t (ovw cs j [v]))::rhE v e r
  |_=>rhE v e r
def rhL(v:SV)(L:List Ch):List (Nat×Nat)->List Ch
 |[]=>L
 |(k,j)::r=>match L[k]? with
  |some (.box n cs)=>rhL v (L.set k (.box n (ovw cs j [v]))) r
  |_=>rhL v L r
theorem aIO{B:Bl}{f:Bl->SV->Option Value}{u v:SV}(huv:∀B,f B u=f B v):∀{cs:List SV} {j:Nat},cs[j]?=some u->aT (f B) (ovw cs j [v])=aT (f B) cs
 |[],j,h=>by simp at h
 |x::cs,0,h=>by grind[aT,ovw,aQS]
 |x::cs,j + 1,h=>by show aT (f B) (x::ovw cs j [v])=_;simp only[aT,aIO (B:=B) huv (show cs[j]?=some u by grind)]
theorem a69{s:AC}{n0 n1:Nat}(hn:n0=n1){B:Bl}:∀{ps:List (Nat×Nat)} {k:Nat} {x:SV},(∀p∈ps,∃cs,(CV e p.1=some (.g cs)\/CV e p.1=some (.t cs))/\cs[p.2]?=some (.h s n0))->CV (rhE (.h s n1) e ps) k=some x->∃y,CV e k=some y/\fH B x=fH B y
 |[],k,x,_,h=>⟨x,h,rfl⟩
 |(k',j)::r,k,x,hp,h=>by
  have ih:=λh=>a69 hn (B:=B) (ps:=r) (k:=k) (x:=x) (λp hp'=>hp p (lH _ hp')) h;obtain⟨cs,h1,h2⟩:=hp (k',j) ae;have hc:∀B,bK B (.h s n0)=bK B (.h s n1):=λB=>by rw[hn]
  have hg:∀B,gV B (.h s n0)=gV B (.h s n1):=λB=>by rw[hn]
  rcases h1 with h1|h1
  ·simp only[rhE,h1,CV] at h;split at h
   ·rename_i hb;cases h;have:=nM hb;subst this;exact⟨_,h1,by simp only[fH,gV,aIO (f:=bK) hc h2]⟩
   grind
  ·simp only[rhE,h1,CV] at h;split at h
   ·rename_i hb;cases h;have:=nM hb;subst this;exact⟨_,h1,by simp only[fH,aIO (f:=gV) hg h2]⟩
   grind
theorem aZ8{s:AC}{n0 n1:Nat}(hn:n0=n1){B:Bl}{w:World}{R:List Fact}:∀{ps:List (Nat×Nat)} {L:List Ch},(∀p∈ps,∃k cs,L[p.1]?=some (.box k cs)/\cs[p.2]?=some (.h s n0))->dE (ps.map (·.1))=true->jT w (L.map (kS B)) ((rhL (.h s n1) L ps).map (kS B))/\((∀x∈L,roF B R x)->∀x∈rhL (.h s n1) L ps,roF B R x)
 |[],L,_,_=>⟨jT.refl _,λh=>h⟩
 |(i,j)::r,L,hp,ha=>by
  obtain⟨k,cs,h1,h2⟩:=hp (i,j) ae;have hc:∀B,bK B (.h s n0)=bK B (.h s n1):=λB=>by rw[hn]
  simp only[AT,dE,uG] at ha;have ih:=aZ8 hn (B:=B) (w:=w) (R:=R) (ps:=r) (L:=L.set i (.box k (ovw cs j [.h s n1]))) (λp hp'=>by
   obtain⟨k',cs',h3,h4⟩:=hp p (lH _ hp');have hne:i≠p.1:=λhe=>by have:=V3.1 ha.1 p.1 (List.mem_map_of_mem hp');simp_all
   exact⟨k',cs',aj,h4⟩) ha.2
  simp only[rhL,h1];refine⟨?_,λh=>ih.2 λx hx=>?_⟩
  ·have h5:jT w (L.map (kS B)) ((L.set i (.box k (ovw cs j [.h s n1]))).map (kS B)):=by rw[KT];exact jT.put (a:=SN B k cs) (b:=SN B k (ovw cs j [.h s n1])) i (by rw[AS,h1];rfl) λF ⟨b,z,vs,q1,q2,q3⟩=>⟨b,z,vs,q1,by rw[aIO (f:=bK) hc h2];exact q2,q3⟩
   have tr:∀{A B C:List Chunk},jT w A B->jT w B C->jT w A C:=by
    intro A B C h1;induction h1 generalizing C with
    |nil=>simp
    |cons h t ih=>intro h2;cases h2 with|cons h' t'=>exact .cons (λF hF=>h' F (h F hF)) (ih t')
   grind
  ·rcases rG hx with hx|hx
   ·exact h x hx
   ·subst hx;trivial
def atE(e:SE)(p:Nat×Nat):Option SV:=match CV e p.1 with
 |some (.g cs)=>cs[p.2]?
 |some (.t cs)=>cs[p.2]?
 |_=>none
def atL(L:List Ch)(p:Nat×Nat):Option SV:=match L[p.1]? with
 |some (.box _ cs)=>cs[p.2]?
 |_=>none
theorem a7A{a:Act}(s:AC)(hn:n0=n1){ps qs:List (Nat×Nat)}(hp:aT (atE e) ps=some (ps.map λ_=>.h s n0))(hq:aT (atL L) qs=some (qs.map λ_=>.h s n0))(ha:dE (qs.map (·.1))=true)(hA:gQ n B e a)(hS:lJ c w B L):gQ n B (rhE (.h s n1) e ps) a/\lJ c w B (rhL (.h s n1) L qs):=by
 have key:∀{γ:Type} {f:γ->Option SV} {ps:List γ},aT f ps=some (ps.map λ_=>.h s n0)->∀p∈ps,f p=some (.h s n0):=by
  intro γ f ps;induction ps with
  |nil=>simp
  |cons q ps ih=>
   grind[aT]
 refine⟨⟨hA.d,hA.size,λk x hk=>?_⟩,?_⟩
 ·obtain⟨y,h1,h2⟩:=a69 hn (B:=B) (λp hp'=>by
   have:=key hp p hp';unfold atE at this;grind) hk
  obtain⟨v,h3,h4⟩:=hA.get k y h1;grind
 ·obtain⟨⟨R,s1,s2⟩,s0⟩:=hS;obtain⟨h1,h2⟩:=aZ8 hn (B:=B) (w:=w) (R:=R) (L:=L) (λp hp'=>by
   have:=key hq p hp';unfold atL at this;split at this
   ·rename_i k cs hc;exact⟨k,cs,hc,this⟩
   grind) ha
  exact⟨⟨R,s1.imp h1,h2 s2⟩,s0⟩
theorem aIP{g:Gx}{cf:sW}{v:SV}:∀{qs:List (Nat×Nat)} {L M:List Ch},Frz g cf L M->((qs.map (·.1)).all λj=>fP j cf.wY)=true->Frz g cf L (rhL v M qs)
 |[],L,M,h,_=>h
 |(i,j)::r,L,M,h,hz=>by
  simp only[AT,V2,uG] at hz;simp only[rhL];split
  ·exact aIP (qs:=r) (aTQ h hz.1) hz.2
  ·exact aIP (qs:=r) h hz.2
theorem qW{Z:Act->World->Prop}(s:AC)(hn:n0=n1)(ps qs:List (Nat×Nat))(q0_:aT (atE e) ps=some (ps.map λ_=>.h s n0)/\aT (atL L) qs=some (qs.map λ_=>.h s n0)/\dE (qs.map (·.1))=true)
  (kk:∀a w,pA n c B0 m (rhE (.h s n1) e ps) (rhL (.h s n1) L qs) a w->Z a w):∀a w,pA n c B0 m e L a w->Z a w:=by obtain⟨hp,hq,ha⟩:=q0_;intro a w ⟨B,hm,hA,hS⟩;obtain⟨h1,h2⟩:=a7A s hn hp hq ha hA hS;exact kk a w ⟨B,hm,h1,h2⟩
end
variable{s:AC}
section
variable {P:Program} {T:TT} {hT:D6 P T} {n:Nat} {c:Ctx} {B0:Bl} {N:Act->World->Prop} {X:Nat->Act->World->Prop} {Q:Act->World->Prop} {K K':List Fr} {m m':Nat} {e e':SE} {L L' Lv:List Ch} {cf cf' cf1 cf2:sW} {o:Oper} {d:Nat}
section
variable {x:Operand} {t t2 el sz:Nat} {b1 b2 b3:Bool} {n1 n2 n3:Nat} {z1 z2 z3:List SV}
theorem qbo(p:Nat){l:List UInt8}(hs:opS (jK T n K cf m e L)=some (o,Lv,cf1,cf2,K',m',e',L'))(ho:(o.op,o.dst)=(.convert t t2 x,some d))(ht:wW T t=some ⟨.sl el,b1,n1,z1⟩)(he:wW T el=some ⟨.i .u8,b2,n2,z2⟩)(h2:wW T t2=some ⟨.s,b3,n3,z3⟩)(hp:Lv[p]?=some (ow s l))(hx:iG e' x=some (.h s l.length))
  (kk:G (.mk P T hT n c B0 N X Q) K' m' ((d,.s l)::e') L' cf2):G (.mk P T hT n c B0 N X Q) K m e L cf:=by refine pu hs (bZ Prod.snd ho) (λB a w hA hS=>⟨_,rfl,?_⟩) kk;obtain⟨⟨R,s1,s2⟩,s0⟩:=hS;have hr:=s1.aY8 (cs:=[s.v l.length]) (d:=l) p (by simp[hp,kS]);obtain⟨de,q1,q2⟩:=hT.und _ _ he;exact bGW hr (D3 ht hT) aj (bKC h2 hT) (bZ Prod.fst ho) (hdB hA hx)
theorem bCO[aN O](E:CO O){q:O}{y:E.ex}(h:aT (bK []) (E.cs q y)=some ec)(hL:E.Lx q y=[])(w:World):aN.rd F0 w ec q:=by have:=(E.pk h w F0).2 (by rw[hL];exact λ_ _ h=>h);grind[aN.own_rd]
theorem lits{O:Type}[aN O](E:CO O)(y:E.ex){sz:Nat}{B:Bl}{a:Act}(hA:gQ n B e a)(hL:∀q,E.Lx q y=[]):∀{ps:List (Nat×Operand)} {qs:List O},aT (λp=>(iG e p.2).map λv=>nbL (mH v)) ps=some (qs.map λq=>E.cs q y)->(qs.all λq=>Nat.beq (E.cs q y).length sz && (aT (bK []) (E.cs q y)).isSome)=true ->
  ∃vs cells,evs (vE B e) (ps.map (·.2))=some vs/\vs.length=ps.length/\(vs.all λv=>v.cells.size == sz)=true/\(vs.flatMap λv=>v.cells.toList)=cells/\aO1 sz cells qs
 |[],[],_,_=>⟨[],[],rfl,rfl,rfl,rfl,rfl⟩
 |[],q::qs,h,_=>by cases h
 |p::ps,[],h,_=>by grind[aT]
 |p::ps,q::qs,h,hc=>by
  simp only[aT,AT] at h;split at h
  ·cases h
  ·rename_i c0 h1;split at h
   ·cases h
   ·rename_i cs h2;simp only[Option.some.injEq,List.cons.injEq] at h;obtain⟨rfl,rfl⟩:=h;simp only[V2,uG] at hc;obtain⟨⟨hl,hsome⟩,hc⟩:=hc;obtain⟨vs,cells,g1,g2,g3,g4,g5⟩:=lits E y hA hL h2 (by simpa using hc);obtain⟨ec,hec⟩:=aB3.1 hsome;cases hxv:iG e p.2 with
    |none=>rw[hxv] at h1;cases h1
    |some xv=>
     rw[hxv] at h1;simp at h1;obtain⟨v,v1,v2⟩:=eF hA hxv;have hcell:aT (bK B) (mH xv)=some ec:=by rw[<-K9,h1];exact eQ (λx v h=>by simpa using fW (B:=[]) B h) hec
     have hvc:v.cells.toList=ec:=MC v1 hcell;have hecl:ec.length=sz:=by rw[kW hec];exact nM hl
     refine⟨v::vs,ec++cells,by simp[evs,v2,g1],by simp[g2],?_,by simp[hvc,g4],?_,?_⟩
     ·rw[V2,g3,<-Array.length_toList,hvc,hecl];simp
     ·rw[List.take_append_of_le_length (UK hecl.symm),<-hecl,List.take_length];exact bCO E hec (hL q) _
     ·rw[List.drop_append_of_le_length (UK hecl.symm),<-hecl,List.drop_length,V5,hecl];exact g5
theorem ltK[aN O][Flat O](E:CO O)(y:E.ex)(qs:List O){len:Nat}{ps:List (Nat×Operand)}{zv:Value}(hinf:SJ P el sz zv)(q0_:jK T n K cf m e L=.op o Lv cf1 cf2 K' m' e' L'/\(o.op,o.dst)=(.buildSlice t len ⟨ps⟩,some d)/\wW T t=some ⟨.sl el,b1,n1,z1⟩/\aN.n O=sz/\qs.length=len/\Nat.ble 1 sz=true/\Nat.ble (len*sz) 16777216=true/\ps.map (·.1)=List.range' 0 len/\aT (λp=>(iG e' p.2).map λv=>nbL (mH v)) ps=some (qs.map λq=>E.cs q y)/\(qs.all λq=>Nat.beq (E.cs q y).length sz && (aT (bK []) (E.cs q y)).isSome)=true)(hL:∀q,E.Lx q y=[])
  (k:∀s':AC,G (.mk P T hT n c B0 N X Q) K' m' ((d,.h s' qs.length)::e') (L'++[ow s' qs]) cf2):G (.mk P T hT n c B0 N X Q) K m e L cf:=by
 obtain⟨hs,ho,ht,hn,hl,hm,hsm,hix,hev,hec⟩:=q0_;refine aNP (l:=qs) (λs'=>L'++[ow s' qs]) hs (bZ Prod.snd ho) (λ_=>sZ _) (λB a w hA hS=>?_) k;obtain⟨⟨R,s1,s2⟩,s0⟩:=hS;obtain⟨vs,cells,g1,g2,g3,g4,g5⟩:=lits E y (sz:=sz) hA hL hev hec;have hpl:ps.length=len:=by have:=bZ List.length hix;grind
 obtain⟨v,w',k1,k2⟩:=a5J (e:=vE B e') (o:=o) (ps:=ps) (vs:=vs) (cells:=cells) qs s1 hn (D3 ht hT) hinf hl hm hsm g5 (bZ Prod.fst ho) g1 (aB7 hix (by rw[g2,hpl]) g3 g4);obtain⟨s',rfl⟩:=aAT (v:=v) (l:=qs) k2 (L'.map (kS B)).length ae;refine⟨s',w',k1,⟨⟨R,by grind[kS],λz hz=>?_⟩,s0⟩⟩;rcases cY.1 hz with hz|hz
 ·grind
 ·simp at hz;subst hz;trivial
end
end
section
variable {P:Program} {T:TT} {hT:D6 P T} {n:Nat} {c:Ctx} {B0:Bl} {N:Act->World->Prop} {X:Nat->Act->World->Prop} {Q:Act->World->Prop} {K K':List Fr} {m m':Nat} {e e':SE} {L L' Lv:List Ch} {cf cf' cf1 cf2:sW} {o:Oper} {d:Nat}
theorem un[aN O](j:Nat)(ks:List Nat)(ps qs:List (Nat×Nat)){l:List O}(q0_:L[j]?=some (.o (eU [s.v n0] l))/\fP j cf.wY=true/\aT (CV e) ks=some (ks.map λ_=>.h s n0)/\aT (atE (ovh (.h s l.length) e ks)) ps=some (ps.map λ_=>.h s n0)/\aT (atL (L.set j (ow s l))) qs=some (qs.map λ_=>.h s n0)/\(dE (qs.map (·.1)) && (qs.map (·.1)).all λj=>fP j cf.wY)=true)
  (k:l.length=n0->G (.mk P T hT n c B0 N X Q) K m (rhE (.h s l.length) (ovh (.h s l.length) e ks) ps) (rhL (.h s l.length) (L.set j (ow s l)) qs) cf):G (.mk P T hT n c B0 N X Q) K m e L cf:=by
 obtain⟨hj,hz,hk,hp,hq,ha⟩:=q0_;rw[uG] at ha;refine chg (λ_:PLift (l.length=n0)=>m) (λ_=>rhE (.h s l.length) (ovh (.h s l.length) e ks) ps) (λ_=>rhL (.h s l.length) (L.set j (ow s l)) qs) (λB a w hm hA hS=>?_) (λ_=>aIP (I5 hz) ha.2) (λh=>k h.down);have hn:l.length=n0:=by obtain⟨⟨R,s1,s2⟩,s0⟩:=hS;obtain⟨F,hF⟩:=s1.chunk (ch:=eU [s.v n0] l) j (by simp[hj,kS]);obtain⟨ad,cp,h1,h2⟩:=MB (show aN.own w [s.v n0] l F from hF);grind
 subst hn;have hS':lJ c w B (L.set j (ow s l)):=by grind[aOZ]
 obtain⟨h1,h2⟩:=a7A s rfl hp hq ha.1 (aQ0 ks hk hA) hS';exact⟨⟨rfl⟩,[],aj,aj,aj⟩
theorem rr(s:AC)(hn:n0=n1)(ks:List Nat)(ps qs:List (Nat×Nat))(hk:aT (CV e) ks=some (ks.map λ_=>.h s n0))(hp:aT (atE (ovh (.h s n1) e ks)) ps=some (ps.map λ_=>.h s n0))(hq:aT (atL L) qs=some (qs.map λ_=>.h s n0))(ha:(dE (qs.map (·.1)) && (qs.map (·.1)).all λj=>fP j cf.wY)=true)
  (k:G (.mk P T hT n c B0 N X Q) K m (rhE (.h s n1) (ovh (.h s n1) e ks) ps) (rhL (.h s n1) L qs) cf):G (.mk P T hT n c B0 N X Q) K m e L cf:=by rw[uG] at ha;subst hn;refine chg (λ_:Unit=>m) (λ_=>rhE (.h s n0) (ovh (.h s n0) e ks) ps) (λ_=>rhL (.h s n0) L qs) (λB a w hm hA hS=>?_) (λ_=>aIP (by simpa using sZ (L:=L) []) ha.2) (λ_=>k);obtain⟨h1,h2⟩:=a7A s rfl hp hq ha.1 (aQ0 ks hk hA) hS;simp_all
theorem cpy{d:Option Nat}{y:Operand}[aN O][Flat O]{s2:AC}{l xs:List O}{kt:TK}(p a:Nat)(hb:a<=l.length/\l.length<=l.length)(hsrc:∀{w},HS c w L'->bL (dZ w) s2 xs)(hs:jK T n K cf m e L=.op o Lv cf1 cf2 K' m' e' L')(ho:(o.op,o.dst)=(.call {callee:=.builtin .copy,args:=#[x,y],argTypes:=#[t,t2]},d))(ht:wW T t=some ⟨.sl el,b1,n1,z1⟩)(he:wW T el=some ⟨kt,b2,sz,z2⟩)(hn:aN.n O=sz)(hp:(L'[p]?,fP p cf1.wY)=(some (ow s l),true))(hx:iG e' x=some (.h (s.sub sz a) ((l.take l.length).drop a).length))(hy:iG e' y=some (.h s2 xs.length))
  (k:G (.mk P T hT n c B0 N X Q) K' m' (dse d (.i .i64 ((min xs.length (l.length-a):Nat):Int)) e') (L'.set p (ow s (cS l a xs))) cf2):G (.mk P T hT n c B0 N X Q) K m e L cf:=by
 have hp1:L'[p]?=some (ow s l):=bZ Prod.fst hp;have hz:fP p cf1.wY=true:=bZ Prod.snd hp;have hlen:(cS l a xs).length=l.length:=eZ hb.1;refine gO (g:=.mk P T hT n c B0 N X Q) ?_;rw[hs];intro hdn _ hE;refine hE Unit (λ_=>m') (λ_=>dse d (.i .i64 ((min xs.length (l.length-a):Nat):Int)) e') (λ_=>L'.set p (ow s (cS l a xs))) (λ_=>I5 hz) (λB act w next Q' hm hA hS hnext=>?_) (λ_=>k);have hr:bL (dZ w) s2 xs:=hsrc ⟨_,hS⟩;obtain⟨⟨R,s1,s2'⟩,s0⟩:=hS;have hx2:ev (vE (V8 (.mk P T hT n c B0 N X Q) cf1++B) e') x=some (iV sz a l.length (s.v l.length)):=by grind[hdB,WD]
 have hop:o.op=.call {callee:=.builtin .copy,args:=#[x,y],argTypes:=#[t,t2]}:=bZ Prod.fst ho;have hd:o.dst=d:=bZ Prod.snd ho;obtain⟨v,w',k1,rfl,k2⟩:=aZH p s1 (by rw[AS,hp1];rfl) hr hn hb.1 (D3 ht hT) (hT.size _ _ he) hop hx2 (hdB hA hy);unfold Oper.wp;rw[k1 _ act hA.env,Oper.upon_value,hd];have hS2:lJ c w' (V8 (.mk P T hT n c B0 N X Q) cf1++B) (L'.set p (ow s (cS l a xs))):=by
  refine⟨⟨R,?_,λz hz=>?_⟩,s0⟩
  ·rw[KT];show St c w' ((L'.map _).set p (eU [s.v (cS l a xs).length] _)) R;grind
  ·rcases rG hz with hz|hz
   ·grind
   ·subst hz;trivial
 cases d with
 |none=>exact hnext () _ _ ⟨[],aj,by grind[Act.put,dse],aj⟩
 |some d=>exact hnext () _ _ ⟨[],aj,by simpa[dse] using hA.of (by simp[fH,gV,bK]) (hA.env.put (by grind[qS,wD]) _),aj⟩
theorem cp0{d:Option Nat}{y:Operand}[aN O][Flat O]{s2:AC}{l xs:List O}{kt:TK}(p:Nat)(hsrc:∀{w},HS c w L'->bL (dZ w) s2 xs)(hs:jK T n K cf m e L=.op o Lv cf1 cf2 K' m' e' L')(ho:(o.op,o.dst)=(.call {callee:=.builtin .copy,args:=#[x,y],argTypes:=#[t,t2]},d))(ht:wW T t=some ⟨.sl el,b1,n1,z1⟩)(he:wW T el=some ⟨kt,b2,sz,z2⟩)(hn:aN.n O=sz)(hp:(L'[p]?,fP p cf1.wY)=(some (ow s l),true))(hx:iG e' x=some (.h s l.length))(hy:iG e' y=some (.h s2 xs.length))
  (k:G (.mk P T hT n c B0 N X Q) K' m' (dse d (.i .i64 ((min xs.length (l.length-0):Nat):Int)) e') (L'.set p (ow s (cS l 0 xs))) cf2):G (.mk P T hT n c B0 N X Q) K m e L cf:=by
 have hp1:L'[p]?=some (ow s l):=bZ Prod.fst hp;have hz:fP p cf1.wY=true:=bZ Prod.snd hp;have hlen:(cS l 0 xs).length=l.length:=eZ (jD _);refine gO (g:=.mk P T hT n c B0 N X Q) ?_;rw[hs];intro hdn _ hE;refine hE Unit (λ_=>m') (λ_=>dse d (.i .i64 ((min xs.length (l.length-0):Nat):Int)) e') (λ_=>L'.set p (ow s (cS l 0 xs))) (λ_=>I5 hz) (λB act w next Q' hm hA hS hnext=>?_) (λ_=>k);have hr:bL (dZ w) s2 xs:=hsrc ⟨_,hS⟩;obtain⟨⟨R,s1,s2'⟩,s0⟩:=hS;have hop:o.op=.call {callee:=.builtin .copy,args:=#[x,y],argTypes:=#[t,t2]}:=bZ Prod.fst ho;have hd:o.dst=d:=bZ Prod.snd ho;obtain⟨v,w',k1,rfl,k2⟩:=a5Z p s1 (by rw[AS,hp1];rfl) hr hn (D3 ht hT) (hT.size _ _ he) hop (hdB hA hx) (hdB hA hy);unfold Oper.wp;rw[k1 _ act hA.env,Oper.upon_value,hd];have hS2:lJ c w' (V8 (.mk P T hT n c B0 N X Q) cf1++B) (L'.set p (ow s (cS l 0 xs))):=by
  refine⟨⟨R,?_,λz hz=>?_⟩,s0⟩
  ·rw[KT];show St c w' ((L'.map _).set p (eU [s.v (cS l 0 xs).length] _)) R;grind
  ·rcases rG hz with hz|hz
   ·grind
   ·subst hz;trivial
 cases d with
 |none=>exact hnext () _ _ ⟨[],aj,by grind[Act.put,dse],aj⟩
 |some d=>exact hnext () _ _ ⟨[],aj,by simpa[dse] using hA.of (by simp[fH,gV,bK]) (hA.env.put (by grind[qS,wD]) _),aj⟩
theorem fR{Z:Act->World->Prop}(q0_:a2O e=some e1/\a2P L=some L1)(kk:∀a w,pA n c B0 m e1 L1 a w->Z a w):∀a w,pA n c B0 m e L a w->Z a w:=by obtain⟨h1,h2⟩:=q0_;grind[aII,aIJ]
end
def swN(i j n:Nat):Nat:=match Nat.beq n i with
 |true=>j
 |false=>match Nat.beq n j with
  |true=>i
  |false=>n
def swC(i j:Nat):SV->SV
 |.p n o=>.p (swN i j n) o
 |x=>x
def a2V(i j:Nat):List SV->List SV
 |[]=>[]
 |x::r=>swC i j x::a2V i j r
def swG(i j:Nat):SV->SV
 |.g cs=>.g (a2V i j cs)
 |x=>swC i j x
def bCP(i j:Nat):List SV->List SV
 |[]=>[]
 |x::r=>swG i j x::bCP i j r
def swF(i j:Nat):List Nat->List Nat
 |[]=>[]
 |n::r=>swN i j n::swF i j r
def swT(i j:Nat):SV->SV
 |.t cs=>.t (bCP i j cs)
 |.f f ns=>.f f (swF i j ns)
 |x=>swG i j x
def swE(i j:Nat):SE->SE
 |[]=>[]
 |(k,x)::r=>(k,swT i j x)::swE i j r
def swL(i j:Nat):List Ch->List Ch
 |[]=>[]
 |x::r=>(match x with
  |.box n cs=>.box (swN i j n) (a2V i j cs)
  |.ro n cs=>.ro (swN i j n) (a2V i j cs)
  |.w n b z=>.w (swN i j n) b z
  |y=>y)::swL i j r
section
variable {B B':Bl} {i j:Nat}
theorem a7B(h:∀n,B'[swN i j n]?=B[n]?)(x:SV):bK B' (swC i j x)=bK B x:=by cases x<;>first|rfl|grind[swC,bK]
theorem aIQ(h:∀n,B'[swN i j n]?=B[n]?):∀cs:List SV,aT (bK B') (a2V i j cs)=aT (bK B) cs
 |[]=>rfl
 |x::r=>by simp only[a2V,aT,a7B h,aIQ h r]
theorem aXA(h:∀n,B'[swN i j n]?=B[n]?)(x:SV):gV B' (swG i j x)=gV B x:=by
 cases x with
 |g cs=>grind[swG,gV,aIQ]
 |p n o=>exact a7B h (.p n o)
 |_=>rfl
theorem aZ9(h:∀n,B'[swN i j n]?=B[n]?):∀cs:List SV,aT (gV B') (bCP i j cs)=aT (gV B) cs
 |[]=>rfl
 |x::r=>by simp only[bCP,aT,aXA h,aZ9 h r]
theorem a7C(h:∀n,B'[swN i j n]?=B[n]?):∀cs:List Nat,aT (VK B') (swF i j cs)=aT (VK B) cs
 |[]=>rfl
 |x::r=>by simp only[swF,aT,VK,h];rw[show aT (VK B') (swF i j r)=aT (VK B) r from a7C h r]
theorem bHI(h:∀n,B'[swN i j n]?=B[n]?)(x:SV):fH B' (swT i j x)=fH B x:=by
 cases x with
 |t cs=>grind[swT,fH,aZ9]
 |f f ns=>grind[swT,fH,a7C]
 |g cs=>exact aXA h (.g cs)
 |p n o=>exact aXA h (.p n o)
 |_=>rfl
theorem a7D{k:Nat}{x:SV}:∀{e:SE},CV (swE i j e) k=some x->∃y,CV e k=some y/\x=swT i j y
 |[],h=>by cases h
 |(k',y)::r,h=>by
  simp only[swE,CV] at h ⊢;split at h
  ·grind
  ·rename_i hb;exact a7D h
theorem a0A(h:∀n,B'[swN i j n]?=B[n]?){w:World}{R:List Fact}:∀(L:List Ch),jT w (L.map (kS B)) ((swL i j L).map (kS B'))/\((∀x∈L,roF B R x)->∀x∈swL i j L,roF B' R x)
 |[]=>⟨.nil,λ_ x hx=>by cases hx⟩
 |x::L=>by
  obtain⟨h1,h2⟩:=a0A h (w:=w) (R:=R) L;refine⟨.cons (λF hF=>?_) h1,λhr y hy=>?_⟩
  ·cases x with
   |box n cs=>
    obtain⟨b,z,vs,k1,k2,k3⟩:=hF;exact⟨b,z,vs,aj,by grind[aIQ],k3⟩
   |_=>exact hF
  ·rcases iX.1 hy with hy|hy
   ·have hx:=hr x ae;cases x with
    |box n cs=>subst hy;trivial
    |ro n cs=>
     obtain⟨b,z,vs,k1,k2,k3⟩:=hx;subst hy;exact⟨b,z,vs,aj,by grind[aIQ],k3⟩
    |w n b z=>subst hy;show B'[swN i j n]?=_;rw[h];exact hx
    |o c=>subst hy;trivial
    |no=>subst hy;trivial
    |f f=>subst hy;exact hx
   grind
end
theorem bKL{i:Nat}(hi:i<B.length)(hj:j<B.length):∃B':Bl,B'.length=B.length/\(∀n,B'[swN i j n]?=B[n]?):=by
 refine⟨(B.set i B[j]).set j B[i],ae,λn=>?_⟩;unfold swN;cases h1:Nat.beq n i with
 |true=>
  simp_all
 |false=>
  have h1:n≠i:=λh=>by simp_all
  cases h2:Nat.beq n j with
  |true=>
   simp_all
  |false=>
   have h2:n≠j:=λh=>by simp_all
   grind
section
variable {n:Nat} {c:Ctx} {B0:Bl} {m:Nat} {e:SE} {L:List Ch}
theorem swR{Z:Act->World->Prop}(i j:Nat)(h:(Nat.ble B0.length i && (Nat.ble B0.length j && (Nat.blt i m && Nat.blt j m)))=true)
  (kk:∀a w,pA n c B0 m (swE i j e) (swL i j L) a w->Z a w):∀a w,pA n c B0 m e L a w->Z a w:=by
 simp only[uG,Nat.ble_eq,wD] at h;obtain⟨h1,h2,h3,h4⟩:=h;intro a w ⟨B,hm,hA,hS⟩;refine kk a w ?_;rw[D8] at hm;obtain⟨B',hl,hB⟩:=bKL (B:=B) (i:=i-B0.length) (j:=j-B0.length) aa aa;have key:∀n,(B0++B')[swN i j n]?=(B0++B)[n]?:=by
  intro n;have hsw:∀n,n<B0.length->swN i j n=n:=λn hn=>by grind[swN,nM]
  have hge:∀n,B0.length<=n->swN i j n=B0.length+swN (i-B0.length) (j-B0.length) (n-B0.length):=λn hn=>by
   have q1:Nat.beq (n-B0.length) (i-B0.length)=Nat.beq n i:=by rw[HM];(simp_all;omega)
   have q2:Nat.beq (n-B0.length) (j-B0.length)=Nat.beq n j:=by rw[HM];(simp_all;omega)
   grind[swN]
  grind[Nat.add_sub_cancel_left]
 refine⟨B',aj,⟨hA.d,hA.size,λk x hk=>?_⟩,?_⟩
 ·obtain⟨y,g1,rfl⟩:=a7D hk;obtain⟨v,g2,g3⟩:=hA.get k y g1;grind[bHI]
 ·obtain⟨⟨R,s1,s2⟩,s0⟩:=hS;obtain⟨g1,g2⟩:=a0A key (w:=w) (R:=R) L;exact⟨⟨R,s1.imp g1,g2 s2⟩,s0⟩
theorem pnR{Z:Act->World->Prop}[aN O](j:Nat){l:List O}(hl:l.length=n0)(hj:L[j]?=some (ow s l))
  (kk:∀a w,pA n c B0 m e (L.set j (.o (eU [s.v n0] l))) a w->Z a w):∀a w,pA n c B0 m e L a w->Z a w:=by grind[aOZ]
end
theorem fG{P:Program}{T:TT}{hT:D6 P T}{N:Act->World->Prop}{X:Nat->Act->World->Prop}{Q:Act->World->Prop}{K:List Fr}(h1:a2O e=some e1)(h2:a2P L=some L1)(k:G (.mk P T hT n c B0 N X Q) K m e1 L1 cf):G (.mk P T hT n c B0 N X Q) K m e L cf:=by grind[aII,aIJ]
def fc1:SV->Option SV
 |.i k x=>some (.i k x)
 |.y b=>some (.y b)
 |.b c=>some (.b c)
 |.l c=>some (.l c)
 |.s l=>some (.s l)
 |.p n o=>some (.p n o)
 |.h s n=>some (.h s n)
 |.e s n i o=>some (.e s n i o)
 |.k x=>some (.k x)
 |.g cs=>some (.g cs)
 |.t cs=>some (.t cs)
 |.f f cs=>some (.f f cs)
 |.u=>some .u
def fcs:List SV->Option (List SV)
 |[]=>some []
 |x::r=>match fc1 x with
  |some y=>match fcs r with
   |some s=>some (y::s)
   |none=>none
  |none=>none
def fc2:SV->Option SV
 |.g cs=>match fcs cs with
  |some ds=>some (.g ds)
  |none=>none
 |x=>fc1 x
def fgs:List SV->Option (List SV)
 |[]=>some []
 |x::r=>match fc2 x with
  |some y=>match fgs r with
   |some s=>some (y::s)
   |none=>none
  |none=>none
def fc3:SV->Option SV
 |.t cs=>match fgs cs with
  |some ds=>some (.t ds)
  |none=>none
 |x=>fc2 x
def fdE:SE->Option SE
 |[]=>some []
 |(k,v)::r=>match fc3 v with
  |some y=>match fdE r with
   |some s=>some ((k,y)::s)
   |none=>none
  |none=>none
def fdL:List Ch->Option (List Ch)
 |[]=>some []
 |x::r=>match fdL r with
  |some s=>match x with
   |.box n cs=>match fcs cs with
    |some ds=>some (.box n ds::s)
    |none=>none
   |.ro n cs=>match fcs cs with
    |some ds=>some (.ro n ds::s)
    |none=>none
   |y=>some (y::s)
  |none=>none
theorem a7E{x y:SV}(h:fc1 x=some y):y=x:=by cases x<;>simp only[fc1] at h<;>cases h<;>rfl
theorem aXB:∀{l r:List SV},fcs l=some r->r=l
 |[],r,h=>by cases h;rfl
 |x::l,r,h=>by
  simp only[fcs] at h;split at h
  ·rename_i y hy;split at h
   ·rename_i s hs;cases h;rw[a7E hy,aXB hs]
   ·cases h
  ·cases h
theorem a7F{x y:SV}(h:fc2 x=some y):y=x:=by
 cases x with
 |g cs=>
  grind[fc2,aXB]
 |_=>exact a7E h
theorem a7G:∀{l r:List SV},fgs l=some r->r=l
 |[],r,h=>by cases h;rfl
 |x::l,r,h=>by
  simp only[fgs] at h;split at h
  ·rename_i y hy;split at h
   ·rename_i s hs;cases h;rw[a7F hy,a7G hs]
   ·cases h
  ·cases h
theorem bHK{x y:SV}(h:fc3 x=some y):y=x:=by
 cases x with
 |t cs=>
  grind[fc3,a7G]
 |_=>exact a7F h
theorem a7H:∀{e r:SE},fdE e=some r->r=e
 |[],r,h=>by cases h;rfl
 |(k,v)::l,r,h=>by
  simp only[fdE] at h;split at h
  ·rename_i y hy;split at h
   ·rename_i s hs;cases h;rw[bHK hy,a7H hs]
   ·cases h
  ·cases h
theorem a7I:∀{e r:List Ch},fdL e=some r->r=e
 |[],r,h=>by cases h;rfl
 |x::l,r,h=>by
  simp only[fdL] at h;split at h
  ·rename_i s hs;have:=a7I hs;grind[aXB]
  ·cases h
theorem fD{Z:Act->World->Prop}(h1:fdE e=some e1)(h2:fdL L=some L1)(kk:∀a w,pA n c B0 m e1 L1 a w->Z a w):∀a w,pA n c B0 m e L a w->Z a w:=by grind[a7H,a7I]
universe u
theorem Q{O:Sort u}{a:O}:a=a:=Eq.refl a
theorem Q2{a:Ta}{b:Tb}:a=a/\b=b:=⟨rfl,rfl⟩
theorem Q3{a:Ta}{b:Tb}{c:Tc}:a=a/\b=b/\c=c:=⟨rfl,rfl,rfl⟩
theorem Q4{a:Ta}{b:Tb}{c:Tc}{d:Td}:a=a/\b=b/\c=c/\d=d:=⟨rfl,rfl,rfl,rfl⟩
theorem Q5{a:Ta}{b:Tb}{c:Tc}{d:Td}{e:Te}:a=a/\b=b/\c=c/\d=d/\e=e:=⟨rfl,rfl,rfl,rfl,rfl⟩
theorem Q6{a:Ta}{b:Tb}{c:Tc}{d:Td}{e:Te}{f:Tf}:a=a/\b=b/\c=c/\d=d/\e=e/\f=f:=⟨rfl,rfl,rfl,rfl,rfl,rfl⟩
theorem Q7{a:Ta}{b:Tb}{c:Tc}{d:Td}{e:Te}{f:Tf}{g:Tg}:a=a/\b=b/\c=c/\d=d/\e=e/\f=f/\g=g:=⟨rfl,rfl,rfl,rfl,rfl,rfl,rfl⟩
theorem Q8{a:Ta}{b:Tb}{c:Tc}{d:Td}{e:Te}{f:Tf}{g:Tg}{h:Th}:a=a/\b=b/\c=c/\d=d/\e=e/\f=f/\g=g/\h=h:=⟨rfl,rfl,rfl,rfl,rfl,rfl,rfl,rfl⟩
theorem Q9{a:Ta}{b:Tb}{c:Tc}{d:Td}{e:Te}{f:Tf}{g:Tg}{h:Th}{i:Ti}:a=a/\b=b/\c=c/\d=d/\e=e/\f=f/\g=g/\h=h/\i=i:=⟨rfl,rfl,rfl,rfl,rfl,rfl,rfl,rfl,rfl⟩
theorem Q10{a:Ta}{b:Tb}{c:Tc}{d:Td}{e:Te}{f:Tf}{g:Tg}{h:Th}{i:Ti}{Tj:Sort _}{j:Tj}:a=a/\b=b/\c=c/\d=d/\e=e/\f=f/\g=g/\h=h/\i=i/\j=j:=⟨rfl,rfl,rfl,rfl,rfl,rfl,rfl,rfl,rfl,rfl⟩
theorem VL{a:Ta}{b:Tb}{c:Tc}{d:Td}{e:Te}{f:Tf}{g:Tg}{h:Th}{i:Ti}{Tj:Sort _}{j:Tj}{Tk:Sort _}{k:Tk}{Tl:Sort _}{l:Tl}{Tm:Sort _}{m:Tm}:a=a/\b=b/\c=c/\d=d/\e=e/\f=f/\g=g/\h=h/\i=i/\j=j/\k=k/\l=l/\m=m:=⟨rfl,rfl,rfl,rfl,rfl,rfl,rfl,rfl,rfl,rfl,rfl,rfl,rfl⟩
def W{ρ:Type}(C:Prop)(r:ρ)(F:Option ρ):Prop:=F=some r->C
theorem wm{r:ρ}{F F':Option ρ}(h:F'=F)(k:W C r F):W C r F':=h ▸ k
theorem wi{r:ρ}{F:Option ρ}(h:F=some r)(k:W C r F):C:=k h
def VS(P:Program)(c:Ctx)(f:FuncId){ρ ex:Type}(F:Option ρ)(xs:List SV)(B0:Bl)(L0:List Ch)(sv:ρ->ex->SV)(Lf:ρ->ex->List Ch):Prop:=∀r,F=some r->FnS P f c xs B0 L0 sv Lf r
abbrev V0(P:Program)(c:Ctx)(f:FuncId){ρ:Type}(F:Option ρ)(xs:List SV)(sv:ρ->SV):Prop:=VS P c f F xs [] [] (λr (_:Unit)=>sv r) (λ_ _=>[])
theorem VS.r{P:Program}{f:FuncId}{F:Option ρ}{L0:List Ch}{sv:ρ->ex->SV}{Lf:ρ->ex->List Ch}(h:VS P c f F xs B0 L0 sv Lf){r:ρ}(hF:F=some r):FnS P f c xs B0 L0 sv Lf r:=h r hF
def QR(P:Program)(fn:Func){rs:List ResultVar}(_:fn.results=rs.toArray)(c:Ctx)(B0:Bl){ρ ex:Type}(sv:ρ->ex->SV)(Lf:ρ->ex->List Ch)(r:ρ):Act->World->Prop:=QS P fn c B0 sv Lf r
def a7J(T:TT)(rs:List ResultVar)(is:List Nat)(b0:Nat)(L2:List Ch):Stop->Option (SV×List Ch)
 |.ret m e L=>match aQQ T e L rs with
  |some x=>match yU b0 (nbS x) with
   |true=>match YQ b0 m e L is b0 [] L2 with
    |some ([],L3)=>some (nbS x,L3)
    |_=>none
   |false=>none
  |none=>none
 |_=>none
def a2X(is:List Nat)(b0 mj:Nat)(ej:SE)(Lj:List Ch):Stop->Option (SE×List Ch)
 |.fin m e L=>YQ b0 m e L is mj ej Lj
 |_=>none
def exQ(is:List Nat)(id b0 mj:Nat)(ej:SE)(Lj:List Ch):Stop->Option (SE×List Ch)
 |.ex i m e L=>match Nat.beq i id with
  |true=>YQ b0 m e L is mj ej Lj
  |false=>none
 |_=>none
def bKM:Stop->Stop
 |.fin m e L=>.ret m e L
 |_=>.stuck
def ixT(T:TT)(t n:Nat):Bool:=match wW T t with
 |some ⟨.sl el,_,_,_⟩=>match wW T el with
  |some ⟨_,_,sz,_⟩=>Nat.beq n sz
  |none=>false
 |_=>false
section
variable {P:Program} {T:TT} {hT:D6 P T} {n:Nat} {c:Ctx} {B0:Bl} {N:Act->World->Prop} {X:Nat->Act->World->Prop} {Q:Act->World->Prop} {K K':List Fr} {m m':Nat} {e e':SE} {L L' Lv:List Ch} {cf cf' cf1 cf2:sW} {o:Oper}
theorem enW(hT:D6 P T){f:FuncId}{fn:Func}{cd:Code}{xs:List SV}{L0:List Ch}{ρ ex:Type}{sv:ρ->ex->SV}{Lf:ρ->ex->List Ch}{F:Option ρ}{rs:List ResultVar}(hc:∀args w,(callFunc f args).run P w=.ok (.enter f args) w)(hf:P.funcs[f]?=some fn)(hr:fn.results=rs.toArray)(q0_:fn.body=some cd/\fn.ntmps=n)
  (k:∀{r},W (G (.mk P T hT n c B0 (QR P fn hr c B0 sv Lf r) (λ_ _ _=>False) (QR P fn hr c B0 sv Lf r)) [] B0.length (aO9 0 xs) L0 (.c cd)) r F) (hl:Nat.ble xs.length n=true:=by exact rfl):VS P c f F xs B0 L0 sv Lf:=let ⟨hb,hm⟩:=q0_;λ_ hF=>en n hc hf hT hb hm hl (k hF)
theorem a0B{is:List Nat}{b0:Nat}{L2 L3:List Ch}{s:SV}{st:Stop}(h:a7J T rs is b0 L2 st=some (s,L3)):∃m' e' L' x,st=.ret m' e' L'/\aQQ T e' L' rs=some x/\nbS x=s/\yU b0 s=true/\YQ b0 m' e' L' is b0 [] L2=some ([],L3):=by unfold a7J at h;grind
theorem l4{sv:ρ->ex->SV}{Lf:ρ->ex->List Ch}{r r':ρ}{hr:fn.results=rs.toArray}{zz:Option ρ}(y:ex)(is:List Nat)(q0_:zz=some r'/\a7J T rs is B0.length (Lf r' y) (jK T n K cf m e L)=some (sv r' y,Lf r' y)):W (G (.mk P T hT n c B0 N X (QR P fn hr c B0 sv Lf r)) K m e L cf) r zz:=let ⟨hz,h⟩:=q0_;λhF=>by obtain⟨_,_,_,_,h1,h2,h3,h4,h5⟩:=a0B h;exact rt y is hF hz h1 hr h2 h3 h4 h5
theorem eD{sv:ρ->Unit->SV}{Lf:ρ->Unit->List Ch}{r r':ρ}{hr:fn.results=rs.toArray}{zz:Option ρ}(q0_:zz=some r'/\a7J T rs [] B0.length (Lf r' ()) (jK T n K cf m e L)=some (sv r' (),Lf r' ())):W (G (.mk P T hT n c B0 N X (QR P fn hr c B0 sv Lf r)) K m e L cf) r zz:=let ⟨hz,h⟩:=q0_;l4 () [] ⟨hz,h⟩
theorem G3{sv:ρ->ex->SV}{Lf:ρ->ex->List Ch}{r r':ρ}{hr:fn.results=rs.toArray}{zz:Option ρ}(y:ex)(is:List Nat)(hz:zz=some r')(h:a7J T rs is B0.length (Lf r' y) (bKM (jK T n K cf m e L))=some (sv r' y,Lf r' y)):W (G (.mk P T hT n c B0 (QR P fn hr c B0 sv Lf r) X Q) K m e L cf) r zz:=λhF=>by obtain⟨m',e',L',_,h1,h2,h3,h4,h5⟩:=a0B h;refine rf y is hF hz (m':=m') (e':=e') (L':=L') ?_ hr h2 h3 h4 h5;unfold bKM at h1;grind
theorem a0C{is:List Nat}{b0:Nat}{ej e3:SE}{Lj L3:List Ch}{st:Stop}(h:a2X is b0 mj ej Lj st=some (e3,L3)):∃m' e' L',st=.fin m' e' L'/\YQ b0 m' e' L' is mj ej Lj=some (e3,L3):=by unfold a2X at h;grind
theorem uL{eq:π->Prop}{ej:π->υ->SE}{Lj:π->υ->List Ch}{p:π}{q:O}{zz:Option O}(u:υ)(is:List Nat)(q0_:(zz=some q)=eq p/\a2X is B0.length mj (ej p u) (Lj p u) (jK T n K cf m e L)=some (ej p u,Lj p u)):W (G (.mk P T hT n c B0 (JP n c B0 eq mj ej Lj) X Q) K m e L cf) q zz:=let ⟨hz,h⟩:=q0_;λhF=>by obtain⟨_,_,_,h1,h2⟩:=a0C h;exact jn u is (hz ▸ hF) h1 h2
theorem cE{eq:π->Prop}{ej:π->Unit->SE}{Lj:π->Unit->List Ch}{p:π}{q:O}{zz:Option O}(is:List Nat)(q0_:(zz=some q)=eq p/\a2X is B0.length mj (ej p ()) (Lj p ()) (jK T n K cf m e L)=some (ej p (),Lj p ())):W (G (.mk P T hT n c B0 (JP n c B0 eq mj ej Lj) X Q) K m e L cf) q zz:=let ⟨hz,h⟩:=q0_;uL () is ⟨hz,h⟩
theorem nxW{o:Step σ ρ}{el:σ->υ->SE}{Ll:σ->υ->List Ch}{s:σ}(u:υ)(is:List Nat)(h:a2X is B0.length mj (el s u) (Ll s u) (jK T n K cf m e L)=some (el s u,Ll s u)):W (G (.mk P T hT n c B0 (NxP n c B0 o mj el Ll) X Q) K m e L cf) o (some (Step.next s)):=λhF=>by obtain⟨_,_,_,h1,h2⟩:=a0C h;exact nx u is hF h1 h2
theorem MK{o:Step σ ρ}{el:σ->Unit->SE}{Ll:σ->Unit->List Ch}{s:σ}(is:List Nat)(h:a2X is B0.length mj (el s ()) (Ll s ()) (jK T n K cf m e L)=some (el s (),Ll s ())):W (G (.mk P T hT n c B0 (NxP n c B0 o mj el Ll) X Q) K m e L cf) o (some (Step.next s)):=nxW () is h
def BkR(n:Nat)(c:Ctx)(B0:Bl){β ρ σ υ:Type}{o:Step σ ρ}{ro:ρ}(_:∀p,o=.stop p->p=ro)(enc:β->ρ)(m:Nat)(ej:β->υ->SE)(Lj:β->υ->List Ch)(id:Nat)(X:Nat->Act->World->Prop):Nat->Act->World->Prop:=BkP n c B0 ro enc m ej Lj id X
theorem bkW{o:Step σ ρ}{ro:ρ}{enc:β->ρ}{ej:β->υ->SE}{Lj:β->υ->List Ch}{b:β}{hr:∀p,o=.stop p->p=ro}(u:υ)(is:List Nat)(h:exQ is id B0.length mj (ej b u) (Lj b u) (jK T n K cf m e L)=some (ej b u,Lj b u)):W (G (.mk P T hT n c B0 N (BkR n c B0 hr enc mj ej Lj id X) Q) K m e L cf) o (some (Step.stop (enc b))):=λhF=>by
 unfold exQ at h;split at h
 ·rename_i h0;split at h
  ·rename_i hb;rw[nM hb] at h0;exact bk u is hF hr h0 h
  ·cases h
 ·cases h
theorem KW{o:Step σ ρ}{ro:ρ}{enc:β->ρ}{ej:β->Unit->SE}{Lj:β->Unit->List Ch}{b:β}{hr:∀p,o=.stop p->p=ro}(is:List Nat)(h:exQ is id B0.length mj (ej b ()) (Lj b ()) (jK T n K cf m e L)=some (ej b (),Lj b ())):W (G (.mk P T hT n c B0 N (BkR n c B0 hr enc mj ej Lj id X) Q) K m e L cf) o (some (Step.stop (enc b))):=bkW () is h
theorem VM{o:Step σ ρ}{p ro:ρ}{F:ρ->Option O}{q:O}(hr:∀p,o=.stop p->p=ro)(hF:F ro=some q)(k:W C q (F p)):W C o (some (Step.stop p)):=λh=>k (re h rfl hr hF)
section
variable {b:Bool} {O:Type} {A B':Option O} {q:O}
theorem b8{o:Operand}{x:Code}(ss:List Nat)(q0_:jK T n K cf m e L=.cond o b x y K' m' e' L'/\aT (CV e') ss=some (ss.map λ_=>SV.b b))
  (k1:W (G (.mk P T hT n c B0 N X Q) K' m' (ovr true e' ss) L' (.c x)) q A) (k2:W (G (.mk P T hT n c B0 N X Q) K' m' (ovr false e' ss) L' (.c y)) q B'):W (G (.mk P T hT n c B0 N X Q) K m e L cf) q (if b=true then A else B'):=let ⟨hs,ho⟩:=q0_;λhF=>cs ss hs ho hF k1 k2
theorem aTS{o:Operand}{x:Code}(ss:List Nat)(hs:jK T n K cf m e L=.cond o b x y K' m' e' L')(ho:aT (CV e') ss=some (ss.map λ_=>SV.b b))
  (k1:b=true->W (G (.mk P T hT n c B0 N X Q) K' m' (ovr true e' ss) L' (.c x)) q A) (k2:b=false->W (G (.mk P T hT n c B0 N X Q) K' m' (ovr false e' ss) L' (.c y)) q B'):W (G (.mk P T hT n c B0 N X Q) K m e L cf) q (if b=true then A else B'):=λhF=>csK ss hs ho hF k1 k2
theorem gU(ss:List Nat)(q0_:jK T n K cf m e L=.case b cf' K' m' e' L'/\aT (CV e') ss=some (ss.map λ_=>SV.b b))
  (k1:W (G (.mk P T hT n c B0 N X Q) K' m' (ovr true e' ss) L' cf') q A) (k2:W (G (.mk P T hT n c B0 N X Q) K' m' (ovr false e' ss) L' cf') q B'):W (G (.mk P T hT n c B0 N X Q) K m e L cf) q (if b=true then A else B'):=let ⟨hs,ho⟩:=q0_;λhF=>ca ss hs ho hF k1 k2
theorem bCQ(ss:List Nat)(hs:jK T n K cf m e L=.case b cf' K' m' e' L')(ho:aT (CV e') ss=some (ss.map λ_=>SV.b b))
  (k1:b=true->W (G (.mk P T hT n c B0 N X Q) K' m' (ovr true e' ss) L' cf') q A) (k2:b=false->W (G (.mk P T hT n c B0 N X Q) K' m' (ovr false e' ss) L' cf') q B'):W (G (.mk P T hT n c B0 N X Q) K m e L cf) q (if b=true then A else B'):=λhF=>caK ss hs ho hF k1 k2
end
section
variable {O β:Type} {fo:Option O} {kf:O->Option β} {q:β} {d:Nat} {f:FuncId} {xs:List SV}
theorem c0{sv:O->SV}(hs:jK T n K cf m e L=.call o (some d) f xs cf1 cf2 K' m' e' L')
  (hc:∀{w},HS c w L'->V0 P (dZ w) f fo xs sv) (k:∀x,W (G (.mk P T hT n c B0 N X Q) K' m' ((d,sv x)::e') L' cf2) q (kf x)):W (G (.mk P T hT n c B0 N X Q) K m e L cf) q (fo.bind kf):=λhF=>cl0 hs (λh _ hx=>hc h _ hx) hF λx _ h=>k x h
theorem c1{sv:O->ex->SV}{Lf:O->ex->List Ch}(hs:jK T n K cf m e L=.call o (some d) f xs cf1 cf2 K' m' e' L')
  (hc:∀{w},HS c w L'->VS P (dZ w) f fo xs [] [] sv Lf) (k:∀x,∀y:ex,W (G (.mk P T hT n c B0 N X Q) K' m' ((d,sv x y)::e') (L'++Lf x y) cf2) q (kf x)) (hn:∀x y,noF (Lf x y)=true:=by exact λ_ _=>rfl):W (G (.mk P T hT n c B0 N X Q) K m e L cf) q (fo.bind kf):=λhF=>cl hs hn (λh _ hx=>hc h _ hx) hF λx _ h y=>k x y h
theorem D7{kf:O->Option β}{q:β}{iR:aN O}(C:DO O){d:Nat}{ls:List O}(hs:jK T n K cf m e L=.idx o d t s ls.length i Lv cf1 cf2 K' m' e' L')(h1:bL c s ls)(ht:ixT T t (aN.n O)=true)
  (k:∀x,∀y:C.ex,C.sub c.S0 c.w0 x y->W (G (.mk P T hT n c B0 N X Q) K' (m'+1) ((d,.p m' 0)::e') (L'++[.ro m' (C.cs x y)]) (cf2.ext [.ro m' (C.cs x y)])) q (kf x)):W (G (.mk P T hT n c B0 N X Q) K m e L cf) q ((idx ls i).bind kf):=λhF=>by
 unfold ixT at ht;split at ht
 ·rename_i h2;split at ht
  ·rename_i h3;exact ix C hs h1 hF h2 h3 (nM ht) λx _ h y hy=>k x y hy h
  ·cases ht
 ·cases ht
theorem ixI{kf:Int->Option β}{q:β}{d:Nat}{ls:List Int}(hs:jK T n K cf m e L=.idx o d t s ls.length i Lv cf1 cf2 K' m' e' L')(h1:bL c s ls)(ht:ixT T t 1=true)
  (k:∀x,W (G (.mk P T hT n c B0 N X Q) K' (m'+1) ((d,.p m' 0)::e') (L'++[.ro m' [.i .i64 x]]) (cf2.ext [.ro m' [.i .i64 x]])) q (kf x)):W (G (.mk P T hT n c B0 N X Q) K m e L cf) q ((idx ls i).bind kf):=D7 cI hs h1 ht λx _ _=>k x
theorem j8(hm:P.follows .mixedOrders=true){ops:Array Oper}{zz:Option β}(is:List Nat)(hs:jK T n K cf m e L=.rgn id ops K' m' e' L')
  (k:∀{B1},W (G (.mk P T hT n c B0 N X Q) K' m' e' L' (.d B1 ops (List.replicate ops.size false) is (kl L' is) (kl L' is))) q zz) (hf:(aTA ops && (okL m' (kl L' is) && (dE is && is.all λj=>Nat.blt j L'.length)))=true:=by kernel_rfl):W (G (.mk P T hT n c B0 N X Q) K m e L cf) q zz:=λhF=>dr is hs hm hf λ_=>k hF
theorem eG{zz:Option β}(j mj:Nat)(Fj:π->Option β)(ks:List Nat)(ej:π->υ->SE)(is:List Nat)(Lj:π->υ->List Ch)(hs:SM (jK T n K cf m e L)=some (K',cf',m',e',L'))
  (k1:W (G (.mk P T hT n c B0 (JP n c B0 (λp=>Fj p=some q) mj (λp u=>ej p u++kp e' ks) (λp u=>Lj p u++kl L' is)) (XK (.mk P T hT n c B0 N X Q) (K'.drop j)) Q) (K'.take j) m' e' L' cf') q zz)
  (k2:∀p u,W (G (.mk P T hT n c B0 N X Q) (K'.drop j) mj (ej p u++kp e' ks) (Lj p u++kl L' is) .n) q (Fj p)):W (G (.mk P T hT n c B0 N X Q) K m e L cf) q zz:=λhF=>cut j mj (λp=>Fj p=some q) ks ej is Lj hs (k1 hF) λp u h=>k2 p u h
theorem gK{zz:Option β}(j mj:Nat)(Fj:Bool->Option β)(ks:List Nat)(v:Nat)(is:List Nat)(hs:SM (jK T n K cf m e L)=some (K',cf',m',e',L'))
  (k1:W (G (.mk P T hT n c B0 (JP n c B0 (λp=>Fj p=some q) mj (λp (_:Unit)=>[(v,.b p)]++kp e' ks) (λ_ _=>[]++kl L' is)) (XK (.mk P T hT n c B0 N X Q) (K'.drop j)) Q) (K'.take j) m' e' L' cf') q zz)
  (k2:∀p,W (G (.mk P T hT n c B0 N X Q) (K'.drop j) mj ([(v,.b p)]++kp e' ks) ([]++kl L' is) .n) q (Fj p)):W (G (.mk P T hT n c B0 N X Q) K m e L cf) q zz:=eG j mj Fj ks (λp (_:Unit)=>[(v,.b p)]) is (λ_ _=>[]) hs k1 λp _=>k2 p
theorem OM{γ ω:Type}{fb:σ->Option (Step σ ρ)}{s0:σ}{gk:ρ->Option β}(u0:υ)(ks:List Nat)(el:σ->υ->SE)(is0 is:List Nat)(Ll:σ->υ->List Ch)(enc:γ->ρ)(kb:List Nat)(ej:γ->ω->SE)(ib:List Nat)(Lj:γ->ω->List Ch)
  (hs:jK T n K cf m e L=.loop id y K' m' e' L')
  (h0:YQ B0.length m' e' L' is0 m' (el s0 u0++kp e' ks) (Ll s0 u0++kl L' is)=some (el s0 u0++kp e' ks,Ll s0 u0++kl L' is))
  (k1:∀{ro o},gk ro=some q->∀s u,(hr:∀p,o=.stop p->p=ro)->W (G (.mk P T hT n c B0 (NxP n c B0 o m' (λs u=>el s u++kp e' ks) (λs u=>Ll s u++kl L' is)) (BkR n c B0 hr enc m' (λb u=>ej b u++kp e' kb) (λb u=>Lj b u++kl L' ib) id (XK (.mk P T hT n c B0 N X Q) K')) Q) [] m' (el s u++kp e' ks) (Ll s u++kl L' is) (.c y)) o (fb s))
  (k2:∀b u,W (G (.mk P T hT n c B0 N X Q) K' m' (ej b u++kp e' kb) (Lj b u++kl L' ib) .n) q (gk (enc b))):W (G (.mk P T hT n c B0 N X Q) K m e L cf) q ((loop fb s0).bind gk):=λhF=>
 lp u0 ks el is0 is Ll enc kb ej ib Lj hs hF h0 (λro h1 s u o h2 h3=>k1 h1 s u h3 h2) λb u h=>k2 b u h
theorem lpI{fb:Int->Option (Step Int ρ)}{s0:Int}{gk:ρ->Option β}(v:Nat)(ks:List Nat)(is:List Nat)(enc:Unit->ρ)(kb:List Nat)(ib:List Nat)
  (hs:jK T n K cf m e L=.loop id y K' m' e' L')
  (h0:YQ B0.length m' e' L' is m' ([(v,.i .i64 s0)]++kp e' ks) ([]++kl L' is)=some ([(v,.i .i64 s0)]++kp e' ks,[]++kl L' is))
  (k1:∀{ro o},gk ro=some q->∀s,(hr:∀p,o=.stop p->p=ro)->W (G (.mk P T hT n c B0 (NxP n c B0 o m' (λs (_:Unit)=>[(v,.i .i64 s)]++kp e' ks) (λ_ _=>[]++kl L' is)) (BkR n c B0 hr enc m' (λ_ (_:Unit)=>[]++kp e' kb) (λ_ _=>[]++kl L' ib) id (XK (.mk P T hT n c B0 N X Q) K')) Q) [] m' ([(v,.i .i64 s)]++kp e' ks) ([]++kl L' is) (.c y)) o (fb s))
  (k2:W (G (.mk P T hT n c B0 N X Q) K' m' ([]++kp e' kb) ([]++kl L' ib) .n) q (gk (enc ()))):W (G (.mk P T hT n c B0 N X Q) K m e L cf) q ((loop fb s0).bind gk):=OM () ks (λs (_:Unit)=>[(v,.i .i64 s)]) is is (λ_ _=>[]) enc kb (λ_ (_:Unit)=>[]) ib (λ_ _=>[]) hs h0 (λh s _ hr=>k1 h s hr) λ_ _=>k2
theorem lrW{fb:σ->Option (Step σ ρ)}{s0:σ}{gk:ρ->Option β}(u0:υ)(ks:List Nat)(el:σ->υ->SE)(is0 is:List Nat)(Ll:σ->υ->List Ch)
  (hs:jK T n K cf m e L=.loop id y K' m' e' L')
  (h0:YQ B0.length m' e' L' is0 m' (el s0 u0++kp e' ks) (Ll s0 u0++kl L' is)=some (el s0 u0++kp e' ks,Ll s0 u0++kl L' is))
  (k1:∀{ro o},gk ro=some q->∀s u,(hr:∀p,o=.stop p->p=ro)->W (G (.mk P T hT n c B0 (NxP n c B0 o m' (λs u=>el s u++kp e' ks) (λs u=>Ll s u++kl L' is)) (BkP n c B0 ro (λb:Empty=>nomatch b) m' (λ(b:Empty) (_:Unit)=>nomatch b) (λb _=>nomatch b) id (XK (.mk P T hT n c B0 N X Q) K')) Q) [] m' (el s u++kp e' ks) (Ll s u++kl L' is) (.c y)) o (fb s)):W (G (.mk P T hT n c B0 N X Q) K m e L cf) q ((loop fb s0).bind gk):=λhF=>
 lr u0 ks el is0 is Ll hs hF h0 λro h1 s u o h2 h3=>k1 h1 s u h3 h2
theorem qX{kf:O->Option β}{q:β}[aN O](E:CO O)(j:Nat){t:TypeId}{ls:List O}(q0_:jK T n K cf m e L=.idx o d t s ls.length i Lv cf1 cf2 K' m' e' L'/\L'[j]?=some (ow s ls)/\fP j cf1.wY=true)
  (k:∀x,idx ls i=some x->∀y:E.ex,Shp s ls.length->W (G (.mk P T hT n c B0 N X Q) K' (m'+1) e' (L'.set j .no++([.o (sM (s.v ls.length) ls i.toNat),.box m' (E.cs x y),wOf O m' s ls.length i.toNat]++E.Lx x y)) (cf1.ext [wOf O m' s ls.length i.toNat])) q (kf x)):W (G (.mk P T hT n c B0 N X Q) K m e L cf) q ((idx ls i).bind kf):=let ⟨hs,hj,hz⟩:=q0_;λhF=>oe E j hs hj hz hF λx h1 h2 y h3=>k x h1 y h3 h2
end
section
variable {O β ex:Type} {fo:Option O} {kf:O->Option β} {q:β} {d:Option Nat} {f:FuncId} {xs xs0:List SV} {M:List Ch} {sv:O->ex->SV} {Lr:O->ex->List Ch}
theorem J5(is:List Nat)
  (q0_:cpS (jK T n K cf m e L)=some (o,d,f,xs,cf1,cf2,K',m',e',L')/\aT (λi=>L'[i]?) is=some M/\aT (rnP [] 0) xs=some xs0/\(I6 M && (dE is && is.all λj=>fP j cf1.wY))=true)
  (hc:∀{U:Ctx},HG c U L' is->VS P U f fo xs0 [] M sv Lr)
  (k:∀x,∀y:ex,W (G (.mk P T hT n c B0 N X Q) K' m' (dse d (sv x y) e') (G4 L' is++Lr x y) cf2) q (kf x)) (hn:∀x y,(I6 (Lr x y) && yU 0 (sv x y))=true:=by exact λ_ _=>rfl):W (G (.mk P T hT n c B0 N X Q) K m e L cf) q (fo.bind kf):=let ⟨hs,hi,hx,hk⟩:=q0_;λhF=>
 cw0 is hs hi hx hk hn (λh _ hx=>hc h _ hx) hF λx _ h y=>k x y h
theorem fC{c1:List SV}{a1:O->ex->List SV}(i1 n1 o1 k1:Nat)(is:List Nat)
  (q0_:cpS (jK T n K cf m e L)=some (o,d,f,xs,cf1,cf2,K',m',e',L')/\aJ8 L' [(i1,n1,o1,k1)]=some [c1]/\aT (λi=>L'[i]?) is=some M/\aT (rnP [(i1,n1,o1,k1)] 0) xs=some xs0/\(I6 M && ([c1].all (yU.okC 0) && (dE (i1::is) && (i1::is).all λj=>fP j cf1.wY)))=true)
  (hc:∀{U:Ctx},HG c U L' (i1::is)->∀{b1:Nat×Nat},VS P U f fo xs0 [b1] (.box 0 c1::M) sv (λx y=>.box 0 (a1 x y)::Lr x y))
  (k:∀x,∀y:ex,W (G (.mk P T hT n c B0 N X Q) K' m' (dse d (sv x y) e') (N2 L' (G4 L' (i1::is)++Lr x y) [(i1,n1,o1,k1)] [a1 x y]) cf2) q (kf x)) (hn:∀x y,(aCG [(i1,n1,o1,k1)] [a1 x y] && ([a1 x y].all (yU.okC 0) && (I6 (Lr x y) && yU 0 (sv x y))))=true:=by exact λ_ _=>rfl):W (G (.mk P T hT n c B0 N X Q) K m e L cf) q (fo.bind kf):=let ⟨hs,hb,hi,hx,hk⟩:=q0_;λhF=>
 cw1 i1 n1 o1 k1 is hs hb hi hx hk hn (λh _ _ hx=>hc h _ hx) hF λx _ h y=>k x y h
theorem aQ4{c1:List SV}{a1 a2:O->ex->List SV}(i1 n1 o1 k1:Nat)(i2 n2 o2 k2:Nat)(is:List Nat)
  (hs:cpS (jK T n K cf m e L)=some (o,d,f,xs,cf1,cf2,K',m',e',L')) (hb:aJ8 L' [(i1,n1,o1,k1),(i2,n2,o2,k2)]=some [c1,c2]) (hi:aT (λi=>L'[i]?) is=some M) (hx:aT (rnP [(i1,n1,o1,k1),(i2,n2,o2,k2)] 0) xs=some xs0)
  (hk:(I6 M && ([c1,c2].all (yU.okC 0) && (dE (i1::i2::is) && (i1::i2::is).all λj=>fP j cf1.wY)))=true)
  (hc:∀{U:Ctx},HG c U L' (i1::i2::is)->∀{b1 b2:Nat×Nat},VS P U f fo xs0 [b1,b2] (.box 0 c1::.box 1 c2::M) sv (λx y=>.box 0 (a1 x y)::.box 1 (a2 x y)::Lr x y))
  (k:∀x,∀y:ex,W (G (.mk P T hT n c B0 N X Q) K' m' (dse d (sv x y) e') (N2 L' (G4 L' (i1::i2::is)++Lr x y) [(i1,n1,o1,k1),(i2,n2,o2,k2)] [a1 x y,a2 x y]) cf2) q (kf x)) (hn:∀x y,(aCG [(i1,n1,o1,k1),(i2,n2,o2,k2)] [a1 x y,a2 x y] && ([a1 x y,a2 x y].all (yU.okC 0) && (I6 (Lr x y) && yU 0 (sv x y))))=true:=by exact λ_ _=>rfl):W (G (.mk P T hT n c B0 N X Q) K m e L cf) q (fo.bind kf):=λhF=>
 cw2 i1 n1 o1 k1 i2 n2 o2 k2 is hs hb hi hx hk hn (λh _ _ _ hx=>hc h _ hx) hF λx _ h y=>k x y h
theorem bNE{c1 c3:List SV}{a1 a2 a3:O->ex->List SV}(i1 n1 o1 k1:Nat)(i2 n2 o2 k2:Nat)(i3 n3 o3 k3:Nat)(is:List Nat)
  (hs:cpS (jK T n K cf m e L)=some (o,d,f,xs,cf1,cf2,K',m',e',L')) (hb:aJ8 L' [(i1,n1,o1,k1),(i2,n2,o2,k2),(i3,n3,o3,k3)]=some [c1,c2,c3]) (hi:aT (λi=>L'[i]?) is=some M) (hx:aT (rnP [(i1,n1,o1,k1),(i2,n2,o2,k2),(i3,n3,o3,k3)] 0) xs=some xs0)
  (hk:(I6 M && ([c1,c2,c3].all (yU.okC 0) && (dE (i1::i2::i3::is) && (i1::i2::i3::is).all λj=>fP j cf1.wY)))=true)
  (hc:∀{U:Ctx},HG c U L' (i1::i2::i3::is)->∀{b1 b2 b3:Nat×Nat},VS P U f fo xs0 [b1,b2,b3] (.box 0 c1::.box 1 c2::.box 2 c3::M) sv (λx y=>.box 0 (a1 x y)::.box 1 (a2 x y)::.box 2 (a3 x y)::Lr x y))
  (k:∀x,∀y:ex,W (G (.mk P T hT n c B0 N X Q) K' m' (dse d (sv x y) e') (N2 L' (G4 L' (i1::i2::i3::is)++Lr x y) [(i1,n1,o1,k1),(i2,n2,o2,k2),(i3,n3,o3,k3)] [a1 x y,a2 x y,a3 x y]) cf2) q (kf x)) (hn:∀x y,(aCG [(i1,n1,o1,k1),(i2,n2,o2,k2),(i3,n3,o3,k3)] [a1 x y,a2 x y,a3 x y] && ([a1 x y,a2 x y,a3 x y].all (yU.okC 0) && (I6 (Lr x y) && yU 0 (sv x y))))=true:=by exact λ_ _=>rfl):W (G (.mk P T hT n c B0 N X Q) K m e L cf) q (fo.bind kf):=λhF=>
 cw3 i1 n1 o1 k1 i2 n2 o2 k2 i3 n3 o3 k3 is hs hb hi hx hk hn (λh _ _ _ _ hx=>hc h _ hx) hF λx _ h y=>k x y h
end
theorem aAU{iR:aN O}{C:DO O}{sr:β->SV}{p:O->Option β}(hc:∀args w,(callFunc g args).run P w=.ok (.enter g args) w)(hn:∀{U:Ctx} {x y},C.sub U.S0 U.w0 x y->V0 P U g (p x) [C.sv x y] sr):WA P (dZ w) C sr g [] p:=fu1 hc (by intro U x y h q hq;exact hn h _ hq)
theorem aKD{iR:aN O}{C:DO O}{sr:β->SV}{cs:List (Nat×List SV)}{p:O->Option β}(hc:∀args w,(callFunc g args).run P w=.ok (.enter g args) w)(hB:∀w1,eK F0 w w1->lJ (dZ w1) w1 Bs (roL 0 cs))(hl:aT (fH Bs) (a6U 0 cs)=some (RC Bs))(hn:∀{w1 x y},eK F0 w w1->C.sub (YO w1) w1 x y->VS P (dZ w1) g (p x) (C.sv x y::a6U 0 cs) Bs (roL 0 cs) (λr (_:Unit)=>sr r) (λ_ _=>[]))(hz:∀q,yU 0 (sr q)=true:=by exact λ_=>rfl):WA P (dZ w) C sr g (RC Bs) p:=fk1 hc hB hl hz (by intro w1 x y h h' q hq;exact hn h h' _ hq)
section
variable {O β:Type} {fo:Option O} {kf:O->Option β} {q:β} {d:Nat} {f g:FuncId} {xs:List SV} {sv:O->SV}
theorem aKE{c1:List SV}(is:List Nat)(hs:jK T n K cf m e L=.callp o (some d) f xs cf1 cf2 K' m' e' L')(hk:kl L' is=[.ro n1 c1])(ho:(aTG [(n1,c1)] && okA xs.dropLast)=true)(hx:xs=xs.dropLast++[.f g [n1]])
  (hc:∀{w},HS c w L'->∀{b1:Nat×Nat},(∀w1,eK F0 w w1->lJ (dZ w1) w1 [b1] [.ro 0 c1])->V0 P (dZ w) f fo (xs.dropLast++[.k (.func (.func g) #[] (RC [b1]).toArray)]) sv)
  (k:∀x,W (G (.mk P T hT n c B0 N X Q) K' m' ((d,sv x)::e') L' cf2) q (kf x)):W (G (.mk P T hT n c B0 N X Q) K m e L cf) q (fo.bind kf):=λhF=>
 bM6 is hs hk ho hx (λh _ h2 _ hx=>hc h h2 _ hx) hF λx _ h=>k x h
end
end
def pV(y:Nat×Nat):Value:=.pointer (some ⟨y.1,y.2,none⟩)
section
variable {P:Program} {T:TT} {hT:D6 P T} {n:Nat} {c:Ctx} {B0:Bl} {N:Act->World->Prop} {X:Nat->Act->World->Prop} {Q:Act->World->Prop} {K K':List Fr} {m m':Nat} {e e':SE} {L L':List Ch} {cf cf1 cf2:sW} {o:Oper}
abbrev VP(P:Program)(c:Ctx)(f:FuncId){ρ:Type}(F:Option ρ)(xs:List SV)(cs:ρ->List SV):Prop:=VS P c f F xs [] [] (λ_ (y:Nat×Nat)=>.k (pV y)) (λr y=>[.o (SN [y] 0 (cs r))])
theorem rtP{r r':ρ}{hr:fn.results=[ResultVar.tmp t].toArray}{zz:Option ρ}{cs:ρ->List SV}(is:List Nat)(hz:zz=some r')(hs:jK T n K cf m e L=.ret m' e' L')(hL:YQ 0 m' e' L' is 1 [(t,.p 0 0)] [.box 0 (cs r')]=some ([(t,.p 0 0)],[.box 0 (cs r')]))(ho:yU.okC 0 (cs r')=true):W (G (.mk P T hT n c [] N X (QR P fn hr c [] (λ_ (y:Nat×Nat)=>.k (pV y)) (λr y=>[.o (SN [y] 0 (cs r))]) r)) K m e L cf) r zz:=λhF=>by
 subst hz;cases hF;refine gO (g:=.mk P T hT n c [] N X _) ?_;rw[hs];intro a w hr';obtain⟨B,hm,hA,hS⟩:=pA.YQ hr' is hL;have hB:∃y,B=[y]:=by
  cases B with
  |nil=>simp at hm
  |cons y B=>grind
 obtain⟨y,rfl⟩:=hB;have hS:lJ c w [y] [.box 0 (cs r)]:=hS;have hA:gQ n [y] [(t,.p 0 0)] a:=hA;have hv:aQQ T [(t,.p 0 0)] [.box 0 (cs r)] [ResultVar.tmp t]=some (.p 0 0):=by simp[aQQ,a57,CV]
 obtain⟨v,h1,h2⟩:=aIM hr hT hA hS hv;have hv':v=pV y:=by simp only[fH,gV,bK,List.getElem?_cons_zero] at h1;cases h1;rfl
 subst hv';refine⟨hA.d,_,h2,y,by grind[fH,gV,bK,Value.oneCell'],?_⟩;obtain⟨⟨R,s1,s2⟩,s0⟩:=hS;exact⟨⟨R,s1.imp (.cons (λF h=>h) .nil),λx hx=>by rcases iX.1 hx with rfl|hx<;>first|trivial|simp at hx⟩,s0⟩
theorem cP{fo:Option O}{kf:O->Option β}{q:β}{d:Nat}{f:FuncId}{cs:O->List SV}(hs:jK T n K cf m e L=.call o (some d) f xs cf1 cf2 K' m' e' L')
  (hc:∀{w},HS c w L'->VP P (dZ w) f fo xs cs) (k:∀x,W (G (.mk P T hT n c B0 N X Q) K' (m'+1) ((d,.p m' 0)::e') (L'++[.box m' (cs x)]) cf2) q (kf x)) (hk:∀x,yU.okC 0 (cs x)=true:=by exact λ_=>rfl):W (G (.mk P T hT n c B0 N X Q) K m e L cf) q (fo.bind kf):=λhF=>by
 refine gO (g:=.mk P T hT n c B0 N X Q) ?_;rw[hs];intro fo' args ats ho hd hf ⟨ys,hys,hxs⟩ hA0 hdn hE;subst hxs;cases hfo:fo with
 |none=>grind
 |some x=>
  rw[hfo] at hF;refine hE Unit (λ_=>m'+1) (λ_=>(d,.p m' 0)::e') (λ_=>L'++[.box m' (cs x)]) (λ_=>sZ _) (λB a w next Q' hm hA hS hnext=>?_) (λ_=>k x hF);obtain⟨hcall,hrun⟩:=hc ⟨_,hS⟩ x hfo;obtain⟨vs,h1,h2⟩:=ZW hA hys;obtain⟨v,h3,h4⟩:=eF hA hf;simp[fH,aT] at h3;subst h3;have h5:=hrun vs (aCF hA0 (by rw[OJ];exact h1)) (aNO w);have h6:=RB (w:=w) hcall ho h4 h2;unfold Oper.wp;rw[h6 _ a hA.env,Oper.upon_enter];refine Calls.mono h5 λen w' ⟨v,hv,y,g1,g2⟩=>?_;subst hv;rw[hd];have hv':v=pV y:=by grind[fH,gV,bK]
  subst hv';have hb:∀{F:cC},(SN [y] 0 (cs x)).P w' F->(SN ((V8 (.mk P T hT n c B0 N X Q) cf1++B)++[y]) m' (cs x)).P w' F:=λ⟨b,z,us,k1,k2,k3⟩=>by
   simp only[List.getElem?_cons_zero,Option.some.injEq] at k1;refine⟨y.1,y.2,us,?_,?_,aj⟩
   ·grind
   ·simpa using eQ (λx v h=>by simpa using fW (B:=[]) (V8 (.mk P T hT n c B0 N X Q) cf1++B++[y]) h) (BR (hk x) k2)
  have g3:fH ((V8 (.mk P T hT n c B0 N X Q) cf1++B)++[y]) (.p m' 0)=some (pV y):=by grind[fH,gV,bK,pV]
  refine hnext () _ _ ⟨[y],aj,hA.ext g3 (hA.env.put (by grind[qS,wD]) _),?_⟩;obtain⟨⟨R,s1,s2⟩,s0⟩:=(hS.after (L2:=[.o (SN [y] 0 (cs x))]) rfl g2).app [y];refine⟨⟨R,s1.imp ?_,λz hz=>?_⟩,s0⟩
  ·rw[m7,m7];exact jT.append (jT.refl _) (.cons (λF h=>hb h) .nil)
  ·rcases cY.1 hz with hz|hz
   ·grind
   ·rcases iX.1 hz with rfl|hz<;>first|trivial|simp at hz
def bHL(b:Bool)(off sz:Nat)(cs:List SV):Option SV:=match b with
 |true=>some (.g ((cs.drop off).take sz))
 |false=>match cs[off]? with
  |some x=>match x with
   |.g _=>none
   |.t _=>none
   |.f _ _=>none
   |.u=>none
   |y=>some y
  |none=>none
theorem aNS{F0:Option O}{q:O}{ix d:Nat}{b:Bool}{k:TK}{z cs:List SV}{Fs:Array Field}{F:Field}{r:SV}{Lv:List Ch}(hu:P.underlying t=some (.struct Fs))(q0_:Fs[ix]?=some F/\wW T F.type=some ⟨k,b,sz,z⟩/\opS (jK T n K cf m e L)=some (o,Lv,cf1,cf2,K',m',e',L')/\(o.op,o.dst)=(.field t x ix,some d)/\iG e' x=some (.g cs)/\bHL b F.offset sz cs=some r/\(!b || Nat.ble (F.offset+sz) cs.length)=true)
  (kk:W (G (.mk P T hT n c B0 N X Q) K' m' ((d,r)::e') L' cf2) q F0):W (G (.mk P T hT n c B0 N X Q) K m e L cf) q F0:=let ⟨hf,hl,hs,ho,hx,hr,hz⟩:=q0_;λhF=>
 pu hs (bZ Prod.snd ho) (λB a w hA _=>by
  obtain⟨v,h1,h2⟩:=eF hA hx;simp only[fH,gV] at h1;split at h1
  case h_2=>cases h1
  rename_i vs hv;cases h1;have hlen:=kW hv;have h0:o.op=.field t x ix:=bZ Prod.fst ho;have hag:=hT.agg _ _ hl;have hsz:=hT.size _ _ hl;cases b with
  |true=>
   have hz':=QU (by simpa using hz);simp only[bHL] at hr;cases hr;refine⟨.agg ((vs.drop F.offset).take sz).toArray,by grind[fH,gV,Q1,Q0],λ_ a hA=>?_⟩;have e:vs.toArray.extract F.offset (F.offset+sz)=((vs.drop F.offset).take sz).toArray:=ae
   simp[execOp,h0,hA.eval h2,Instr.field,run_underlying hu,hf,part,asAgg,hag,hsz,e]
  |false=>
   simp only[bHL] at hr;split at hr
   case h_2=>cases hr
   rename_i y hy;obtain⟨u,h4,h5⟩:=QZ hv hy;have hr':r=y:=aj
   subst hr';refine⟨u,aZK h4,λ_ a hA=>?_⟩;simp[execOp,h0,hA.eval h2,Instr.field,run_underlying hu,hf,part,asAgg,hag,h5]) (kk hF)
end
section
variable {n:Nat} {c:Ctx} {B0:Bl} {m:Nat} {e:SE} {L:List Ch}
def kf(L xs:List Ch)(k:Nat):List Nat->List Ch
 |[]=>[]
 |i::is=>match Nat.blt i k with
  |true=>match L[i]? with
   |some x=>x::kf L xs k is
   |none=>kf L xs k is
  |false=>match xs[i-k]? with
   |some x=>x::kf L xs k is
   |none=>kf L xs k is
end
open Go Go.RowKit
theorem aTT{W:World}{B:Nat}{v:Value}{cs:Array Value}{t:TypeId}{f:Nat×Nat}(h:W.heap[B]?=some (.cells cs t f)):W.setCell ⟨B,j,none⟩ v=W.putObj B (.cells (cs.setIfInBounds j v) t f):=by unfold World.setCell World.putObj;obtain⟨hlt,he⟩:=aGL.1 h;congr 1;grind
theorem aNT{w':World}(h:Below w.heap.size w w'):eK F0 w w' where
 os:=h.os
 tape:=h.tape
 output:=h.output
 size:=h.size
 block:=λb hb _=>h.block b hb
 cell:=λb o hb _=>World.cell?_of_block (h.block b hb)
 wY:=λb o hb=>World.frozen?_of_block (h.block b hb)
 stay:=λb o hs=>by rw[World.cell?_of_block (a:=⟨b,o,none⟩) (h.block b (jM hs))];exact hs
end Go.Gv
end
noncomputable section
namespace Go.Gv
variable{U:Ctx}{g:FuncId}{c3 xs:List SV}{vs:List Value}{n1 n2 n3:Nat}{P:Program}{O β:Type}{w:World}{F:cC}
section
variable {P:Program} {T:TT} {hT:D6 P T} {n:Nat} {c:Ctx} {B0:Bl} {N:Act->World->Prop} {X:Nat->Act->World->Prop} {Q:Act->World->Prop} {K K':List Fr} {m m':Nat} {e e':SE} {L L' Lv:List Ch} {cf cf' cf1 cf2:sW} {o:Oper}
theorem aTU{O β:Type}{f:O->Option β}:∀{xs ys:List O} {vs:List β},aT f (xs++ys)=some vs->∃v1 v2,aT f xs=some v1/\aT f ys=some v2/\vs=v1++v2
 |[],ys,vs,h=>⟨[],vs,rfl,h,rfl⟩
 |x::xs,ys,vs,h=>by
  simp only[DM,aT] at h;split at h
  ·cases h
  ·rename_i h1;split at h
   ·cases h
   ·rename_i h2;cases h;obtain⟨v1,v2,q1,q2,rfl⟩:=aTU h2;grind[aT]
theorem aTV{O β:Type}{f:O->Option β}:∀{xs ys:List O} {v1 v2:List β},aT f xs=some v1->aT f ys=some v2->aT f (xs++ys)=some (v1++v2)
 |[],ys,v1,v2,h1,h2=>by cases h1;exact h2
 |x::xs,ys,v1,v2,h1,h2=>by
  simp only[aT] at h1;split at h1
  ·cases h1
  ·rename_i g1;split at h1
   ·cases h1
   ·rename_i g2;cases h1;simp[aT,g1,aTV g2 h2]
theorem bKN{iR:aN O}{C:DO O}{sr:β->SV}{b1:Nat×Nat}{c1:List SV}{p:O->Option β}(hc:∀args w,(callFunc g args).run P w=.ok (.enter g args) w)(hB:∀w1,eK U.W U.w0 w1->lJ (dZ w1) w1 [b1] [.ro 0 c1])
  (hn:∀{w1 x y},C.sub (YO w1) w1 x y->VS P (dZ w1) g (p x) [C.sv x y,.p 0 0] [b1] [.ro 0 c1] (λr (_:Unit)=>sr r) (λ_ _=>[])) (hz:∀q,yU 0 (sr q)=true:=by exact λ_=>rfl):WA P U C sr g (RC [b1]) p:=
 ⟨hc,λw1 hk x y hy q hq v hv=>by
  have hv':fH [b1] (C.sv x y)=some v:=by simpa using wE (B:=[]) [b1] hv
  have hl:fH [b1] (.p 0 0)=some (.pointer (some ⟨b1.1,b1.2,none⟩)):=by simp[fH,gV,bK]
  refine Calls.mono ((hn hy _ hq).run (v::RC [b1]) (by grind[aT,RC]) (hB w1 hk)) λen w' ⟨v',h1,y',h2,h3⟩=>⟨v',h1,?_,?_⟩
  ·grind[aPC]
  ·simpa using aCC (m:=0) h3 rfl⟩
theorem bKO{ex:Type}{fo:Option O}{kf:O->Option β}{q:β}{d:Option Nat}{f:FuncId}{xs0:List SV}{M:List Ch}{sv:O->ex->SV}{Lr:O->ex->List Ch}{c1:List SV}(jc:Nat)(is:List Nat)
  (hs:cpS (jK T n K cf m e L)=some (o,d,f,xs,cf1,cf2,K',m',e',L')) (hro:L'[jc]?=some (.ro n1 c1)) (hi:aT (λi=>L'[i]?) is=some M) (hxl:xs=xs.dropLast++[.f g [n1]]) (hx:aT (rnP [] 0) xs.dropLast=some xs0)
  (hk:(yU.okC 0 c1 && (I6 M && (dE is && is.all λj=>fP j cf1.wY)))=true)
  (hc:∀{U:Ctx},HG c U L' is->∀{b1:Nat×Nat},(∀w1,eK U.W U.w0 w1->lJ (dZ w1) w1 [b1] [.ro 0 c1])->VS P U f fo (xs0++[.k (.func (.func g) #[] (RC [b1]).toArray)]) [] M sv Lr)
  (k:∀x,∀y:ex,W (G (.mk P T hT n c B0 N X Q) K' m' (dse d (sv x y) e') (G4 L' is++Lr x y) cf2) q (kf x)) (hn:∀x y,(I6 (Lr x y) && yU 0 (sv x y))=true:=by exact λ_ _=>rfl):W (G (.mk P T hT n c B0 N X Q) K m e L cf) q (fo.bind kf):=λhF=>by
 refine gO (g:=.mk P T hT n c B0 N X Q) (a65 hs ?_);intro fo' args ats ho hd hf ⟨ys,hys,hxs⟩ hdn hE;simp only[uG] at hk hn;obtain⟨hk1,hkM,hka,hkz⟩:=hk;cases hfo:fo with
 |none=>grind
 |some x=>
  rw[hfo] at hF;refine hE ex (λ_=>m') (λy=>dse d (sv x y) e') (λy=>G4 L' is++Lr x y) (λy=>OK _ hkz) (λB a w next Q' hm hA hS hnext=>?_) (λy=>k x y hF);generalize hBB:V8 (.mk P T hT n c B0 N X Q) cf1++B=BB at hm hA hS hnext;obtain⟨⟨R,s1,s2⟩,s0⟩:=hS;have f1:=s1.front is hka;rw[LB hi] at f1;obtain⟨U,k1,k2,k3,k4,k5,k6,k7⟩:=f1.bFO s0;subst k1;have hHG:HG c U L' is:=by
   refine⟨λ{O} _ {s d} h=>k4 (fRd [s.v d.length] d) h,λ{O} _ {s d} i hi hj=>?_,λ{O} _ {s d} i hi=>k5 _ (s2 _ (D9 hi))⟩;have:(blank (L'.map (kS BB)) is)[i]?=some (eU [s.v d.length] d):=by rw[aEI (aEO hj),AS,hi];rfl
   exact k6 _ (D9 this) (fRd [s.v d.length] d) λw F h=>aN.own_rd h
  obtain⟨b,z,vs1,g1,g2,g3⟩:=s2 _ (D9 hro);have hc0:=BR hk1 g2;rw[List.take_zero] at hc0;have hB:∀w1,eK U.W U.w0 w1->lJ (dZ w1) w1 [(b,z)] [.ro 0 c1]:=λw1 hkp=>by have h1:=k5 _ g3;have h2:(fAt b z vs1).P U.S0 w1:=(fAt b z vs1).agree h1 λb' o' hS=>hkp.cell b' o' (k2 b' o' hS) λhw=>k3.apart b' o' hw hS;have h3:(fAt b z vs1).P (YO w1) w1:=(fAt b z vs1).mono h2 λb' o' hS=>HB (k2 b' o' hS) hkp.size;have h4:St (dZ w1) w1 [] [fAt b z vs1]:=St.enter aj;refine⟨⟨[fAt b z vs1],St.more (ch:=J1) h4 (eK.refl _ _) ⟨F0,λ_ _ h=>h,λ_ _ h=>h.elim⟩,λx hx=>?_⟩,λ_ _ h=>h⟩;simp at hx;subst hx;exact⟨b,z,vs1,ae,eQ (λx v h=>by simpa using fW (B:=[]) _ h) hc0,ae⟩
  obtain⟨hcall,hrun⟩:=hc hHG hB x hfo;obtain⟨vs,h1,h2⟩:=ZW hA hys;obtain⟨v,h3,h4⟩:=eF hA hf;simp[fH,aT] at h3;subst h3;have h1':aT (fH BB) xs=some vs:=by grind[OJ]
  have hvs:aT (fH []) (xs0++[.k (.func (.func g) #[] (RC [(b,z)]).toArray)])=some vs:=by rw[hxl] at h1';obtain⟨va,vb,q1,q2,rfl⟩:=aTU h1';have q3:=aQ2 (Bs:=[]) (ps:=[]) (ds:=[]) (pv:=[]) (L:=L') (B:=BB) trivial (λi=>by simp[blP]) hx q1;simp only[aT,fH,gV,VK,g1] at q2;cases q2;exact aTV q3 (by simp[aT,fH,gV,bK,RC];rfl)
  have hst:lJ U U.w0 [] M:=by
   refine⟨⟨[],?_,λx hx=>?_⟩,k2⟩
   ·rw[WB (B':=BB) hkM];exact k3
   ·exact WC hkM x hx
  have h5:=hrun vs hvs hst;have h6:=RB (w:=U.w0) hcall ho h4 h2;unfold Oper.wp;rw[h6 _ a hA.env,Oper.upon_enter];refine Calls.mono h5 λen w' ⟨v,hv,y,g1,g2⟩=>?_;subst hv;obtain⟨n3,n4⟩:=hn x y;have g3:=wE BB (aPC n4 g1);rw[V5] at g3;obtain⟨⟨R',t1,t2⟩,t0⟩:=g2;have t3:St U w' ((Lr x y).map (kS BB)) R':=by grind[WB]
  have t4:=k7 w' _ R' t3;have t6:lJ c w' BB (G4 L' is++Lr x y):=by
   refine⟨⟨R,?_,λz hz=>?_⟩,s0⟩
   ·rw[m7,ED];exact t4.rot
   ·rcases cY.1 hz with hz|hz
    ·rcases LA _ _ hz with hz|hz
     ·grind
     ·subst hz;trivial
    grind[WC]
  rw[hd];cases d with
  |none=>exact hnext y _ _ ⟨[],aj,by grind[dse,Act.put],aj⟩
  |some d=>exact hnext y _ _ ⟨[],aj,by simpa[dse] using hA.of g3 (hA.env.put (by grind[qS,wD]) v),aj⟩
end
def D4(l:List Int):List Int:=l.foldl (λa x=>if a.getLast?=some x then a else a++[x]) []
theorem aEQ(l:List Int)(x:Int):D4 (l++[x])=if(D4 l).getLast?=some x then D4 l else D4 l++[x]:=by grind[D4]
theorem a2Y:∀(l:List Int),(D4 l).getLast?=l.getLast?:=by
 intro l;rcases ZP l with rfl|⟨l,x,rfl⟩
 ·rfl
 grind[aEQ]
theorem bCR(l:List Int):(D4 l).length<=l.length:=by
 suffices h:∀(l a:List Int),(l.foldl (λa x=>if a.getLast?=some x then a else a++[x]) a).length<=a.length+l.length by have:=h l [];rw[List.length_nil,aB2] at this;exact this
 intro l;induction l with
 |nil=>simp
 |cons x l ih=>
  grind
def slices_Compact_int(s:List Int):Option (List Int):=some (D4 s)
theorem a0D(l:List Int):Lib.compact l=D4 l:=by
 have h:∀m,m<=l.length->Lib.compactUpTo l.toArray m=D4 (l.take m):=by
  intro m;induction m with
  |zero=>intro _;rfl
  |succ m ih=>
   intro hm;have hm':m<l.length:=hm;rw[Lib.compactUpTo_succ,ih aa,EA hm',aEQ,a2Y];have e1:l.toArray[m]! = l[m]:=by simp[hm']
   have key:(Lib.keeps l.toArray m=true)↔¬(l.take m).getLast?=some l[m]:=by
    cases m with
    |zero=>simp[Lib.keeps]
    |succ k=>
     have e2:l.toArray[k]! = l[k]:=aj
     rw[EA (by omega:k<l.length),List.getLast?_concat];simp only[Lib.keeps,decide_eq_true_eq,e1,Nat.add_sub_cancel,e2];grind
   grind
 have:=h l.length (iZ _);rw[List.take_length] at this;exact this
open Go.Sort in
theorem aTW{b off q:Nat}{d0 d:Array Int}(h0:Holds (Value.int .i64) w b off d0)(hs:d.size=d0.size):eK (eS b off d.size) w (putRow (Value.int .i64) (Sort.ahead w q) b off d):=by
 have hc:∀b' o,b'<w.heap.size->¬eS b off d.size b' o->(putRow (Value.int .i64) (Sort.ahead w q) b off d).cell? ⟨b',o,none⟩=w.cell? ⟨b',o,none⟩:=λb' o _ hn=>by
  rw[cell?_putRow_other _ _ _ _ _ _ (by
   by_cases e:b'=b
   ·right;by_cases h1:o<off
    ·grind
    ·right;by_cases h2:o<off+d.size
     ·exact absurd ⟨e,aa,h2⟩ hn
     grind
   grind)]
  rfl
 refine⟨rfl,rfl,rfl,ae,λb' hb hn=>?_,hc,λb' o _=>ae,λb' o h=>?_⟩
 ·show(w.heap.modify b _)[b']? = _;rw[Array.getElem?_modify];split
  ·rename_i e;subst e;have hz:d.size=0:=by
    rcases Nat.eq_zero_or_pos d.size with h|h
    ·exact h
    ·exact absurd ⟨rfl,iZ _,aa⟩ (hn off)
   cases hh:w.heap[b]? with
   |none=>rfl
   |some o=>
    cases o with
    |cells c e fr=>
     simp only[Option.map_some,onCells];have:putCells (Value.int .i64) off d c=c:=by apply Array.ext_getElem?;intro k;simp only[putCells,Array.getElem?_mapIdx,hz];grind
     rw[this]
    |_=>rfl
  ·rfl
 ·by_cases hn:eS b off d.size b' o
  ·obtain⟨rfl,h1,h2⟩:=hn;have:=cell?_putRow (Value.int .i64) (Sort.ahead w q) b' off d0 d h0 hs (o-off) aa;grind
  grind[jM]
open Go.Proofs in
theorem bNF{ρ:_}(Ly:Lays2.n20 P ρ)(hcall:∀args w,(callFunc (ρ.f 20) args).run P w=.ok (.enter (ρ.f 20) args) w){s:List Int}{s1:AC}:VS P U (ρ.f 20) (slices_Compact_int s) [.h s1 s.length] [] [ow s1 s] (λr (y:AC)=>.h y r.length) (λr y=>[ow y r]):=λr hr=>by
 cases hr;refine⟨hcall,λvs hv hS=>?_⟩;simp[aT,fH,gV,bK] at hv;subst hv;obtain⟨⟨R,h1,h2⟩,h0⟩:=hS;have h1:St U U.w0 [eU [s1.v s.length] s] R:=by grind[kS]
 obtain⟨F,hF⟩:=h1.chunk 0 rfl;have hF:aN.own U.w0 [s1.v s.length] s F:=hF;obtain⟨a,cp,he,hl1,hl2,hrest⟩:=(show AV U.w0 _ s F from hF);obtain⟨sa,sc⟩:=s1;simp only[AC.v,List.cons.injEq,Value.slice.injEq,and_true,true_and] at he;obtain⟨rfl,rfl⟩:=he;rcases hrest with ⟨rfl,rfl,hno⟩|⟨b,off,Fs,rfl,hrow,hel,hdj,hdr,hFF⟩
 ·have hs:s=[]:=uJ aa;subst hs;refine(Any.slices_Compact_int_empty Ly none 0 U.w0).mono ?_;rintro e w' ⟨rfl,rfl⟩;exact⟨_,rfl,⟨none,0⟩,by grind[fH,gV,bK,D4],⟨R,by grind[D4],λx hx=>by simp at hx;subst hx;trivial⟩,h0⟩
 ·have hn:aN.n Int=1:=rfl;have hH:Sort.Holds (Value.int .i64) U.w0 b off s.toArray:=λj hj=>by
   have hj':j<s.length:=aa
   obtain⟨ec,c1,c2⟩:=hel j hj';have c3:ec=[Value.int .i64 s[j]]:=(show _=_/\_ from c2).1;have:=c1 0 (.int .i64 s[j]) (by rw[c3];rfl);rw[hn,Nat.mul_one,UJ] at this;refine⟨aj,(hrow (off+j) ⟨rfl,aa,aj⟩).2⟩
  have hlen:(Lib.compact s).length<=s.length:=by grind[a0D,bCR]
  refine(Any.slices_Compact_int Ly b off sc s U.w0 hH (lO hl1 (lO hl2 ai)) hl1).mono ?_;rintro e w' ⟨rfl,q,rfl⟩;rw[a0D] at hlen ⊢;have hsz:(D4 s++List.replicate (s.length-(D4 s).length) 0).toArray.size=s.toArray.size:=ah
  have hsa:s.toArray.size=s.length:=ae
  have hK:=aTW (q:=q) hH hsz;refine⟨_,rfl,⟨some ⟨b,off,none⟩,sc⟩,by grind[fH,gV,bK],⟨R,?_,by simp[roF]⟩,h0⟩;have:=h1.aEG (w':=Sort.putRow (Value.int .i64) (Sort.ahead U.w0 q) b off (D4 s++List.replicate (s.length-(D4 s).length) 0).toArray) (ch':=eU [(⟨some ⟨b,off,none⟩,sc⟩ : AC).v (D4 s).length] (D4 s)) 0 rfl λF2 hF2=>by
   have hF2:aN.own U.w0 [_] s F2:=hF2;obtain⟨a',cp',he',_,_,hrest'⟩:=(show AV U.w0 _ s F2 from hF2);simp only[AC.v,List.cons.injEq,Value.slice.injEq,and_true,true_and] at he';obtain⟨rfl,rfl⟩:=he';rcases hrest' with ⟨h,_⟩|⟨b',off',Fs',h,hrow',hel',hdj',hdr',hFF'⟩
   ·cases h
   ·cases h;have hemp:∀i (hi:i<s.length) b' o,¬Fs' i b' o:=λi hi b' o h=>by obtain⟨ec,_,c2⟩:=hel' i hi;exact(show _/\∀b o,¬Fs' i b o from c2).2 b' o h
    refine⟨eS b off (sc*1),eS b off (D4 s++List.replicate (s.length-(D4 s).length) 0).toArray.size,hK,λb' o h=>(hFF' b' o).2 (.inl ?_),?_,λb' o h=>.inl ((hFF' b' o).2 (.inl h))⟩
    ·obtain⟨h3,h4,h5⟩:=h;exact⟨h3,h4,aj⟩
    ·refine⟨_,sc,rfl,aa,hl2,.inr ⟨b,off,λ_=>F0,rfl,λo ho=>?_,λi hi=>?_,λ_ _ _ _ _ _ _ h _=>h,λ_ _ _ _ h _=>h,λb' o=>by simp[F0,hn]⟩⟩
     ·have:=hrow' o ho;exact⟨hK.stay b o this.1,(hK.wY b o (jM this.1)).trans this.2⟩
     ·refine⟨[.int .i64 (D4 s)[i]],λj v hj=>?_,rfl,λ_ _ h=>h⟩;have hj0:j=0:=aj
      subst hj0;simp at hj;subst hj;rw[hn,Nat.mul_one,UJ];have:=Sort.cell?_putRow (Value.int .i64) (Sort.ahead U.w0 q) b off s.toArray (D4 s++List.replicate (s.length-(D4 s).length) 0).toArray hH hsz i aa;grind
  grind[kS]
theorem fkP{iR:aN O}{C:DO O}{sr:β->SV}{Bs:Bl}{L0:List Ch}{cap:List Value}{p:O->Option β}(hc:∀args w,(callFunc g args).run P w=.ok (.enter g args) w)(hB:∀w1,eK F0 w w1->lJ (dZ w1) w1 Bs L0)(hl:aT (fH Bs) xs=some cap)
  (hn:∀{w1 x y},eK F0 w w1->C.sub (YO w1) w1 x y->VS P (dZ w1) g (p x) (C.sv x y::xs) Bs L0 (λr (_:Unit)=>sr r) (λ_ _=>[])) (hz:∀q,yU 0 (sr q)=true:=by exact λ_=>rfl):WA P (dZ w) C sr g cap p:=
 ⟨hc,λw1 hk x y hy q hq v hv=>by
  have hv':fH Bs (C.sv x y)=some v:=by simpa using wE (B:=[]) Bs hv
  refine Calls.mono ((hn hk hy q hq).run (v::cap) (by grind[aT]) (hB w1 hk)) λen w' ⟨v',h1,y',h2,h3⟩=>⟨v',h1,?_,?_⟩
  ·grind[aPC]
  ·simpa using aCC (m:=0) h3 rfl⟩
theorem bCS{c:Ctx}{B:Bl}{L:List Ch}{c1:List SV}{b1 b2:Nat×Nat}(hS:lJ c w B L)(h1:Ch.ro n1 c1∈L)(h2:Ch.ro n2 [.p n3 0]∈L)(h3:Ch.ro n3 c3∈L)(o1:yU.okC 0 c1=true)(o3:yU.okC 0 c3=true)(g1:B[n1]?=some b1)(g2:B[n2]?=some b2) :
  ∃b3:Nat×Nat,∀w1,eK F0 w w1->lJ (dZ w1) w1 [b1,b2,b3] [.ro 0 c1,.ro 1 [.p 2 0],.ro 2 c3]:=by
 obtain⟨⟨R,s1,s2⟩,s0⟩:=hS;obtain⟨p1,z1,v1,e1,m1,f1⟩:=s2 _ h1;obtain⟨p2,z2,v2,e2,m2,f2⟩:=s2 _ h2;obtain⟨p3,z3,v3,e3,m3,f3⟩:=s2 _ h3;rw[g1] at e1;cases e1;rw[g2] at e2;cases e2;simp only[aT,bK,e3] at m2;cases m2;have q1:=BR o1 m1;have q3:=BR o3 m3;rw[List.take_zero] at q1 q3;refine⟨(p3,z3),λw1 hkp=>?_⟩;have fct:∀f∈R,f.P (YO w1) w1:=λf hf=>by obtain⟨i,hi⟩:=aFY hf;exact bFF (s1.fact i hi) hkp
 refine⟨⟨[fAt p1 z1 v1,fAt p2 z2 [.pointer (some ⟨p3,z3+0,none⟩)],fAt p3 z3 v3],?_,?_⟩,λ_ _ h=>h⟩
 ·have h4:St (dZ w1) w1 [] [fAt p1 z1 v1,fAt p2 z2 [.pointer (some ⟨p3,z3+0,none⟩)],fAt p3 z3 v3]:=St.enter (by
   grind)
  have more:∀{M:List Chunk} {R:List Fact},St (dZ w1) w1 M R->St (dZ w1) w1 (M++[J1]) R:=λh=>St.more (ch:=J1) h (eK.refl _ _) ⟨F0,λ_ _ h=>h,λ_ _ h=>h.elim⟩;exact more (more (more h4))
 ·intro x hx;simp only[iX,UI,or_false] at hx;rcases hx with rfl|rfl|rfl
  ·exact⟨p1,z1,v1,rfl,eQ (λx v h=>by simpa using fW (B:=[]) [(p1,z1),(p2,z2),(p3,z3)] h) q1,ae⟩
  ·exact⟨p2,z2,_,rfl,rfl,ae⟩
  ·exact⟨p3,z3,v3,rfl,eQ (λx v h=>by simpa using fW (B:=[]) [(p1,z1),(p2,z2),(p3,z3)] h) q3,ae⟩
section
variable {P:Program} {T:TT} {hT:D6 P T} {n:Nat} {c:Ctx} {B0:Bl} {N:Act->World->Prop} {X:Nat->Act->World->Prop} {Q:Act->World->Prop} {K K':List Fr} {m m':Nat} {e e':SE} {L L':List Ch} {cf cf1 cf2:sW} {o:Oper} {Lv:List Ch} {d:Nat}
theorem bNG{fo:Option O}{kf:O->Option β}{q:β}{f:FuncId}{sv:O->SV}{c1:List SV}(is:List Nat)(hs:jK T n K cf m e L=.callp o (some d) f xs cf1 cf2 K' m' e' L')(hk:kl (shr [n3] L') is=[.ro n1 c1,.ro n2 [.p n3 0],.ro n3 c3])(ho:((yU.okC 0 c1 && yU.okC 0 c3) && okA xs.dropLast)=true)(hx:xs=xs.dropLast++[.f g [n1,n2]])
  (hc:∀{w},HS c w L'->∀{b1 b2 b3:Nat×Nat},(∀w1,eK F0 w w1->lJ (dZ w1) w1 [b1,b2,b3] [.ro 0 c1,.ro 1 [.p 2 0],.ro 2 c3])->∀{x},fo=some x->Fn0 P f (dZ w) (xs.dropLast++[.k (.func (.func g) #[] (RC [b1,b2]).toArray)]) sv x) (hF:fo.bind kf=some q)
  (k:∀x,fo=some x->kf x=some q->G (.mk P T hT n c B0 N X Q) K' m' ((d,sv x)::e') L' cf2):G (.mk P T hT n c B0 N X Q) K m e L cf:=by
 refine gO (g:=.mk P T hT n c B0 N X Q) ?_;rw[hs];intro fo' args ats ho' hd hf ⟨ys,hys,hxs⟩ hdn hE;rw[uG] at ho;cases hfo:fo with
 |none=>grind
 |some x=>
  rw[hfo] at hF;refine hE Unit (λ_=>m') (λ_=>(d,sv x)::e') (λ_=>L') (λ_=>by simpa using sZ (L:=L') []) (λB a w next Q' hm hA hS hnext=>?_) (λ_=>k x hfo hF);obtain⟨vs,h1,h2⟩:=ZW hA hys;obtain⟨v,h3,h4⟩:=eF hA hf;simp[fH,aT] at h3;subst h3;rw[<-OJ,hxs] at h1;rw[hx] at h1;have split:∀{qs:List SV} {b:SV} {vs:List Value} {B:Bl},aT (fH B) (qs++[b])=some vs->∃us v,aT (fH B) qs=some us/\fH B b=some v/\vs=us++[v]:=by
   intro qs;induction qs with
   |nil=>
    grind[aT]
   |cons a qs ih=>
    intro b vs B h;simp only[DM,aT] at h;grind[aT]
  obtain⟨us,fv,g1,g2,rfl⟩:=split h1;simp only[fH] at g2;split at g2
  ·rename_i cap hcap;cases g2;obtain⟨Bs,b1,b2,b3⟩:=a6V (cs:=[(n1,c1),(n2,[.p n3 0])]) hcap;subst b1;obtain⟨d1,d2,rfl⟩:∃d1 d2,Bs=[d1,d2]:=by
    match Bs,b2 with
    |[d1,d2],_=>simp
   have hmem:∀x∈[Ch.ro n1 c1,.ro n2 [.p n3 0],.ro n3 c3],x∈shr [n3] L':=λx hx=>aJZ (is:=is) aj;rw[uG] at ho;obtain⟨q1,y1,y2⟩:=b3 0 n1 c1 rfl;obtain⟨q2,y3,y4⟩:=b3 1 n2 _ rfl;simp at y1 y3;subst y1 y3;obtain⟨d3,hst⟩:=bCS (n3:=n3) (c1:=c1) (c3:=c3) (aQY [n3] [] L' hS) (hmem (.ro n1 c1) ae) (hmem (.ro n2 [.p n3 0]) ae) (hmem (.ro n3 c3) ae) ho.1.1 ho.1.2 y2 y4;obtain⟨hcall,hrun⟩:=hc ⟨_,hS⟩ hst hfo;have join:∀{qs:List SV} {us:List Value} {b:SV} {v:Value},aT (fH []) qs=some us->fH [] b=some v->aT (fH []) (qs++[b])=some (us++[v]):=by
    intro qs;induction qs with
    |nil=>grind[aT]
    |cons a qs ih=>
     intro us b v h hb;simp only[aT] at h;split at h
     ·cases h
     ·rename_i u hu;split at h
      ·cases h
      ·rename_i us' hus;cases h;simp[aT,hu,ih hus hb]
   have h5:=hrun (us++[.func (.func g) #[] (RC [d1,d2]).toArray]) (join (aCF ho.2 g1) (by simp[fH,gV,bK,Value.oneCell'])) (aNO w);have h6:=RB (w:=w) hcall ho' h4 h2;unfold Oper.wp;rw[h6 _ a hA.env,Oper.upon_enter];refine Calls.mono h5 λen w' ⟨v,hv,y,e1,e2⟩=>?_;subst hv;rw[hd];have g3:=wE (V8 (.mk P T hT n c B0 N X Q) cf1++B) e1;exact hnext () _ _ ⟨[],aj,by simpa using hA.of aj (hA.env.put (by grind[qS,wD]) v),by simpa using hS.after (L2:=[]) rfl e2⟩
  ·cases g2
theorem clP{fo:Option O}{kf:O->Option β}{q:β}{f:FuncId}{sv:O->SV}{c1:List SV}(is:List Nat)(hs:jK T n K cf m e L=.callp o (some d) f xs cf1 cf2 K' m' e' L')(hk:kl (shr [n3] L') is=[.ro n1 c1,.ro n2 [.p n3 0],.ro n3 c3])(ho:((yU.okC 0 c1 && yU.okC 0 c3) && okA xs.dropLast)=true)(hx:xs=xs.dropLast++[.f g [n1,n2]])
  (hc:∀{w},HS c w L'->∀{b1 b2 b3:Nat×Nat},(∀w1,eK F0 w w1->lJ (dZ w1) w1 [b1,b2,b3] [.ro 0 c1,.ro 1 [.p 2 0],.ro 2 c3])->V0 P (dZ w) f fo (xs.dropLast++[.k (.func (.func g) #[] (RC [b1,b2]).toArray)]) sv)
  (k:∀x,W (G (.mk P T hT n c B0 N X Q) K' m' ((d,sv x)::e') L' cf2) q (kf x)):W (G (.mk P T hT n c B0 N X Q) K m e L cf) q (fo.bind kf):=λhF=>
 bNG is hs hk ho hx (λh _ _ _ h2 _ hx=>hc h h2 _ hx) hF λx _ h=>k x h
def noD:sW->Bool
 |.d _ _ _ _ _ _=>false
 |.o _ _ _ _ _ _ _=>false
 |_=>true
theorem shS(ns:List Nat){cf':sW}(hs:SM (jK T n K cf m e L)=some (K',cf',m',e',L'))(hf:noD cf'=true)(k:G (.mk P T hT n c B0 N X Q) K' m' e' (shr ns L') cf'):G (.mk P T hT n c B0 N X Q) K m e L cf:=by
 refine go hs (chg (λ_:Unit=>m') (λ_=>e') (λ_=>shr ns L') (λB a w hm hA hS=>⟨(),[],aj,aj,by simpa using aQY ns [] L' hS⟩) (λ_=>?_) (λ_=>k));cases cf' with
 |d _ _ _ _ _ _=>cases hf
 |o _ _ _ _ _ _ _=>cases hf
 |_=>trivial
end
abbrev R2:=Raw×Raw
variable{us:List R2}
def prs:List Value->List R2
 |a::b::r=>(⟨a⟩,⟨b⟩)::prs r
 |_=>[]
theorem SS:∀{n:Nat} {cs:List Value},cs.length=n*2->(prs cs).length=n
 |0,cs,h=>by have:cs=[]:=uJ aa;rw[this];rfl
 |n + 1,cs,h=>by
  match cs,h with
  |a::b::r,h=>simp only[prs,HA] at *;rw[SS (n:=n) aa]
  |[_],h=>grind
  |[],h=>simp at h
theorem aIR:∀{n:Nat} {cs ds:List Value},cs.length=n*2->prs (cs++ds)=prs cs++prs ds
 |0,cs,ds,h=>by have:cs=[]:=uJ aa;rw[this];rfl
 |n + 1,cs,ds,h=>by
  match cs,h with
  |a::b::r,h=>simp only[prs,DM,HA] at *;rw[aIR (n:=n) aa]
  |[_],h=>grind
  |[],h=>simp at h
theorem a0E{a b:Value}(ha:a.oneCell'=true)(hb:b.oneCell'=true):aN.own w [a,b] ((⟨a⟩,⟨b⟩):R2) F0:=⟨[a],[b],F0,F0,rfl,⟨⟨rfl,ha⟩,λ_ _ h=>h⟩,⟨⟨rfl,hb⟩,λ_ _ h=>h⟩,λ_ _ h=>h.elim,λ_ _=>by simp[F0]⟩
theorem bCT{cs:List Value}{u:R2}(h:aN.own w cs u F):cs=[u.1.v,u.2.v]/\∀b o,¬F b o:=by obtain⟨c1,c2,F1,F2,e,h1,h2,_,hF⟩:=h;refine⟨by rw[e,h1.1.1,h2.1.1];rfl,λb o p=>((hF b o).1 p).elim (h1.2 b o) (h2.2 b o)⟩
section
variable {O:Type} [aN O] (hn:aN.n O=2) {w:World}
include hn
theorem a0F:∀{l:List O} {cs:List Value} {F:cC},cM w cs l F->cM w cs (prs cs) F0
 |[],cs,F,h=>by rw[h.1];exact⟨rfl,λ_ _ h=>h⟩
 |x::r,cs,F,⟨c1,c2,F1,F2,e,h1,h2,hd,hF⟩=>by
  have a:=aN.lP (aN.own_rd h1);have o:=aN.rd_one (aN.own_rd h1);rw[hn] at a
  match c1,a,o with
  |[u,v],_,o=>
   subst e;exact⟨[u,v],c2,F0,F0,rfl,a0E (o u ae) (o v ae),a0F h2,λ_ _ h=>h.elim,λ_ _=>by simp[F0]⟩
theorem aQ5{l:List O}{cs:List Value}(h:cM w cs l F):cs.length=l.length*2:=by rw[h.length,hn]
omit hn in
theorem aPD:∀{us:List R2} {cs:List Value} {F:cC},cM w cs us F->us=prs cs/\∀b o,¬F b o
 |[],cs,F,h=>by rw[h.1];exact⟨rfl,h.2⟩
 |u::r,cs,F,⟨c1,c2,F1,F2,e,h1,h2,hd,hF⟩=>by obtain⟨e1,f1⟩:=bCT h1;obtain⟨e2,f2⟩:=aPD h2;simp_all[prs]
theorem a7K{s:Value}{l:List O}{cs:List Value}{G Fe:cC}(h:aN.own w [s] us G)(ho:cM w cs l Fe)(hu:us=prs cs)(hd:G.EC Fe):aN.own w [s] l (λb o=>G b o\/Fe b o):=by
 have hcl:=aQ5 hn ho;have hp:=SS hcl;rw[<-hu] at hp;obtain⟨a,c,e,h1,h2,h3⟩:=mX.1 h;refine mX.2 ⟨a,c,by rw[e,hp],aa,h2,?_⟩;rcases h3 with ⟨rfl,rfl,k⟩|⟨b,off,cc,Ge,rfl,hr,hc,ho',hdj,hFF⟩
 ·have hl:l=[]:=uJ aa;subst hl;exact .inl ⟨rfl,rfl,λb o p=>p.elim (k b o) (ho.2 b o)⟩
 ·obtain⟨q1,q2⟩:=aPD ho';have hcc:cc.length=us.length*2:=ho'.length;have e2:cc=cs:=by
   have hj:∀{n:Nat} {x y:List Value},x.length=n*2->y.length=n*2->prs x=prs y->x=y:=by
    intro n;induction n with
    |zero=>simp
    |succ n ih=>
     intro x y hx hy hxy
     match x,y,hx,hy,hxy with
     |a::b::r,a'::b'::r',hx,hy,hxy=>
      grind[prs]
     |[],_,hx,_,_=>simp at hx
     |[_],_,hx,_,_=>grind
     |_::_::_,[],_,hy,_=>simp at hy
     |_::_::_,[_],_,hy,_=>grind
   grind
  subst e2;have hG:∀b' o,G b' o↔eS b off (c*2) b' o:=λb' o=>by rw[hFF];exact⟨λq=>q.elim id λq=>(q2 b' o q).elim,.inl⟩
  refine .inr ⟨b,off,cc,Fe,rfl,by rw[hn];exact hr,hc,ho,λb' o p q=>hd b' o ((hG b' o).2 aj) p,λb' o=>by rw[hG,hn]⟩
def cIn(cs:List Value)(l:List O):Chunk:=⟨λw F=>cM w cs l F,λh hk hd=>cM.keep hk h hd,λh hf=>cM.lt h hf⟩
end
def bKP{O:Type}(l:List O)(i j:Int):Option (List O):=need (0<=i/\i<=j/\j<=(l.length:Int)) (some (l.take i.toNat++l.drop j.toNat))
def zR2:R2:=(⟨.bool false⟩,⟨.slice none 0 0⟩)
theorem bHM:aN.rd F0 w [.bool false,.slice none 0 0] zR2:=⟨[_],[_],rfl,⟨rfl,rfl⟩,⟨rfl,rfl⟩⟩
theorem bCU{l:List O}{a b:Nat}(hab:a<=b)(hb:b<=l.length):((cS l a (l.drop b)).take (a+(l.length-b))).drop 0=l.take a++l.drop b:=by
 have h1:(l.take a).length=a:=aj
 have h2:(l.drop b).length=l.length-b:=ae
 unfold cS;rw[UG,aF2 (l:=l.drop b) aa,<-nL,show a+(l.length-b)=(l.take a++l.drop b).length by grind];grind
theorem aTX{p:Prop}[Decidable p]{k:Option O}(h:p):need p k=k:=aO h
def a7L(s:List R2)(i j:Int):Option (List R2):=need (0<=(i:Int)/\(i:Int)<=(j:Int)/\(j:Int)<=((s.length:Int):Int)/\((s.length:Int):Int)<=(s.length:Int)) ((if i == j then some s else need (0<=(i:Int)/\(i:Int)<=(s.length:Int)) (need (0<=(j:Int)/\(j:Int)<=(s.length:Int)) (need (i.toNat<=j.toNat) (need (0<=(((((cS s i.toNat (s.drop j.toNat)).take (i.toNat+(s.length-j.toNat))).drop 0).length:Int):Int)/\(((((cS s i.toNat (s.drop j.toNat)).take (i.toNat+(s.length-j.toNat))).drop 0).length:Int):Int)<=((s.length:Int):Int)/\((s.length:Int):Int)<=((cS s i.toNat (s.drop j.toNat)).length:Int)) (some (((cS s i.toNat (s.drop j.toNat)).take (i.toNat+(s.length-j.toNat))).drop 0)))))))
theorem bCV{i j:Int}(h:0<=i/\i<=j/\j<=(us.length:Int)):a7L us i j=some (us.take i.toNat++us.drop j.toNat):=by
 unfold a7L;rw[aTX aa];by_cases e:i=j
 ·simp_all
 ·rw[aP aj,aTX aa,aTX aa,aTX aa,bCU aa aa,aTX];grind[eZ]
theorem a7M[aN O](hn:aN.n O=2){s:Value}{l:List O}{ec:List Value}(hl:ec.length=2)(ho:∀v∈ec,v.oneCell'=true)(h:Sep w [sM s l 0,VY (VJ s) (UL (aN.n O) 0 s) ec] F) :
  ∃c2,c2.length=(l.drop 1).length*2/\l.length=(l.drop 1).length+1/\∀F,Sep w [sM s l 0,VY (VJ s) (UL (aN.n O) 0 s) ec] F->∃G Fe,aN.own w [s] (prs (ec++c2)) G/\cM w c2 (l.drop 1) Fe/\G.EC Fe/\∀b o,F b o↔G b o\/Fe b o:=by
 obtain⟨G1,G2,⟨a,c,b,off,c1,c2,F1,F3,e,h1,h2,hk,rfl,hr,k1,k3,o1,o3,d1,d2,d3,hG1⟩,_,_,_⟩:=h;have hc2:=aQ5 hn o3;have hdl:(l.drop 1).length=l.length-1:=ae
 have hdl':(l.drop (0+1)).length=l.length-1:=ae
 refine⟨c2,hc2,aa,λF h=>?_⟩;obtain⟨G1',G2',⟨a',c',b',off',c1',c2',F1',F3',e',h1',h2',hk',e3,hr',k1',k3',o1',o3',d1',d2',d3',hG1'⟩,hAt,dG,hF⟩:=h;rw[e] at e';cases e';cases e3;have hcc:c2'=c2:=aAK k3' k3 (by grind[aQ5]);subst hcc;have hAt:(VY (VJ s) (UL (aN.n O) 0 s) ec).P w G2':=Sep.one.1 hAt;obtain⟨k2,hz,hH⟩:=hAt;subst e;simp only[VJ,UL,Nat.zero_mul,UJ,hl] at k2 hz hH;have hF1:∀b o,¬F1' b o:=by have:l.take 0=[]:=rfl;rw[this] at o1';exact o1'.2
 rw[hn] at hr' k3' d3' hG1';have hp:(prs (ec++c2')).length=l.length:=by rw[aIR (n:=1) aa,D8,SS (n:=1) aa,SS hc2];omega
 have hraw:cM w (ec++c2') (prs (ec++c2')) F0:=by
  match ec,hl,ho with
  |[u,v],_,ho=>exact⟨[u,v],c2',F0,F0,rfl,a0E (ho u ae) (ho v ae),a0F hn o3',λ_ _ h=>h.elim,λ_ _=>by simp[F0]⟩
 refine⟨eS b off (c*2),F3',mX.2 ⟨_,c,by rw[hp],aa,h2',.inr ⟨b,off,ec++c2',F0,rfl,λo p=>?_,?_,hraw,λ_ _ h=>h.elim,λ_ _=>?_⟩⟩,o3',λb o p q=>d3' b o q p,λb' o=>?_⟩
 ·by_cases q:eS b off 2 b o
  ·refine⟨?_,hz o q⟩;obtain⟨_,q1,q2⟩:=q;have:=k2 (o-off) _ (jC aa);simp_all
  ·exact hr' o p aa
 ·grind[SK]
 ·exact⟨.inl,λq=>q.elim id λq=>q.elim⟩
 grind[eS]
theorem aPE{B:Bl}:∀{cs:List SV} {vs:List Value},aT (bK B) cs=some vs->∀v∈vs,v.oneCell'=true
 |[],vs,h,v,hv=>by cases h;simp at hv
 |x::r,vs,h,v,hv=>by
  simp only[aT] at h;split at h
  ·cases h
  ·rename_i y hy;split at h
   ·cases h
   ·rename_i ys hys;cases h;rcases iX.1 hv with rfl|hv
    ·exact aJV hy
    ·exact aPE hys v hv
section
variable {P:Program} {T:TT} {hT:D6 P T} {n:Nat} {c:Ctx} {B0:Bl} {N:Act->World->Prop} {X:Nat->Act->World->Prop} {Q:Act->World->Prop} {K K':List Fr} {m m':Nat} {e e':SE} {L L':List Ch} {cf cf' cf1 cf2:sW} {o:Oper} {Lv:List Ch} {d:Nat}
theorem hzR[aN O](hn:aN.n O=2){s:AC}{l:List O}{nb n0:Nat}{cs:List SV}(h h2 hv:Nat)(hs:SM (jK T n K cf m e L)=some (K',cf',m',e',L'))(hh:L'[h]?=some (.o (sM (s.v l.length) l 0)))(hb:L'[h2]?=some (.box nb cs))(hw:L'[hv]?=some (wOf O nb s n0 0))(hl:cs.length=2)(ha:dE [h,h2]=true)(hz:([h,h2].all λj=>fP j cf'.wY)=true)
  (k:∀(us:List R2) (c2:List Value),us.length=l.length->us.drop 1=prs c2->l.length=(l.drop 1).length+1->G (.mk P T hT n c B0 N X Q) K' m' e' (G4 L' [h,h2]++[ow s us,.o (cIn c2 (l.drop 1))]) cf'):G (.mk P T hT n c B0 N X Q) K m e L cf:=by
 refine go hs (chg (ι:={p:List R2×List Value // p.1.length=l.length/\p.1.drop 1=prs p.2/\l.length=(l.drop 1).length+1}) (λ_=>m') (λ_=>e') (λp=>G4 L' [h,h2]++[ow s p.1.1,.o (cIn p.1.2 (l.drop 1))]) (λB a w hm hA hS=>?_) (λ_=>OK _ hz) (λp=>k p.1.1 p.1.2 p.2.1 p.2.2.1 p.2.2.2));obtain⟨⟨R,s1,s2⟩,s0⟩:=hS;have f1:=s1.front [h,h2] ha;rw[LB (M:=[.o (sM (s.v l.length) l 0),.box nb cs]) (by grind[aT])] at f1;obtain⟨F,S,hsep,_⟩:=f1.sep;obtain⟨Fa,Fb,hab,_⟩:=Sep.append.1 hsep;have hB:=s2 _ (D9 hw);simp only[roF] at hB;obtain⟨G1,G2,g1,g2,g3,g4⟩:=hab;have g2:(SN B nb cs).P w G2:=Sep.one.1 g2;obtain⟨b,z,vs,q1,q2,q3⟩:=g2;rw[hB] at q1;cases q1;have hlv:vs.length=2:=by grind[kW]
 have e1:VJ (s.v n0)=VJ (s.v l.length):=bFR s _ _;have e2:UL (aN.n O) 0 (s.v n0)=UL (aN.n O) 0 (s.v l.length):=bFS s _ _ _ _;rw[e1,e2] at q3;obtain⟨c2,z1,z2,z3⟩:=a7M hn hlv (aPE q2) (F:=Fa) ⟨G1,G2,g1,Sep.one.2 q3,g3,g4⟩;have hpl:(prs (vs++c2)).length=l.length:=by rw[aIR (n:=1) aa,D8,SS (n:=1) aa,SS z1];omega
 have hpd:(prs (vs++c2)).drop 1=prs c2:=by rw[aIR (n:=1) aa];exact List.drop_left' (SS (n:=1) aa)
 refine⟨⟨(prs (vs++c2),c2),hpl,hpd,z2⟩,[],aj,aj,⟨⟨R,?_,λx hx=>?_⟩,s0⟩⟩
 ·rw[uH,m7,ED];have:=s1.shift [h,h2] ha (A':=[eU [s.v (prs (vs++c2)).length] (prs (vs++c2)),cIn c2 (l.drop 1)]) (λF hF=>by
   rw[LB (M:=[.o (sM (s.v l.length) l 0),.box nb cs]) (by grind[aT])] at hF;obtain⟨G1,G2,g1,g2,g3,g4⟩:=hF;have g2:(SN B nb cs).P w G2:=Sep.one.1 g2;obtain⟨b',z',vs',q1',q2',q3'⟩:=g2;rw[hB] at q1';cases q1';rw[q2] at q2';cases q2';rw[e1,e2] at q3';obtain⟨G,Fe,a1,a2,a3,a4⟩:=z3 F ⟨G1,G2,g1,Sep.one.2 q3',g3,g4⟩;rw[hpl];exact⟨G,Fe,a1,Sep.one.2 a2,a3,a4⟩)
  exact this
 ·rw[uH];rcases cY.1 hx with hx|hx
  ·rcases LA _ _ hx with hx|hx
   ·grind
   ·subst hx;trivial
  ·simp only[iX,UI,or_false] at hx;rcases hx with rfl|rfl<;>trivial
theorem joR[aN O](hn:aN.n O=2){s:AC}{l:List O}{cs:List Value}(i j:Nat)(hi:L[i]?=some (ow s us))(hj:L[j]?=some (.o (cIn cs l)))(hu:us=prs cs)(ha:dE [i,j]=true)(hz:([i,j].all λj=>fP j cf.wY)=true)(hl:us.length=l.length)
  (k:G (.mk P T hT n c B0 N X Q) K m e (G4 L [i,j]++[ow s l]) cf):G (.mk P T hT n c B0 N X Q) K m e L cf:=by
 refine chg (λ_:Unit=>m) (λ_=>e) (λ_=>G4 L [i,j]++[ow s l]) (λB a w hm hA hS=>?_) (λ_=>OK _ hz) (λ_=>k);obtain⟨⟨R,s1,s2⟩,s0⟩:=hS;refine⟨(),[],aj,aj,⟨⟨R,?_,λx hx=>?_⟩,s0⟩⟩
 ·rw[uH,m7,ED];exact s1.shift [i,j] ha (A':=[eU [s.v l.length] l]) (λF hF=>by
   rw[LB (M:=[ow s us,.o (cIn cs l)]) (by grind[aT])] at hF;obtain⟨G1,G2,g1,g2,g3,g4⟩:=hF;have g2:cM w cs l G2:=Sep.one.1 g2;have g1:aN.own w [s.v us.length] us G1:=g1;rw[hl] at g1;have:=a7K hn g1 g2 hu g3;exact Sep.one.2 (by
    have e:F=λb o=>G1 b o\/G2 b o:=aj
    rw[e];exact this))
 ·rw[uH];rcases cY.1 hx with hx|hx
  ·rcases LA _ _ hx with hx|hx
   ·grind
   ·subst hx;trivial
  ·simp only[iX,UI,or_false] at hx;subst hx;trivial
theorem dlW[aN O](hn:aN.n O=2){f:FuncId}{kf:List O->Option β}{q:β}{s:AC}{l:List O}{c2:List Value}(i j:Nat)
  (hs:cpS (jK T n K cf m e L)=some (o,some d,f,[.h s l.length,.i .i64 0,.i .i64 1],cf1,cf2,K',m',e',L')) (hi:L'[i]?=some (ow s us)) (hj:(G4 L' [i]++[ow s us])[j]?=some (.o (cIn c2 (l.drop 1)))) (hz:fP i cf1.wY=true) (ha:dE [L'.length,j]=true) (hz2:([L'.length,j].all λj=>fP j cf2.wY)=true)
  (hu:us.length=l.length) (hd:us.drop 1=prs c2) (hl:l.length=(l.drop 1).length+1)
  (H:∀{U:Ctx} {us:List R2},VS P U f (a7L us 0 1) [.h s us.length,.i .i64 0,.i .i64 1] [] [ow s us] (λ(r:List R2) (y:AC)=>.h y r.length) (λr y=>[ow y r]))
  (k:∀y:AC,W (G (.mk P T hT n c B0 N X Q) K' m' ((d,.h y (l.drop 1).length)::e') (G4 (G4 L' [i]++[ow y (us.drop 1)]) [L'.length,j]++[ow y (l.drop 1)]) cf2) q (kf (l.drop 1))):W (G (.mk P T hT n c B0 N X Q) K m e L cf) q ((bKP l 0 1).bind kf):=λhF=>by
 have hlen:(G4 L' [i]).length=L'.length:=by simp[G4]
 have hdl:∀{x},bKP l 0 1=some x->x=l.drop 1:=λh=>by obtain⟨_,h⟩:=lZ h;grind
 refine cw0 (sv:=λ(r:List O) (y:AC)=>.h y r.length) (Lr:=λ_ y=>[ow y (us.drop 1)]) (M:=[ow s us]) (xs0:=[.h s l.length,.i .i64 0,.i .i64 1]) [i] hs (by simp[aT,hi]) rfl (by grind[I6,dE]) (λ_ _=>rfl) (λ{U} _ {x} hx=>?_) hF (λx h1 h2 y=>?_)
 ·have hr:a7L us 0 1=some (us.drop 1):=by grind[bCV]
  have h:=H (U:=U) (us:=us) _ hr;rw[hu] at h;refine⟨h.call,λvs hvs hst=>Calls.mono (h.run vs hvs hst) λen w' hE=>?_⟩;grind
 ·obtain rfl:=hdl h1;refine joR hn L'.length j aj ?_ hd ha hz2 (by simp[hu]) (k y h2);have hjl:j<L'.length:=by
   have h3:j<(G4 L' [i]++[ow s us]).length:=(AR.1 hj).1;have h4:j≠L'.length:=by intro e;subst e;simp[dE,fP] at ha
   grind
  grind
end
open Go.Lib Go.Proofs
theorem wZ(w:World)(dT sT ty elem:TypeId)(k b o dLen dCap:Nat)(a:Addr)(sLen sCap m:Nat)(cs:List Value)
  (hu:P.underlying dT=some (.slice elem)) (hs:(P.info? elem).map (·.size)=some k) (hm:Nat.min sLen dLen=m) (hn:cs.length=m*k)
  (hsrc:∀j v,cs[j]?=some v->w.cell? (a.add j)=some v) (hc:∀j,j<cs.length->(w.cell? ⟨b,o+j,none⟩).isSome=true) (hf:∀j,j<cs.length->w.frozen? ⟨b,o+j,none⟩=false) (h1:∀v∈cs,v.oneCell'=true) :
  (Builtin.copy_ #[dT,sT] ty #[.slice (some ⟨b,o,none⟩) dLen dCap,.slice (some a) sLen sCap]).run P w=.ok (goInt m) (w.setCells b o cs):=by
 have hl:=run_loadCells_list (P:=P) w a cs hsrc;have hst:=run_storeCells_cells (P:=P) b o cs 0 w aa aa h1;subst hm;cases hq:P.info? elem with
 |none=>grind
 |some i=>
  simp_all[Builtin.copy_,run_underlying,Builtin.lenOf,Builtin.firstCells,sizeOf,typeInfo]
theorem AY(b o0 m:Nat):∀(vs:List Value) (o:Nat) (w:World),o0<=o->o+vs.length<=o0+m->eK (eS b o0 m) w (w.setCells b o vs)
 |[],_,w,_,_=>eK.refl _ _
 |v::r,o,w,h1,h2=>by simp only[HA] at h2;rw[World.setCells];exact(eK.setCell _ w ⟨b,o,none⟩ v ⟨rfl,h1,aj⟩ rfl).trans (AY b o0 m r (o+1) _ aa aa) λ_ _ _ h=>h
theorem aF8{w1:World}(b:Nat)(hb:w.heap.size<=b){o:Nat}(h:eK F0 w w1):eK F0 w (w1.setCells b o vs):=h.trans ((AY b o vs.length vs o w1 (iZ _) (iZ _)).mono (G:=eS b o vs.length) λ_ _ _ h=>h) (F:=F0) λb' o' hlt hr=>by obtain⟨rfl,_⟩:=hr;omega
theorem EE{b o:Nat}(h:∀j,j<vs.length->(w.cell? ⟨b,o+j,none⟩).isSome=true):bA (w.setCells b o vs) b o vs:=λj v hj=>by grind[World.cell?_setCells_in]
theorem vN{b o o':Nat}{cs:List Value}(h:bA w b o' cs)(hd:o'+cs.length<=o\/o+vs.length<=o'):bA (w.setCells b o vs) b o' cs:=λj v hj=>by have hl:=(AR.1 hj).1;rw[World.cell?_setCells_out b vs o w ⟨b,o'+j,none⟩ (λ_ _=>aj)];exact h j v hj
theorem RD{b o:Nat}{cs ds:List Value}(h:bA w b o cs)(k:bA w b (o+cs.length) ds):bA w b o (cs++ds):=λj v hj=>by
 by_cases hl:j<cs.length
 ·rw[List.getElem?_append_left hl] at hj;exact h j v hj
 ·rw[aOY aa] at hj;have:=k _ v hj;grind
theorem aXC{b o n:Nat}{cs:List Value}(h:bA w b o cs):bA w b o (cs.take n):=λj v hj=>by
 rw[aBZ] at hj;split at hj
 ·exact h j v hj
 ·cases hj
theorem aCI{b o n o':Nat}(h:Row w b o n)(ho:o<=o'/\o'+vs.length<=o+n):Row (w.setCells b o' vs) b o n:=λq hq=>by obtain⟨_,h2,h3⟩:=hq;refine⟨Go.Proofs.isSome_setCells b vs o' w (λj hj=>(h (o'+j) ⟨rfl,aa,aa⟩).1) q (h q ⟨rfl,h2,h3⟩).1,?_⟩;rw[World.frozen?_setCells];exact(h q ⟨rfl,h2,h3⟩).2
def bNH(w:World)(k n:Nat)(ad:Option Addr)(c:Nat)(ccs:List Value)(e:Ending)(w':World):Prop:=
 ∃b o c',e=.returned (.slice (some ⟨b,o,none⟩) (n+1) c')/\n+1<=c'/\c'<=maxLen/\bA w' b o ccs/\Row w' b o (c'*k) /\
  ((ad=some ⟨b,o,none⟩/\c'=c/\eK (eS b o (c*k)) w w')\/(w.heap.size<=b/\eK F0 w w'))
def bNI(P:Program)(f k:Nat):Prop:=∀(b off n c i vb:Nat) (cs vs:List Value) (w:World),i<n->n+1<=c->c<=9223372036854775807->vb≠b->cs.length=n*k->vs.length=k ->
  bA w b off cs->(∀j,j<c*k->(w.cell? ⟨b,off+j,none⟩).isSome=true)->(∀j,j<c*k->w.frozen? ⟨b,off+j,none⟩=false) ->
  bA w vb 0 vs->(∀v∈cs,v.oneCell'=true)->(∀v∈vs,v.oneCell'=true) ->
  ∀(tA tB:TypeId) (kA kB:Nat),w.shape? vb=some (tA,kA)->w.shape? b=some (tB,kB)->kB≠0->w.frozen? ⟨vb,0,none⟩=false->w.frozen? ⟨vb,kA,none⟩=false ->
  Calls P f #[.slice (some ⟨b,off,none⟩) n c,.int .i64 i,.slice (some ⟨vb,0,none⟩) 1 1] w λe w'=>
   e=.returned (.slice (some ⟨b,off,none⟩) (n+1) c)/\w'=(w.drew.setCells b (off+(i+1)*k) (cs.drop (i*k))).setCells b (off+i*k) vs
def bNJ(P:Program)(f k:Nat):Prop:=∀(b off n c vb:Nat) (vs:List Value) (w:World),n+1<=c->c<=9223372036854775807->vs.length=k ->
  (∀j,j<c*k->(w.cell? ⟨b,off+j,none⟩).isSome=true)->(∀j,j<c*k->w.frozen? ⟨b,off+j,none⟩=false)->bA w vb 0 vs->(∀v∈vs,v.oneCell'=true) ->
  Calls P f #[.slice (some ⟨b,off,none⟩) n c,.int .i64 n,.slice (some ⟨vb,0,none⟩) 1 1] w λe w'=>
   e=.returned (.slice (some ⟨b,off,none⟩) (n+1) c)/\w'=w.setCells b (off+n*k) vs
def bNK(P:Program)(f k el:Nat)(z:Value):Prop:=∀(base:Option Addr) (n c vb:Nat) (cs vs:List Value) (w:World),n<=c->c<n+1->n+1<=1073741824->cs.length=n*k->vs.length=k->(base=none->n=0) ->
  (∀a,base=some a->∀j v,cs[j]?=some v->w.cell? (a.add j)=some v)->bA w vb 0 vs->(∀v∈vs,v.oneCell'=true) ->
  Calls P f #[.slice base n c,.int .i64 n,.slice (some ⟨vb,0,none⟩) 1 1] w λe w'=>
   e=.returned (.slice (some ⟨w.heap.size,0,none⟩) (n+1) (grownCap w (n+1) c el)) /\
   w'=w.drew.alloc (.cells ((cs++vs).toArray++Builtin.zeroCells z.cells (grownCap w (n+1) c el-(n+1))) el)
def bNL(P:Program)(f k el:Nat)(z:Value):Prop:=∀(b off n c i vb:Nat) (cs vs:List Value) (w:World),i<n->n<=c->c<n+1->n+1<=1073741824->cs.length=n*k->vs.length=k ->
  bA w b off cs->bA w vb 0 vs->(∀v∈cs,v.oneCell'=true)->(∀v∈vs,v.oneCell'=true) ->
  Calls P f #[.slice (some ⟨b,off,none⟩) n c,.int .i64 i,.slice (some ⟨vb,0,none⟩) 1 1] w λe w'=>
   e=.returned (.slice (some ⟨w.heap.size,0,none⟩) (n+1) (grownCap w (n+1) c el)) /\
   w'=(((w.alloc (.cells ((cs.take (i*k)).toArray++Builtin.zeroCells z.cells (n+1-i)++Builtin.zeroCells z.cells (grownCap w (n+1) c el-(n+1))) el)).drew.setCells w.heap.size (i*k) vs).drew).setCells w.heap.size ((i+1)*k) (cs.drop (i*k))
def bKQ(P:Program)(f k:Nat):Prop:=∀(ad:Option Addr) (n c i vb:Nat) (cs vs:List Value) (w:World),i<=n->n<=c->c<=maxLen->n+1<=1073741824->cs.length=n*k->vs.length=k ->
  bA w vb 0 vs->(∀v∈cs,v.oneCell'=true)->(∀v∈vs,v.oneCell'=true)->(∀o,w.frozen? ⟨vb,o,none⟩=false) ->
  ((ad=none/\c=0)\/∃b off,ad=some ⟨b,off,none⟩/\Row w b off (c*k)/\bA w b off cs/\(0<c->vb≠b)) ->
  Calls P f #[.slice ad n c,.int .i64 i,.slice (some ⟨vb,0,none⟩) 1 1] w (bNH w k n ad c (cs.take (i*k)++vs++cs.drop (i*k)))
theorem aTY{b o:Nat}(h:(w.cell? ⟨b,o,none⟩).isSome=true):∃t k,w.shape? b=some (t,k)/\k≠0:=by grind[World.cell?,World.shape?]
theorem a0G{f k el:Nat}{z:Value}(hk:0<k)(hz:z.cells.size=k)(hS:bNI P f k)(hR:bNJ P f k)(hE:bNK P f k el z)(hG:bNL P f k el z):bKQ P f k:=by
 intro ad n c i vb cs vs w hi hnc hcm hb hcl hvl hvs h1c h1v hfz hrow;have hgc:n+1<=grownCap w (n+1) c el:=grownCap_ge _ _ _ _;have hgm:grownCap w (n+1) c el<=maxLen:=grownCap_le_maxLen w (n+1) c el (by grind[maxLen]);have hnk:(n+1)*k=n*k+k:=aj
 by_cases hin:i=n
 ·subst hin;have e1:cs.take (i*k)=cs:=aj
  have e2:cs.drop (i*k)=[]:=aj
  rw[e1,e2,uH];by_cases hroom:i+1<=c
  ·rcases hrow with ⟨_,h0⟩|⟨b,off,rfl,hr,hc,_⟩
   ·omega
   have hck:(i+1)*k<=c*k:=uK _ hroom;refine(hR b off i c vb vs w hroom hcm hvl (λj hj=>(hr _ ⟨rfl,aa,aa⟩).1) (λj hj=>(hr _ ⟨rfl,aa,aa⟩).2) hvs h1v).mono ?_;rintro e w' ⟨rfl,rfl⟩;refine⟨b,off,c,rfl,hroom,hcm,RD (vN hc (.inl aa)) (by rw[hcl];exact EE λj hj=>(hr _ ⟨rfl,aa,aa⟩).1),aCI hr ⟨aa,aa⟩,.inl ⟨rfl,rfl,AY b off _ vs _ w aa aa⟩⟩
  ·refine(hE ad i c vb cs vs w hnc aa hb hcl hvl (λh=>?_) (λa ha=>?_) hvs h1v).mono ?_
   ·grind
   ·rcases hrow with ⟨h0,_⟩|⟨b,off,h1,hr,hc,_⟩
    ·grind
    ·rw[ha] at h1;cases h1;intro j v hj;rw[Addr.add_lit];exact hc j v hj
   rintro e w' ⟨rfl,rfl⟩;have hsz:((cs++vs).toArray++Builtin.zeroCells z.cells (grownCap w (i+1) c el-(i+1))).size=grownCap w (i+1) c el*k:=by rw[Array.size_append,size_zeroCells,hz,aJM,D8,hcl,hvl,Nat.sub_mul,hnk];have:(i+1)*k<=grownCap w (i+1) c el*k:=uK _ hgc;omega
   refine⟨w.heap.size,0,_,rfl,hgc,hgm,λj v hj=>?_,λo ho=>⟨?_,World.frozen?_alloc_at (w:=w.drew) _ _ w.heap.size o rfl⟩,.inr ⟨iZ _,(eK.drew F0 w).trans (eK.alloc _ _ _) λ_ _ _ h=>h⟩⟩
   ·rw[aB2,World.cell?_alloc_at (w:=w.drew) _ _ w.heap.size j rfl];grind
   ·obtain⟨_,_,h3⟩:=ho;rw[World.cell?_alloc_at (w:=w.drew) _ _ w.heap.size o rfl,Array.getElem?_eq_getElem aa];rfl
 ·have hlt:i<n:=aa
  have hik:(i+1)*k=i*k+k:=aj
  have hink:(i+1)*k<=n*k:=uK _ hlt;have htl:(cs.take (i*k)).length=i*k:=aj
  have hdl:(cs.drop (i*k)).length=n*k-i*k:=aj
  rcases hrow with ⟨_,h0⟩|⟨b,off,rfl,hr,hc,hne⟩
  ·omega
  have hsv:=aTY (w:=w) (b:=vb) (o:=0) (by rw[show(0:Nat)=0+0 from rfl,hvs 0 _ (jC aa)];rfl);obtain⟨tA,kA,hsa,_⟩:=hsv;by_cases hroom:n+1<=c
  ·have hck:(n+1)*k<=c*k:=uK _ hroom;obtain⟨tB,kB,hsb,hkB⟩:=aTY (w:=w) (b:=b) (o:=off) (hr off ⟨rfl,aa,aa⟩).1;refine(hS b off n c i vb cs vs w hlt hroom hcm (hne aa) hcl hvl hc (λj hj=>(hr _ ⟨rfl,aa,aa⟩).1) (λj hj=>(hr _ ⟨rfl,aa,aa⟩).2) hvs h1c h1v tA tB kA kB hsa hsb hkB (hfz _) (hfz _)).mono ?_;rintro e w' ⟨rfl,rfl⟩;have hc':bA w.drew b off cs:=hc;have hr':Row w.drew b off (c*k):=hr;have hr1:=aCI (o':=off+(i+1)*k) (vs:=cs.drop (i*k)) hr' ⟨aa,aa⟩;refine⟨b,off,c,rfl,hroom,hcm,?_,aCI hr1 ⟨aa,aa⟩,.inl ⟨rfl,rfl,((eK.drew _ w).trans (AY b off _ _ _ _ aa aa) λ_ _ _ h=>h).trans (AY b off _ vs _ _ aa aa) λ_ _ _ h=>h⟩⟩;refine RD (RD ?_ ?_) ?_
   ·grind[vN,aXC]
   ·rw[htl];exact EE λj hj=>(hr1 _ ⟨rfl,aa,aa⟩).1
   ·rw[D8,htl,hvl,<-hik];exact vN (EE λj hj=>(hr' _ ⟨rfl,aa,aa⟩).1) (.inr aa)
  ·refine(hG b off n c i vb cs vs w hlt hnc aa hb hcl hvl hc hvs h1c h1v).mono ?_;rintro e w' ⟨rfl,rfl⟩;obtain⟨ROW,hROW⟩:∃ROW:Array Value,ROW=(cs.take (i*k)).toArray++Builtin.zeroCells z.cells (n+1-i)++Builtin.zeroCells z.cells (grownCap w (n+1) c el-(n+1)):=⟨_,rfl⟩;rw[<-hROW];have hsz:ROW.size=grownCap w (n+1) c el*k:=by rw[hROW,Array.size_append,Array.size_append,size_zeroCells,size_zeroCells,hz,aJM,htl,<-oE,<-oE];grind
   have hgk:(n+1)*k<=grownCap w (n+1) c el*k:=uK _ hgc;have hcN:∀j,(w.alloc (.cells ROW el)).cell? ⟨w.heap.size,j,none⟩=ROW[j]?:=λj=>World.cell?_alloc_at (w:=w) ROW _ w.heap.size j rfl;have hr0:Row (w.alloc (.cells ROW el)).drew w.heap.size 0 (grownCap w (n+1) c el*k):=λo ho=>by obtain⟨_,_,h3⟩:=ho;simp_all
   have hc0:bA (w.alloc (.cells ROW el)).drew w.heap.size 0 (cs.take (i*k)):=λj v hj=>by show(w.alloc (.cells ROW el)).cell? _=_;grind
   have hr1:=aCI (o':=i*k) (vs:=vs) hr0 ⟨aa,aa⟩;have hr1':Row ((w.alloc (.cells ROW el)).drew.setCells w.heap.size (i*k) vs).drew w.heap.size 0 (grownCap w (n+1) c el*k):=hr1;refine⟨w.heap.size,0,_,rfl,hgc,hgm,?_,aCI hr1' ⟨aa,aa⟩,.inr ⟨iZ _,aF8 _ (iZ _) ((aF8 _ (iZ _) ((eK.alloc _ _ _).trans (eK.drew _ _) λ_ _ _ h=>h)).trans (eK.drew _ _) λ_ _ _ h=>h)⟩⟩;refine RD (RD ?_ ?_) ?_
   ·exact vN (show bA _ _ _ _ from vN hc0 (.inl aa)) (.inl aa)
   ·rw[htl,aB2];refine vN (show bA _ _ _ _ from EE λj hj=>?_) (.inl aa)
    (simp_all;omega)
   ·rw[D8,htl,hvl,<-hik,aB2];exact EE λj hj=>(hr1' _ ⟨rfl,aa,aa⟩).1
def bHN{O:Type}[aN O](s:AC)(x:O):Chunk where
 P w F:=∃b cs,s=⟨some ⟨b,0,none⟩,1⟩/\b<w.heap.size/\(∀o,w.frozen? ⟨b,o,none⟩=false)/\bA w b 0 cs/\(∀w,aN.own w cs x F0)/\∀b' o,F b' o↔b'=b
 keep:=λ⟨b,cs,h1,h2,h3,h4,h5,h6⟩ hk hd=>⟨b,cs,h1,HB h2 hk.size,λo=>(hk.wY b o h2).trans (h3 o),λj v hj=>(hk.cell b _ h2 λhg=>hd b _ ((h6 b _).2 rfl) hg).trans (h4 j v hj),h5,h6⟩
 lt:=λ⟨b,cs,h1,h2,h3,h4,h5,h6⟩ hF=>aj
def cLs{O:Type}[aN O](s:AC)(v:List O):Chunk where
 P w F:=∃x,v=[x]/\(bHN s x).P w F
 keep:=λ⟨x,h1,h2⟩ hk hd=>⟨x,h1,(bHN s x).keep h2 hk hd⟩
 lt:=λ⟨x,_,h2⟩ hF=>(bHN s x).lt h2 hF
def bKR{O:Type}(l:List O)(i:Int)(v:List O):Option (List O):=need (0<=i/\i<=(l.length:Int)/\l.length+v.length<=1073741824) (some (l.take i.toNat++v++l.drop i.toNat))
theorem a7N[aN O]{cs:List Value}{x:O}(h:aN.own w cs x F0):cM w cs [x] F0:=⟨cs,[],F0,F0,(uH _).symm,h,⟨rfl,λ_ _ h=>h⟩,λ_ _ h=>h.elim,λ_ _=>by simp[F0]⟩
theorem aCJ{O:Type}[aN O][Flat O]{w w':World}:∀{l:List O} {cs:List Value} {F:cC},cM w cs l F->cM w' cs l F0
 |[],cs,F,h=>⟨h.1,λ_ _ h=>h⟩
 |x::r,cs,F,⟨c1,c2,F1,F2,e,h1,h2,hd,hF⟩=>⟨c1,c2,F0,F0,e,a5G h1,aCJ h2,λ_ _ h=>h.elim,λ_ _=>by simp[F0]⟩
theorem a0H{O:Type}[aN O]{w:World}:∀{l:List O} {cs:List Value} {F:cC},cM w cs l F->∀v∈cs,v.oneCell'=true
 |[],cs,F,h,v,hv=>by rw[h.1] at hv;cases hv
 |x::r,cs,F,⟨c1,c2,F1,F2,e,h1,h2,hd,hF⟩,v,hv=>by rw[e] at hv;exact(cY.1 hv).elim (aN.rd_one (aN.own_rd h1) v) (a0H h2 v)
theorem bKS{f:FuncId}[aN O][Flat O]{k:Nat}(hn:aN.n O=k)(hk:0<k)(hC:bKQ P f k)(hcall:∀args w,(callFunc f args).run P w=.ok (.enter f args) w){s v:List O}{i:Int}{s1 s2:AC} :
  VS P U f (bKR s i v) [.h s1 s.length,.i .i64 i,.h s2 v.length] [] [ow s1 s,.o (cLs s2 v)] (λr (y:AC)=>.h y r.length) (λr y=>[ow y r]):=λr hr=>by
 unfold bKR at hr;obtain⟨⟨hi0,hi1,hb⟩,hr⟩:=lZ hr;obtain⟨j,rfl⟩:∃j:Nat,i=j:=⟨i.toNat,aa⟩;rw[K8] at hr;cases hr;refine⟨hcall,λvs hv hS=>?_⟩;simp[aT,fH,gV,bK] at hv;subst hv;obtain⟨⟨R,h1,h2⟩,h0⟩:=hS;have h1:St U U.w0 [eU [s1.v s.length] s,cLs s2 v] R:=by grind[kS]
 obtain⟨F,S,⟨F1,F2,hs1,⟨F3,F4,hs2,_,_,hF34⟩,hdj,_⟩,_⟩:=h1.sep;obtain⟨x,rfl,vb,cv,rfl,hvb,hvf,hvc,hvo,hvF⟩:=hs2;have hs1:aN.own U.w0 [s1.v s.length] s F1:=hs1;obtain⟨a,c,he,hl1,hl2,hrest⟩:=mX.1 hs1;obtain⟨sa,sc⟩:=s1;simp only[AC.v,Value.slice.injEq,true_and] at he;obtain⟨rfl,rfl⟩:=he;have hvl:cv.length=k:=by rw[<-hn];exact aN.lP (aN.own_rd (hvo U.w0))
 have hv1:∀v∈cv,v.oneCell'=true:=aN.rd_one (aN.own_rd (hvo U.w0));obtain⟨cs,hcl,hc1,hrow,hall⟩:∃cs,cs.length=s.length*k/\(∀v∈cs,v.oneCell'=true)/\((sa=none/\sc=0)\/∃b off,sa=some ⟨b,off,none⟩/\Row U.w0 b off (sc*k)/\bA U.w0 b off cs/\(0<sc->vb≠b))/\∀w,cM w cs s F0:=by
  rcases hrest with ⟨rfl,rfl,_⟩|⟨b,off,cc,Fe,rfl,hr,hc,ho,_,hF⟩
  ·have hsn:s=[]:=uJ aa;subst hsn;exact⟨[],ae,ae,.inl ⟨rfl,rfl⟩,λ_=>⟨rfl,λ_ _ h=>h⟩⟩
  ·rw[hn] at hr hF;refine⟨cc,by rw[<-hn];exact ho.length,a0H ho,.inr ⟨b,off,rfl,hr,hc,λh0 e=>?_⟩,λ_=>aCJ ho⟩;subst e;have hk:0<sc*k:=Nat.mul_pos h0 hk;exact hdj vb off ((hF vb off).2 (.inl ⟨rfl,iZ _,aa⟩)) ((hF34 vb off).2 (.inl ((hvF vb off).2 rfl)))
 refine(hC sa s.length sc j vb cs cv U.w0 aa hl1 hl2 hb hcl hvl hvc hc1 hv1 hvf hrow).mono ?_;rintro e w' ⟨b,o,c',rfl,hlc,hcm,hcc,hrw,hkk⟩;have hlen:(s.take j++[x]++s.drop j).length=s.length+1:=aj
 refine⟨_,rfl,⟨some ⟨b,o,none⟩,c'⟩,by grind[fH,gV,bK],⟨R,?_,by simp[roF]⟩,h0⟩;have hcs:∀w,cM w (cs.take (j*k)++cv++cs.drop (j*k)) (s.take j++[x]++s.drop j) F0:=λw=>by
  have h:=hall w;rw[<-ZV j s] at h;obtain⟨c1,c2,G1,G2,e,k1,k2,_,_⟩:=cM.split h;have hl:c1.length=j*k:=by rw[k1.length,hn,ZR];grind
  rw[e,List.take_left' hl,List.drop_left' hl,nL,nL];exact cM.app (aCJ k1) (show cM w (cv++c2) ([x]++s.drop j) F0 from cM.app (a7N (hvo w)) (aCJ k2) (λ_ _ h=>h.elim) λ_ _=>by simp[F0]) (λ_ _ h=>h.elim) λ_ _=>by simp[F0]
 have:=h1.a5K (w':=w') [0,1] rfl (A':=[eU [(⟨some ⟨b,o,none⟩,c'⟩:AC).v (s.take j++[x]++s.drop j).length] (s.take j++[x]++s.drop j)]) (λF hF=>by
  obtain⟨F1',F2',q1,q2,q3,q4⟩:=hF;have q1:aN.own U.w0 [_] s F1':=q1;have hown:aN.own w' [(⟨some ⟨b,o,none⟩,c'⟩:AC).v (s.take j++[x]++s.drop j).length] (s.take j++[x]++s.drop j) (eS b o (c'*k)):=
   mX.2 ⟨_,c',rfl,aa,hcm,.inr ⟨b,o,_,F0,rfl,aj,hcc,hcs w',λ_ _ h=>h.elim,λb' o'=>by grind[F0]⟩⟩
  rcases hkk with ⟨rfl,rfl,hK⟩|⟨hnew,hK⟩
  ·obtain⟨a',c'',he',_,_,hr'⟩:=mX.1 q1;simp only[AC.v,Value.slice.injEq,true_and] at he';obtain⟨rfl,rfl⟩:=he';rcases hr' with ⟨h,_⟩|⟨b2,o2,cc2,Fe2,h,_,_,_,_,hF2⟩
   ·cases h
   ·cases h;rw[hn] at hF2;exact⟨_,_,hK,λb' o' g=>(q4 b' o').2 (.inl ((hF2 b' o').2 (.inl g))),Sep.one.2 hown,λb' o' g=>.inl ((q4 b' o').2 (.inl ((hF2 b' o').2 (.inl g))))⟩
  ·exact⟨_,F0,hK,λ_ _ h=>h.elim,Sep.one.2 hown,λb' o' g=>.inr (by obtain⟨rfl,_⟩:=g;exact hnew)⟩)
 exact this.sel [2] rfl
section
variable {P:Program} {T:TT} {hT:D6 P T} {n:Nat} {c:Ctx} {B0:Bl} {N:Act->World->Prop} {X:Nat->Act->World->Prop} {Q:Act->World->Prop} {K K':List Fr} {m m':Nat} {e e':SE} {L L' Lv:List Ch} {cf cf' cf1 cf2:sW} {o:Oper} {d:Nat}
variable {x:Operand} {t t2 el sz:Nat} {b1 b2 b3:Bool} {n1 n2 n3:Nat} {z1 z2 z3:List SV}
theorem ltL[aN O][Flat O](E:CO O)(y:E.ex)(q:O){zv:Value}(hinf:SJ P el sz zv)(hs:jK T n K cf m e L=.op o Lv cf1 cf2 K' m' e' L')(ho:(o.op,o.dst)=(.buildSlice t 1 #[(0,x)],some d))(ht:wW T t=some ⟨.sl el,b1,n1,z1⟩)(hn:aN.n O=sz)(hm:Nat.ble 1 sz=true)(hsm:Nat.ble (1*sz) 16777216=true)(hev:aT (λp=>(iG e' p.2).map λv=>nbL (mH v)) [((0:Nat),x)]=some ([q].map λq=>E.cs q y))(hec:([q].all λq=>Nat.beq (E.cs q y).length sz && (aT (bK []) (E.cs q y)).isSome)=true)(hL:∀q,E.Lx q y=[])
  (k:∀s':AC,G (.mk P T hT n c B0 N X Q) K' m' ((d,.h s' [q].length)::e') (L'++[.o (cLs s' [q])]) cf2):G (.mk P T hT n c B0 N X Q) K m e L cf:=by
 refine aNP (l:=[q]) (λs'=>L'++[.o (cLs s' [q])]) hs (bZ Prod.snd ho) (λ_=>sZ _) (λB a w hA hS=>?_) k;obtain⟨⟨R,s1,s2⟩,s0⟩:=hS;obtain⟨vs,cells,g1,g2,g3,g4,g5⟩:=lits E y (sz:=sz) hA hL hev hec;obtain⟨v,rfl⟩:∃v,vs=[v]:=by
  match vs,g2 with
  |[v],_=>simp
 obtain⟨ti,hi,hz,hsz,hby⟩:=hinf;obtain⟨h1,h2⟩:=g5.get hn;have hcl:cells.length=sz:=aj
 have hc:=aB7 (len:=1) (m:=sz) (vs:=[v]) (ps:=[(0,x)]) (F:=λi=>(if 1*sz=0 then #[] else zv.cells)[i % (if 1*sz=0 then #[] else zv.cells).size]!) rfl rfl g3 g4;have hu:=D3 ht hT;have hm0:¬1*sz=0:=by(simp_all;omega)
 have hsm':¬1*sz > 2 ^ 24:=by simp_all
 refine⟨⟨some ⟨w.heap.size,0,none⟩,1⟩,w.alloc (.cells cells.toArray el),λ_ a hA'=>?_,⟨R,?_,λz hz=>?_⟩,s0⟩
 ·have hps:a.eval x=v:=by have:=SH hA' g1;grind
  have ho':=bZ Prod.fst ho;simp only at ho';simp only[hm0,bR] at hc;have hm1:¬sz=0:=aa
  have hs1:¬sz > 16777216:=aa
  simp only[Nat.one_mul,hm1,bR] at hc;simp[execOp,ho',Instr.buildSlice,run_underlying hu,sizeOf,typeInfo,zeroValue,hi,hz,hsz,hps,hm1,hs1,AC.v];simp_all[newRow]
 ·have:=s1.more (eK.alloc F0 w (.cells cells.toArray el)) (ch:=cLs ⟨some ⟨w.heap.size,0,none⟩,1⟩ [q]) ⟨λb _=>b=w.heap.size,⟨q,rfl,w.heap.size,cells,rfl,ae,λo=>World.frozen?_alloc_at (w:=w) _ _ w.heap.size o rfl,λj v hj=>?_,λw'=>?_,λ_ _=>Iff.rfl⟩,λb o hb=>UK hb.symm⟩
  ·grind[kS]
  ·simp_all
  ·have:=h2 0 q rfl;rw[show J4 cells sz 0=cells by unfold J4;grind] at this;grind[Flat.own_of]
 ·rcases cY.1 hz with hz|hz
  ·grind
  ·simp at hz;subst hz;trivial
end
end Go.Gv
end
noncomputable section
namespace Go.Gv
variable{s:AC}{c:Ctx}{z1:List SV}{i z:Nat}{O:Type}{A W' w:World}
def aTZ(k:Nat):List Nat->Bool
 |[]=>false
 |a::r=>match Nat.beq k a with
  |true=>true
  |false=>aTZ k r
def aES(is:List Nat):Nat->List Ch->List Ch
 |_,[]=>[]
 |k,x::r=>match aTZ k is with
  |true=>.no::aES is (k+1) r
  |false=>x::aES is (k+1) r
theorem aT0:∀(L:List Ch) (k:Nat),aES [] k L=L
 |[],_=>rfl
 |x::L,k=>by simp only[aES,aTZ,aT0 L]
theorem a0I{k:Nat}(r:List Nat)(h:k≠i):aTZ k (i::r)=aTZ k r:=by grind[nM,aTZ]
theorem bCW(i:Nat)(r:List Nat):aTZ i (i::r)=true:=by simp only[aTZ,Nat.beq_refl]
theorem a0J(i:Nat)(r:List Nat):∀(L:List Ch) (k:Nat),i<k->aES (i::r) k L=aES r k L
 |[],_,_=>rfl
 |x::L,k,h=>by simp only[aES,a0I r (show k≠i by omega),a0J i r L (k+1) aa]
theorem aT1(i:Nat)(r:List Nat):∀(L:List Ch) (k:Nat),k<=i->aES (i::r) k L=aES r k (L.set (i-k) .no)
 |[],_,_=>rfl
 |x::L,k,h=>by
  by_cases e:k=i
  ·subst e;rw[Nat.sub_self];grind[aES,bCW,a0J]
  ·obtain⟨d,hd⟩:∃d,i-k=d+1:=⟨i-k-1,aa⟩;have h2:i-(k+1)=d:=aa
   rw[hd];simp only[List.set,aES,a0I r e,aT1 i r L (k+1) aa,h2]
theorem a7O:∀(is:List Nat) (L:List Ch),G4 L is=aES is 0 L
 |[],L=>(aT0 L 0).symm
 |i::r,L=>by rw[aT1 i r L 0 (jD _),Nat.sub_zero];exact a7O r _
section
variable {P:Program} {T:TT} {hT:D6 P T} {n:Nat} {c:Ctx} {B0:Bl} {N:Act->World->Prop} {X:Nat->Act->World->Prop} {Q:Act->World->Prop} {K K':List Fr} {m m':Nat} {e e':SE} {L L' Lv:List Ch} {cf cf' cf1 cf2:sW} {o:Oper}
variable {O β ex:Type} {fo:Option O} {kf:O->Option β} {q:β} {d:Option Nat} {f:FuncId} {xs xs0:List SV} {M:List Ch} {sv:O->ex->SV} {Lr:O->ex->List Ch}
theorem bKT{c1 c2 c3:List SV}{a1 a2 a3:O->ex->List SV}(i1 n1 o1 k1:Nat)(i2 n2 o2 k2:Nat)(i3 n3 o3 k3:Nat)(is:List Nat)
  (hs:cpS (jK T n K cf m e L)=some (o,d,f,xs,cf1,cf2,K',m',e',L')) (hb:aJ8 L' [(i1,n1,o1,k1),(i2,n2,o2,k2),(i3,n3,o3,k3)]=some [c1,c2,c3]) (hi:aT (λi=>L'[i]?) is=some M) (hx:aT (rnP [(i1,n1,o1,k1),(i2,n2,o2,k2),(i3,n3,o3,k3)] 0) xs=some xs0)
  (hk:(I6 M && ([c1,c2,c3].all (yU.okC 0) && (dE (i1::i2::i3::is) && (i1::i2::i3::is).all λj=>fP j cf1.wY)))=true)
  (hc:∀{U:Ctx},HG c U L' (i1::i2::i3::is)->∀{b1 b2 b3:Nat×Nat},VS P U f fo xs0 [b1,b2,b3] (.box 0 c1::.box 1 c2::.box 2 c3::M) sv (λx y=>.box 0 (a1 x y)::.box 1 (a2 x y)::.box 2 (a3 x y)::Lr x y))
  (k:∀x,∀y:ex,W (G (.mk P T hT n c B0 N X Q) K' m' (dse d (sv x y) e') (N2 L' (aES (i1::i2::i3::is) 0 L'++Lr x y) [(i1,n1,o1,k1),(i2,n2,o2,k2),(i3,n3,o3,k3)] [a1 x y,a2 x y,a3 x y]) cf2) q (kf x)) (hn:∀x y,(aCG [(i1,n1,o1,k1),(i2,n2,o2,k2),(i3,n3,o3,k3)] [a1 x y,a2 x y,a3 x y] && ([a1 x y,a2 x y,a3 x y].all (yU.okC 0) && (I6 (Lr x y) && yU 0 (sv x y))))=true:=by exact λ_ _=>rfl):W (G (.mk P T hT n c B0 N X Q) K m e L cf) q (fo.bind kf):=bNE i1 n1 o1 k1 i2 n2 o2 k2 i3 n3 o3 k3 is hs hb hi hx hk hc (λx y=>by grind[a7O]) hn
end
section
variable {P:Program} {T:TT} {hT:D6 P T} {n:Nat} {c:Ctx} {B0:Bl} {N:Act->World->Prop} {X:Nat->Act->World->Prop} {Q:Act->World->Prop} {K K':List Fr} {m m':Nat} {e e':SE} {L L' Lv:List Ch} {cf cf' cf1 cf2:sW} {o:Oper}
variable {O:Type} {fo:Option O} {d:Nat} {f:FuncId} {xs:List SV} {v:O}
theorem HD{sv:O->SV}(hA:fo=some v)(hs:jK T n K cf m e L=.call o (some d) f xs cf1 cf2 K' m' e' L')
  (hc:∀{w},HS c w L'->V0 P (dZ w) f fo xs sv) (k:G (.mk P T hT n c B0 N X Q) K' m' ((d,sv v)::e') L' cf2):G (.mk P T hT n c B0 N X Q) K m e L cf:=c0 (kf:=some) (q:=v) hs hc (λx hx=>aj) (rb hA)
theorem MD{ex:Type}{sv:O->ex->SV}{Lf:O->ex->List Ch}(hA:fo=some v)(hs:jK T n K cf m e L=.call o (some d) f xs cf1 cf2 K' m' e' L')
  (hc:∀{w},HS c w L'->VS P (dZ w) f fo xs [] [] sv Lf) (k:∀y:ex,G (.mk P T hT n c B0 N X Q) K' m' ((d,sv v y)::e') (L'++Lf v y) cf2) (hn:∀x y,noF (Lf x y)=true:=by exact λ_ _=>rfl):G (.mk P T hT n c B0 N X Q) K m e L cf:=c1 (kf:=some) (q:=v) hs hc (λx y hx=>aj) hn (rb hA)
end
def oL{O:Type}[aN O]:CO (List O):=cL.o (λx y=>[ow y x]) (λh=>by cases h;exact HO) (λ_ _=>rfl) (λ_ _ _=>rfl)
structure AH where
 s:AC
 n:Nat
instance:aN AH:=aN.flat (λx=>x.s.v x.n) λ_=>rfl
instance:Flat AH:=⟨λh=>⟨h,λ_ _ h=>h⟩,λh=>h.2⟩
def cAH:DO AH:=⟨Unit,λx _=>[.h x.s x.n],λ_ _ _ _=>True,λh=>⟨(),by cases h;rfl,trivial⟩,λx _=>.h x.s x.n,λ_ _ _=>trivial⟩
def oAH:CO AH:=cAH.o (λ_ _=>[]) (λh=>by cases h;exact eC rfl) (λ_ _=>rfl) (λ_ _ _=>rfl)
def cBr(U:Ctx){O:Type}[aN O](s:AC)(d:List O):Chunk where
 P w F:=(∀b o,F b o->b<w.heap.size)/\∀w',(∀b o,F b o->w'.cell? ⟨b,o,none⟩=w.cell? ⟨b,o,none⟩)->(∀b o,U.S0 b o->w'.cell? ⟨b,o,none⟩=U.w0.cell? ⟨b,o,none⟩)->aN.rd (λb o=>U.S0 b o\/F b o) w' [s.v d.length] d
 keep:=by rintro w w' F G ⟨h1,h2⟩ hk hd;exact⟨λb o hF=>HB (h1 b o hF) hk.size,λw2 g2 g3=>h2 w2 (λb o hF=>(g2 b o hF).trans (hk.cell b o (h1 b o hF) λhg=>hd b o hF hg)) g3⟩
 lt h hF:=h.1 _ _ hF
def AHs(c:Ctx){O:Type}[aN O]:List AH->List (List O)->Prop
 |[],[]=>True
 |q::qs,d::ds=>(q.n=d.length/\bL c q.s d)/\AHs c qs ds
 |_,_=>False
theorem AHs.get[aN O]:∀{qs:List AH} {ds:List (List O)},AHs c qs ds->qs.length=ds.length/\∀(i:Nat) (h1:i<qs.length) (h2:i<ds.length),qs[i].n=ds[i].length/\bL c qs[i].s ds[i]
 |[],[],_=>⟨rfl,λi h=>by simp at h⟩
 |q::qs,d::ds,h=>by
  obtain⟨a,b⟩:=h.2.get;refine⟨by simp[a],λi h1 h2=>?_⟩;cases i with
  |zero=>exact h.1
  |succ i=>grind
theorem bKU{U:Ctx}[aN O]{qs:List AH}{ds:List (List O)}{F:cC}(h:(eU [s.v qs.length] qs).P w F)(ha:AHs U qs ds):(cBr U s ds).P w F:=by
 refine⟨λ_ _ hF=>(eU [s.v qs.length] qs).lt h hF,λw' h2 h3=>?_⟩;obtain⟨hl,hg⟩:=ha.get;obtain⟨ad,c,e,g1,g2,g3⟩:=(show qV F w' [s.v qs.length] qs from aN.rd_agree (aN.own_rd h) h2);refine⟨ad,c,aj,hl ▸ g1,g2,?_⟩;rcases g3 with g3|⟨b,off,rfl,g3⟩
 ·grind
 ·refine .inr ⟨b,off,rfl,λi hi=>?_⟩;obtain⟨ec,q1,q2,q3⟩:=g3 i aa;obtain⟨p1,p2⟩:=hg i aa hi;have q3:ec=[(qs[i]' aa).s.v (qs[i]' aa).n]:=q3;refine⟨ec,q1,λo ho=>.inr (q2 o ho),?_⟩;rw[q3,p1];exact aN.rd_mono (aN.rd_agree p2 h3) λ_ _ h=>.inl h
theorem HS.b{L:List Ch}[aN O]{d:List O}(h:HS c w L)(i:Nat)(hi:L[i]?=some (.o (cBr c s d))):bL (dZ w) s d:=by obtain⟨B,hS⟩:=h.ex;obtain⟨⟨R,s1,_⟩,s0⟩:=id hS;obtain⟨F,hF⟩:=s1.chunk i (ch:=cBr c s d) (by rw[AS,hi];rfl);have:=hF.2 w (λ_ _ _=>rfl) (λb o hb=>s1.keep.cell b o (s0 b o hb) λhw=>s1.apart b o hw hb);exact aN.rd_mono this λb o h=>h.elim (aW1 hS b o) (hF.1 b o)
section
variable {P:Program} {T:TT} {hT:D6 P T} {n:Nat} {c:Ctx} {B0:Bl} {N:Act->World->Prop} {X:Nat->Act->World->Prop} {Q:Act->World->Prop} {K K':List Fr} {m m':Nat} {e e':SE} {L L':List Ch} {cf cf' cf1 cf2:sW} {o:Oper}
theorem chI(j:Nat){x y:Chunk}(hs:SM (jK T n K cf m e L)=some (K',cf',m',e',L'))(hj:L'[j]?=some (.o x))(hz:fP j cf'.wY=true)(h:∀w F,x.P w F->y.P w F)
  (k:G (.mk P T hT n c B0 N X Q) K' m' e' (L'.set j (.o y)) cf'):G (.mk P T hT n c B0 N X Q) K m e L cf:=by
 refine go hs (chg (λ_:Unit=>m') (λ_=>e') (λ_=>L'.set j (.o y)) (λB a w hm hA hS=>?_) (λ_=>I5 hz) (λ_=>k));obtain⟨⟨R,s1,s2⟩,s0⟩:=hS;refine⟨(),[],aj,aj,⟨⟨R,?_,λz hz=>?_⟩,s0⟩⟩
 ·rw[uH,KT];exact s1.imp (jT.put j (by rw[AS,hj];rfl) λF hF=>h w F hF)
 ·rw[uH];rcases rG hz with hz|hz
  ·grind
  ·subst hz;trivial
theorem brL[aN O](j:Nat){qs:List AH}{ds:List (List O)}(ha:AHs c qs ds)(hs:SM (jK T n K cf m e L)=some (K',cf',m',e',L'))(hj:L'[j]?=some (ow s qs))(hz:fP j cf'.wY=true)
  (k:G (.mk P T hT n c B0 N X Q) K' m' e' (L'.set j (.o (cBr c s ds))) cf'):G (.mk P T hT n c B0 N X Q) K m e L cf:=chI j hs hj hz (λ_ _ h=>bKU h ha) k
end
section
variable {P:Program} {T:TT} {hT:D6 P T} {n:Nat} {c c':Ctx} {B0:Bl} {N N':Act->World->Prop} {X:Nat->Act->World->Prop} {Q Q':Act->World->Prop} {K K':List Fr} {m m':Nat} {e e':SE} {L L':List Ch} {cf:sW}
theorem aQ6(hN:∀a w,N' a w->N a w)(hQ:∀a w,Q' a w->Q a w):∀K:List Fr,(∀a w,NK (.mk P T hT n c' B0 N' X Q') K a w->NK (.mk P T hT n c B0 N X Q) K a w)/\∀i a w,XK (.mk P T hT n c' B0 N' X Q') K i a w->XK (.mk P T hT n c B0 N X Q) K i a w
 |[]=>⟨hN,λ_ _ _ h=>h⟩
 |.s y::K=>by obtain⟨h1,h2⟩:=aQ6 hN hQ K;exact⟨λa w h=>CW.mono h h1 h2 hQ,h2⟩
 |.k j::K=>by obtain⟨h1,h2⟩:=aQ6 hN hQ K;refine⟨h1,λi a w h=>?_⟩;simp only[XK,aO0] at h ⊢;grind
theorem lkC{β ρ ex γ:Type}[aN O][aN β]{fn:Func}{rs:List ResultVar}{hr:fn.results=rs.toArray}{sv:ρ->ex->SV}{Lf:ρ->ex->List Ch}{r:ρ}{q:γ}{zz:Option γ}{x:Code}(j:Nat){us:List O}{d:List β}
  (hx:∀S w,(∀b o,c.S0 b o->S b o)->(∀b o,c.S0 b o->w.cell? ⟨b,o,none⟩=c.w0.cell? ⟨b,o,none⟩)->aN.rd S w [s.v us.length] us->aN.rd S w [s.v d.length] d)
  (hs:SM (jK T n K cf m e L)=some (K',.c x,m',e',L')) (hj:L'[j]?=some (ow s us))
  (k:∀{c':Ctx},(∀{O:Type} [aN O] {s:AC} {d:List O},bL c s d->bL c' s d)->bL c' s d->W (G (.mk P T hT n c' B0 (QR P fn hr c' B0 sv Lf r) (λ_ _ _=>False) (QR P fn hr c' B0 sv Lf r)) K' m' e' (L'.set j .no) (.c x)) q zz)
  (hn:∀r y,noF (Lf r y)=true:=by exact λ_ _=>rfl):W (G (.mk P T hT n c B0 (QR P fn hr c B0 sv Lf r) (λ_ _ _=>False) (QR P fn hr c B0 sv Lf r)) K m e L cf) q zz:=λhF=>by
 refine go hs λa w ⟨B,hm,hA,hS⟩=>?_;obtain⟨⟨R,s1,s2⟩,s0⟩:=id hS;obtain⟨F,S,a1,a2,a3,a4,a5,a6⟩:=s1.sep;obtain⟨Fj,Fr,b1,b2,b3,b4⟩:=(Sep.take (c:=eU [s.v us.length] us) (i:=j) (by rw[AS,hj];rfl)).1 a1;have hdS:∀b o,F b o->¬c.S0 b o:=λb o hf h0=>(a3 b o hf).elim (λh=>s1.apart b o h h0) λh=>aj
 let c2:Ctx:=⟨w,Fr,λb o=>c.S0 b o\/Fj b o\/S b o⟩
 have hlt:∀b o,c2.S0 b o->b<w.heap.size:=λb o h=>h.elim (λh=>HB (s0 b o h) s1.keep.size) λh=>h.elim (λh=>(eU [s.v us.length] us).lt b1 h) (a5 b o);have hag:∀b o,c.S0 b o->w.cell? ⟨b,o,none⟩=c.w0.cell? ⟨b,o,none⟩:=λb o h=>s1.keep.cell b o (s0 b o h) λhw=>s1.apart b o hw h;have ap:c2.W.EC c2.S0:=λb o h1 h2=>h2.elim (λh=>hdS b o ((b4 b o).2 (.inr h1)) h) λh=>h.elim (λh=>b3 b o h h1) λh=>a2 b o ((b4 b o).2 (.inr h1)) h;have st2:lJ c2 w (B0++B) (L'.set j .no):=by
  refine⟨⟨R,⟨eK.refl _ _,⟨Fr,S,?_,λb o h1 h2=>a2 b o ((b4 b o).2 (.inr h1)) h2,λb o h=>.inl h,λb o h=>.inl (.inr (.inr h)),a5,a6⟩,ap⟩,λz hz=>?_⟩,hlt⟩
  ·rw[KT];exact b2
  ·rcases rG hz with hz|hz
   ·grind
   ·subst hz;trivial
 have rdc:∀{O:Type} [aN O] {s:AC} {d:List O},bL c s d->bL c2 s d:=λh=>aN.rd_mono (aN.rd_agree h hag) λ_ _ h=>.inl h;have rdj:bL c2 s d:=hx _ _ (λ_ _ h=>.inl h) hag (aN.rd_mono (aN.own_rd b1) λ_ _ h=>.inr (.inl h));have out:∀a w,QR P fn hr c2 B0 sv Lf r a w->QR P fn hr c B0 sv Lf r a w:=λa w2 ⟨hd,v,hv,y,h1,h2⟩=>by
  obtain⟨⟨R2,t1,_⟩,_⟩:=h2;obtain⟨F2,S2,e1,e2,e3,e4,e5,e6⟩:=t1.sep;refine⟨hd,v,hv,y,h1,⟨⟨[],⟨s1.keep.trans t1.keep λb o hb h=>?_,⟨F2,F0,e1,λ_ _ _ h=>h,λb o h=>?_,λ_ _ h=>h.elim,λ_ _ h=>h.elim,λf hf=>by cases hf⟩,s1.apart⟩,aJ6 (hn r y)⟩,s0⟩⟩
  ·grind
  ·rcases e3 b o h with h|h
   ·grind
   ·exact .inr (lO s1.keep.size h)
 obtain⟨m1,m2⟩:=aQ6 (P:=P) (T:=T) (hT:=hT) (n:=n) (c:=c) (c':=c2) (B0:=B0) (X:=λ_ _ _=>False) out out K';exact CW.mono (k rdc rdj hF a w ⟨B,hm,hA,st2⟩) m1 m2 out
end
theorem bHP[aN O](h1:aN.n O=1){us:List Raw}{d:List O}(hr:V6 c.S0 c.w0 us d):∀S w,(∀b o,c.S0 b o->S b o)->(∀b o,c.S0 b o->w.cell? ⟨b,o,none⟩=c.w0.cell? ⟨b,o,none⟩)->aN.rd S w [s.v us.length] us->aN.rd S w [s.v d.length] d:=λS w hS ha h=>by rw[<-hr.1];exact a5V h1 h ⟨hr.1,λi u x hu hx=>aN.rd_mono (aN.rd_agree (hr.2 i u x hu hx) ha) hS⟩
section
variable {P:Program} {T:TT} {hT:D6 P T} {n:Nat} {c:Ctx} {B0:Bl} {N:Act->World->Prop} {X:Nat->Act->World->Prop} {Q:Act->World->Prop} {K K':List Fr} {m m':Nat} {e e':SE} {L L' Lv:List Ch} {cf cf1 cf2:sW} {o:Oper} {d:Nat}
variable {x y z:Operand} {t t2 el sz:Nat} {zv:Value} {b1 b2:Bool} {n1 n2:Nat} {z1 z2:List SV} {kt:TK} {k2:IntKind}
theorem qcn(hs:opS (jK T n K cf m e L)=some (o,Lv,cf1,cf2,K',m',e',L'))(ho:(o.op,o.dst)=(.call {callee:=.builtin .cap,args:=#[x],argTypes:=#[t]},some d))(hx:iG e' x=some (.h ⟨none,0⟩ 0))(ht:wW T t=some ⟨.sl el,b1,n1,z1⟩)
  (kk:G (.mk P T hT n c B0 N X Q) K' m' ((d,.i .i64 0)::e') L' cf2):G (.mk P T hT n c B0 N X Q) K m e L cf:=
 pu hs (bZ Prod.snd ho) (λB a w hA _=>by
  obtain⟨v,h1,h2⟩:=eF hA hx;cases h1;exact⟨.int .i64 0,rfl,a2M (D3 ht hT) (bZ Prod.fst ho) h2⟩) kk
theorem qn0(hs:opS (jK T n K cf m e L)=some (o,Lv,cf1,cf2,K',m',e',L'))(ho:(o.op,o.dst)=(.slice t x none (some z) none,some d))(hx:iG e' x=some (.h ⟨none,0⟩ 0))(hz:(iG e' z).bind rI=some (k2,0))(ht:wW T t=some ⟨.sl el,b1,n1,z1⟩)(he:wW T el=some ⟨kt,b2,sz,z2⟩)
  (kk:G (.mk P T hT n c B0 N X Q) K' m' ((d,.h ⟨none,0⟩ 0)::e') L' cf2):G (.mk P T hT n c B0 N X Q) K m e L cf:=
 pu hs (bZ Prod.snd ho) (λB a w hA _=>by
  obtain⟨v,h1,h2⟩:=eF hA hx;cases h1;exact⟨.slice none 0 0,rfl,aZG (n:=sz) ⟨_,_,_,rfl⟩ (D3 ht hT) (hT.size _ _ he) (bZ Prod.fst ho) h2 (wT hA hz)⟩) kk
theorem apZ{i:Int}(hb:1<=i/\i<=1073741824)(hinf:SJ P el sz zv)(hs:jK T n K cf m e L=.op o Lv cf1 cf2 K' m' e' L')(ho:(o.op,o.dst)=(.call {callee:=.builtin .append,args:=#[x,y],argTypes:=#[t,t2]},some d))(ht:wW T t=some ⟨.sl el,b1,n1,z1⟩)(ht2:wW T t2=some ⟨.i k2,b2,n2,z2⟩)(hzs:zv.cells.size=sz)(hm:Nat.ble 1 sz=true)(hx:iG e' x=some (.h ⟨none,0⟩ 0))(hy:(iG e' y).bind rI=some (.i64,i))
  (k:∀s':AC,G (.mk P T hT n c B0 N X Q) K' m' ((d,.h s' (List.replicate i.toNat (0:Int)).length)::e') (L'++[.o (a5W (s'.v (List.replicate i.toNat (0:Int)).length) sz)]) cf2):G (.mk P T hT n c B0 N X Q) K m e L cf:=by
 refine aNP (l:=List.replicate i.toNat (0:Int)) (λs'=>L'++[.o (a5W (s'.v (List.replicate i.toNat (0:Int)).length) sz)]) hs (bZ Prod.snd ho) (λ_=>sZ _) (λB a w hA hS=>?_) k;obtain⟨⟨R,s1,s2⟩,s0⟩:=hS;obtain⟨v,h1,h2⟩:=eF hA hx;cases h1;obtain⟨u,g1,g2⟩:=hT.und _ _ ht2;subst g2;obtain⟨v,w',k1,k2,ad,cp,rfl⟩:=bBW (e:=vE B e') (o:=o) s1 (D3 ht hT) g1 hinf hzs hm hb (bZ Prod.fst ho) h2 (wT hA hy);refine⟨⟨ad,cp⟩,w',aj,⟨⟨R,by grind[kS],λz hz=>?_⟩,s0⟩⟩;rcases cY.1 hz with hz|hz
 ·grind
 ·simp at hz;subst hz;trivial
theorem rn0(O:Type)[aN O](j:Nat){kk:Nat}(hn:aN.n O=sz)(hs:jK T n K cf m e L=.op o Lv cf1 cf2 K' m' e' L')(ho:(o.op,o.dst)=(.slice t x none (some z) none,some d))(hx:iG e' x=some (.h s kk))(hz:(iG e' z).bind rI=some (k2,0))(ht:wW T t=some ⟨.sl el,b1,n1,z1⟩)(he:wW T el=some ⟨kt,b2,sz,z2⟩)(hj:L'[j]?=some (.o (a5W (s.v kk) sz)))(hfz:fP j cf1.wY=true)
  (k:∀s':AC,G (.mk P T hT n c B0 N X Q) K' m' ((d,.h s' ([]:List O).length)::e') (L'.set j (ow s' ([]:List O))) cf2):G (.mk P T hT n c B0 N X Q) K m e L cf:=by
 refine aNP (l:=([]:List O)) (λs'=>L'.set j (ow s' ([]:List O))) hs (bZ Prod.snd ho) (λ_=>I5 hfz) (λB a w hA hS=>?_) k;obtain⟨⟨R,s1,s2⟩,s0⟩:=hS;obtain⟨v,h1,h2⟩:=eF hA hx;cases h1;have k2:=s1.bGZ (O:=O) j (by rw[AS,hj];rfl) hn;refine⟨s.sub sz 0,w,aZG (n:=sz) ⟨_,_,_,rfl⟩ (D3 ht hT) (hT.size _ _ he) (bZ Prod.fst ho) h2 (wT hA hz),⟨⟨R,?_,λz hz=>?_⟩,s0⟩⟩
 ·rw[KT];exact k2
 ·rcases rG hz with hz|hz
  ·grind
  ·subst hz;trivial
end
theorem ah2[aN O]{q1 q2:AH}{d1 d2:List O}(h1:q1.n=d1.length/\bL c q1.s d1)(h2:q2.n=d2.length/\bL c q2.s d2):AHs c [q1,q2] [d1,d2]:=And.intro h1 (And.intro h2 trivial)
theorem rwX{C:Prop}[aN O](hn:aN.n O=1){d:List O}(h:bL c s d)(k:∀us:List Raw,bL c s us->V6 c.S0 c.w0 us d->C):C:=by obtain⟨us,h1,h2⟩:=bGY hn h;refine k us ?_ h2;unfold bL;rw[h2.1];exact h1
theorem bKV{n:Int}(hn:0<=n/\n<=1073741824)(hb:decide (0<aY (n-aY (0-0)))=true):1<=aY (n-aY (0-0))/\aY (n-aY (0-0))<=1073741824:=by grind[PL]
theorem aT2{O:Type}:∀l:List O,frc l=some l
 |[]=>rfl
 |x::l=>by simp only[frc,aT2 l]
theorem aQ7(x:SV):∀(cs:List SV) (i:Nat),nbL (cs.set i x)=(nbL cs).set i (nb1 x)
 |[],_=>rfl
 |y::cs,0=>rfl
 |y::cs,i+1=>by simp only[List.set_cons_succ,nbL,aQ7 x cs i]
def aB(l:List Bool):List SV:=[.b (l.getD 0 false),.b (l.getD 1 false),.b (l.getD 2 false),.b (l.getD 3 false),.b (l.getD 4 false),.b (l.getD 5 false),.b (l.getD 6 false),.b (l.getD 7 false),.b (l.getD 8 false),.b (l.getD 9 false),.b (l.getD 10 false),.b (l.getD 11 false),.b (l.getD 12 false),.b (l.getD 13 false),.b (l.getD 14 false),.b (l.getD 15 false),.b (l.getD 16 false),.b (l.getD 17 false),.b (l.getD 18 false),.b (l.getD 19 false),.b (l.getD 20 false),.b (l.getD 21 false),.b (l.getD 22 false),.b (l.getD 23 false)]
theorem aXD{l:List Bool}(h:i<24):(aB l)[i]?=some (.b (l.getD i false)):=by have:(aB l).length=24:=rfl;rcases i with _|_|_|_|_|_|_|_|_|_|_|_|_|_|_|_|_|_|_|_|_|_|_|_|i<;>first|rfl|omega
theorem bHQ{l:List Bool}(h:i<24)(hl:i<l.length)(u:Bool):(aB l).set i (.b u)=aB (l.set i u):=by
 refine ZQ λk=>?_;have e:(aB l).length=24:=rfl;by_cases hk:k<24
 ·rw[aXD hk,List.getElem?_set];by_cases q:i=k
  ·grind
  ·rw[aP q,aXD hk];grind
 simp_all[aB]
section
variable {P:Program} {T:TT} {hT:D6 P T} {n:Nat} {c:Ctx} {B0:Bl} {N:Act->World->Prop} {X:Nat->Act->World->Prop} {Q:Act->World->Prop} {K K':List Fr} {m m':Nat} {e e':SE} {L L':List Ch} {cf cf1 cf2:sW} {o:Oper} {Lv:List Ch} {d:Nat}
variable {x y:Operand} {t el:TypeId} {k:IntKind} {i:Int} {β:Type} {A:Option β} {kf:Bool->Option β} {q:β} {n1 b0:Nat} {l:List Bool}
theorem elP{B:Bl}{b i:Nat}(hw:B[b0]?=some (b,z)):fH B (.p b0 i)=fH B (.e ⟨some ⟨b,z,none⟩,0⟩ 1 i 0):=by simp[fH,gV,bK,hw,VJ,UL]
theorem qia(hu:P.underlying t=some (.array 24 el))(hz:∀w,(sizeOf el).run P w=.ok 1 w)(hs:jK T n K cf m e L=.op o Lv cf1 cf2 K' m' e' L')(ho:(o.op,o.dst)=(.indexAddr t x y,some d))(hx:iG e' x=some (.p b0 0))(hy:(iG e' y).bind rI=some (k,i))(hF:need (0<=i/\i<24) A=some q)
  (kk:0<=i/\i<24->A=some q->∀b z:Nat,G (.mk P T hT n c B0 N X Q) K' m' ((d,.e ⟨some ⟨b,z,none⟩,0⟩ 1 i.toNat 0)::e') (L'++[.w b0 b z]) cf2):G (.mk P T hT n c B0 N X Q) K m e L cf:=by
 have hb:=(lZ hF).1;have hd:o.dst=some d:=bZ Prod.snd ho;refine gO (g:=.mk P T hT n c B0 N X Q) ?_;rw[hs];intro hdn _ hE;refine hE (Nat×Nat) (λ_=>m') (λs=>(d,.e ⟨some ⟨s.1,s.2,none⟩,0⟩ 1 i.toNat 0)::e') (λs=>L'++[.w b0 s.1 s.2]) (λ_=>sZ _) (λB a w next Q' hm hA hS hnext=>?_) (λs=>kk hb (lZ hF).2 s.1 s.2);obtain⟨v,h1,h2⟩:=eF hA hx;have h3:=wT hA hy;simp only[fH,gV,bK] at h1;split at h1
 ·rename_i b z hbz;cases h1;have hw:(V8 (.mk P T hT n c B0 N X Q) cf1++B)[b0]?=some (b,z):=hbz;have hrun:eW P o (vE (V8 (.mk P T hT n c B0 N X Q) cf1++B) e') w (.pointer (some ⟨b,z+i.toNat,none⟩)) w:=λ_ a' hA'=>by
   have ho':o.op=.indexAddr t x y:=bZ Prod.fst ho;have h5:(⟨b,z,none⟩:Addr).add i.toNat=⟨b,z+i.toNat,none⟩:=by grind[Addr.add]
   simp[execOp,ho',Instr.indexAt,hA'.eval h2,hA'.eval h3,asIntOf,run_underlying hu,Instr.sureAddr,hb.1,hb.2,hz,h5]
  unfold Oper.wp;rw[hrun _ a hA.env,Oper.upon_value,hd];obtain⟨⟨R,s1,s2⟩,s0⟩:=hS;refine hnext (b,z) _ _ ⟨[],aj,by simpa using hA.of (by simp[fH,gV,bK,VJ,UL]) (hA.env.put (by grind[qS,wD]) _),?_⟩;rw[uH];refine⟨⟨R,by rw[m7];exact aTI s1,λz hz=>?_⟩,s0⟩;rcases cY.1 hz with hz|hz
  ·grind
  ·simp at hz;subst hz;exact hw
 ·cases h1
theorem qal{tk:TK}{zz:Nat}{b:Nat}(p:Nat)(h24:0<=i/\i<24)(hs:opS (jK T n K cf m e L)=some (o,Lv,cf1,cf2,K',m',e',L'))(ho:(o.op,o.dst)=(.load t x,some d))(hx:iG e' x=some (.e ⟨some ⟨b,z,none⟩,0⟩ 1 i.toNat 0))(hp:Lv[p]?=some (.w b0 b z))(hb:HC b0 Lv=some (aB l))(ht:wW T t=some ⟨tk,false,zz,z1⟩)(hF:(idx l i).bind kf=some q)
  (kk:∀u,kf u=some q->G (.mk P T hT n c B0 N X Q) K' m' ((d,.b u)::e') L' cf2):G (.mk P T hT n c B0 N X Q) K m e L cf:=by
 cases hi:idx l i with
 |none=>grind
 |some u=>
  rw[hi] at hF;refine pu hs (bZ Prod.snd ho) (λB a w hA hS=>?_) (kk u hF);obtain⟨v,h1,h2⟩:=eF hA hx;have hw:B[b0]?=some (b,z):=by obtain⟨⟨R,_,s2⟩,_⟩:=id hS;exact s2 _ (D9 hp)
  refine aTC (a:=.p b0 i.toNat) (r:=.b u) hT hS (bZ Prod.fst ho) h2 ((elP hw).trans h1) ?_;simp only[aO3,hb,ht];rw[aXD aa,G9,(AW hi).2.2];rfl
theorem bKW{v:SV}{y:Operand}(h:iG [] y=some v)(e:SE):iG e y=some v:=by cases y<;>first|exact h|grind[iG,CV]
theorem qas{tk:TK}{ag:Bool}{u:Bool}{b k0:Nat}(p:Nat)(h24:0<=i/\i<24)(hs:jK T n K cf m e L=.op o Lv cf1 cf2 K' m' e' L')(ho:(o.op,o.dst)=(.store t (.tmp k0) y,none))(hx:CV e' k0=some (.e ⟨some ⟨b,z,none⟩,0⟩ 1 i.toNat 0))(hy:iG [] y=some (.l u))(hp:L'[p]?=some (.w b0 b z))(hib:QY b0 L'=true)(hb:HC b0 L'=some (aB l))(ht:wW T t=some ⟨tk,ag,1,z1⟩)(hz:noD cf1=true)(hF:(idx l i).bind kf=some q)
  (kk:∀v,kf v=some q->G (.mk P T hT n c B0 N X Q) K' m' e' (sY b0 (aB (l.set i.toNat u)) L') cf2):G (.mk P T hT n c B0 N X Q) K m e L cf:=by
 cases hi:idx l i with
 |none=>grind
 |some v=>
  rw[hi] at hF;obtain⟨i0,i1,i2⟩:=AW hi;have hlt:i.toNat<l.length:=aa
  have ho':o.op=.store t (.tmp k0) y:=bZ Prod.fst ho;have hd:o.dst=none:=bZ Prod.snd ho;have hst:SL T t (.p b0 i.toNat) (.l u) L'=some (sY b0 ((aB l).set i.toNat (.l u)) L'):=by
   have e1:Nat.beq 1 1=true:=rfl;have e2:Nat.ble (i.toNat+1) (aB l).length=true:=by rw[Nat.ble_eq];show i.toNat+1<=24;omega
   have e3:mH (.l u)=[.l u]:=rfl;have e4:isCells (.l u)=true:=rfl;simp only[SL,hib,hb,ht,e3,e4,List.length_singleton,e1,e2,aT2];simp_all[aJX,a55]
  refine gO (g:=.mk P T hT n c B0 N X Q) ?_;rw[hs];intro hdn _ hE;refine hE Unit (λ_=>m') (λ_=>e') (λ_=>sY b0 (aB (l.set i.toNat u)) L') (λ_=>?_) (λB a w next Q' hm hA hS hnext=>?_) (λ_=>kk v hF)
  ·cases cf1 with
   |d _ _ _ _ _ _=>cases hz
   |o _ _ _ _ _ _ _=>cases hz
   |_=>trivial
  ·have hw:(V8 (.mk P T hT n c B0 N X Q) cf1++B)[b0]?=some (b,z):=by obtain⟨⟨R,_,s2⟩,_⟩:=id hS;exact s2 _ (D9 hp)
   have hA2:gQ n (V8 (.mk P T hT n c B0 N X Q) cf1++B) ((k0,.p b0 i.toNat)::e') a:=⟨hA.d,hA.size,λk' x' hk=>by
    simp only[CV] at hk;split at hk
    ·rename_i hq;cases hk;have:=nM hq;subst this;obtain⟨v,g1,g2⟩:=hA.get k' _ hx;grind[elP]
    ·exact hA.get k' x' hk⟩
   obtain⟨w',k1,k2⟩:=aO6 hT hA2 hS ho' (by simp[iG,CV]) (bKW hy _) hst;unfold Oper.wp;rw[k1 _ a hA2.env,Oper.upon_skip,hd];refine hnext () _ _ ⟨[],aj,by rw[uH];exact⟨hA.d,hA.size,hA.get⟩,?_⟩;rw[uH];obtain⟨j,cs,g1,g2,g3⟩:=aJ0 hib;rw[g3] at k2 ⊢;obtain⟨⟨R,s1,s2⟩,s0⟩:=k2;have e0:∀B:Bl,aT (bK B) ((aB l).set i.toNat (.l u))=aT (bK B) (aB (l.set i.toNat u)):=λB=>by rw[<-bHQ aa hlt,<-K9,<-K9 (cs:=(aB l).set i.toNat (.b u)),aQ7,aQ7];rfl
   refine⟨⟨R,?_,λz hz=>?_⟩,s0⟩
   ·rw[KT] at s1 ⊢;refine s1.imp (jT.set j (jT.refl _) λF ⟨b,z,vs,q1,q2,q3⟩=>⟨b,z,vs,q1,(e0 _).symm.trans q2,q3⟩)
   ·obtain⟨k,hk⟩:=aFY hz;by_cases hkj:j=k
    ·subst hkj;rw[List.getElem?_set] at hk;simp only[bT] at hk;split at hk
     ·cases hk;trivial
     ·cases hk
    ·exact s2 z (D9 (i:=k) aj)
end
theorem aT3:∀(B A:List Chunk),blank (A++B) (List.range' A.length B.length)=A++List.replicate B.length J1
 |[],A=>by simp[blank]
 |b::B,A=>by have:=aT3 B (A++[J1]);simp_all[List.range'_succ,blank,List.replicate_succ]
theorem a0K:∀(B A:List Chunk),pick (A++B) (List.range' A.length B.length)=B
 |[],A=>by simp[pick]
 |b::B,A=>by have:=a0K B (A++[b]);simp_all[List.range'_succ,pick]
theorem a0L:∀(k a:Nat),dE (List.range' a k)=true
 |0,a=>rfl
 |k + 1,a=>by rw[List.range'_succ];simp only[dE,uG,V3,aWL];exact⟨λj hj=>by grind[nM],a0L k (a+1)⟩
theorem Sep.bKX{w:World}:∀(k:Nat) {A B:List Chunk} {F:cC},Sep w (A++List.replicate k J1++B) F->Sep w (A++B) F
 |0,A,B,F,h=>aj
 |k + 1,A,B,F,h=>by
  refine Sep.bKX k ?_;rw[List.replicate_succ,nL,DM] at h;obtain⟨F1,F2,h1,⟨F3,F4,h2,h3,h4,h5⟩,h6,h7⟩:=Sep.append.1 h;rw[nL];exact Sep.append.2 ⟨F1,F4,h1,h3,λb o a c=>h6 b o a ((h5 b o).2 (.inr c)),λb o=>by
   rw[h7,h5];exact⟨λh=>h.imp id λh=>h.resolve_left (h2 b o),λh=>h.imp id .inr⟩⟩
section
variable {P:Program} {T:TT} {hT:D6 P T} {n:Nat} {c:Ctx} {B0:Bl} {N:Act->World->Prop} {X:Nat->Act->World->Prop} {Q:Act->World->Prop} {K K':List Fr} {m m':Nat} {e e':SE} {L L':List Ch} {cf cf1 cf2:sW} {o:Oper} {Lv:List Ch} {d:Nat}
theorem bKY{O:Type}[aN O](E:CO O){sz:Nat}{B:Bl}{a:Act}(hA:gQ n B e a):∀{ps:List (Nat×Operand)} {qs:List (O×E.ex)},aT (λp=>(iG e p.2).map λv=>nbL (mH v)) ps=some (qs.map λq=>E.cs q.1 q.2)->(qs.all λq=>Nat.beq (E.cs q.1 q.2).length sz && (aT (bK []) (E.cs q.1 q.2)).isSome)=true ->
  ∃vs cells M,evs (vE B e) (ps.map (·.2))=some vs/\vs.length=ps.length/\(vs.all λv=>v.cells.size == sz)=true/\(vs.flatMap λv=>v.cells.toList)=cells/\OPs sz cells (qs.map (·.1)) M/\M.length=qs.length/\∀w F,Sep w ((qs.flatMap λq=>E.Lx q.1 q.2).map (kS [])) F->Sep w M F
 |[],[],_,_=>⟨[],[],[],rfl,rfl,rfl,rfl,⟨rfl,rfl⟩,rfl,λ_ _ h=>h⟩
 |[],q::qs,h,_=>by cases h
 |p::ps,[],h,_=>by grind[aT]
 |p::ps,q::qs,h,hc=>by
  simp only[aT,AT] at h;split at h
  ·cases h
  ·rename_i c0 h1;split at h
   ·cases h
   ·rename_i cs h2;simp only[Option.some.injEq,List.cons.injEq] at h;obtain⟨rfl,rfl⟩:=h;simp only[V2,uG] at hc;obtain⟨⟨hl,hsome⟩,hc⟩:=hc;obtain⟨vs,cells,M,g1,g2,g3,g4,g5,g6,g7⟩:=bKY E hA h2 aa;obtain⟨ec,hec⟩:=aB3.1 hsome;cases hxv:iG e p.2 with
    |none=>grind
    |some xv=>
     rw[hxv] at h1;simp at h1;obtain⟨v,v1,v2⟩:=eF hA hxv;have hcell:aT (bK B) (mH xv)=some ec:=by rw[<-K9,h1];exact eQ (λx v h=>by simpa using fW (B:=[]) B h) hec
     have hvc:v.cells.toList=ec:=MC v1 hcell;have hecl:ec.length=sz:=by grind[kW,nM]
     have e1:(ec++cells).take sz=ec:=aj
     have e2:(ec++cells).drop sz=cells:=aj
     refine⟨v::vs,ec++cells,eU ec q.1::M,by grind[evs],by simp[g2],?_,aj,⟨M,by rw[e1],aj,aj⟩,by simp[g6],λw F hF=>?_⟩
     ·grind
     ·rw[List.flatMap_cons,m7] at hF;obtain⟨F1,F2,k1,k2,k3,k4⟩:=Sep.append.1 hF;exact⟨F1,F2,(E.pk hec w F1).2 k1,g7 w F2 k2,k3,k4⟩
theorem ltM[aN O](E:CO O)(is:List Nat)(qs:List (O×E.ex)){len el sz:Nat}{zv:Value}{t:Nat}{b1:Bool}{n1:Nat}{ps:List (Nat×Operand)}(hinf:SJ P el sz zv)(q0_:jK T n K cf m e L=.op o Lv cf1 cf2 K' m' e' L'/\(o.op,o.dst)=(.buildSlice t len ⟨ps⟩,some d)/\wW T t=some ⟨.sl el,b1,n1,z1⟩/\aN.n O=sz/\qs.length=len/\Nat.ble 1 sz=true/\Nat.ble (len*sz) 16777216=true/\ps.map (·.1)=List.range' 0 len/\aT (λp=>(iG e' p.2).map λv=>nbL (mH v)) ps=some (qs.map λq=>E.cs q.1 q.2)/\(qs.all λq=>Nat.beq (E.cs q.1 q.2).length sz && (aT (bK []) (E.cs q.1 q.2)).isSome)=true/\aT (λi=>L'[i]?) is=some (qs.flatMap λq=>E.Lx q.1 q.2)/\dE is=true/\(is.all λj=>fP j cf1.wY)=true)
  (k:∀s':AC,G (.mk P T hT n c B0 N X Q) K' m' ((d,.h s' (qs.map (·.1)).length)::e') (G4 L' is++[ow s' (qs.map (·.1))]) cf2):G (.mk P T hT n c B0 N X Q) K m e L cf:=by
 obtain⟨hs,ho,ht,hn,hl,hm,hsm,hix,hev,hec,hi,ha,hz⟩:=q0_;refine aNP (l:=qs.map (·.1)) (λs'=>G4 L' is++[ow s' (qs.map (·.1))]) hs (bZ Prod.snd ho) (λ_=>OK _ hz) (λB a w hA hS=>?_) k;obtain⟨⟨R,s1,s2⟩,s0⟩:=hS;obtain⟨vs,cells,M,g1,g2,g3,g4,g5,g6,g7⟩:=bKY E (sz:=sz) hA hev hec;have hb:∀B,(qs.flatMap λq=>E.Lx q.1 q.2).map (kS B)=(qs.flatMap λq=>E.Lx q.1 q.2).map (kS []):=λB=>by rw[List.map_flatMap,List.map_flatMap];congr 1;funext q;exact E.nb q.1 q.2 B
 have p1:=s1.shift is ha (A':=M) λF hF=>g7 w F (by grind[LB]);have hpl:ps.length=len:=by simpa using bZ List.length hix
 obtain⟨v',w',k1,k2⟩:=aZE (e:=vE B e') (o:=o) (ps:=ps) (vs:=vs) (cells:=cells) (qs.map (·.1)) p1 (List.range' (blank (L'.map (kS B)) is).length M.length) (a0L _ _) (by grind[a0K]) hn (D3 ht hT) hinf aj hm hsm (bZ Prod.fst ho) g1 (aB7 hix (by rw[g2,hpl]) g3 g4);rw[aT3] at k2;obtain⟨s',rfl⟩:=aAT (v:=v') (l:=qs.map (·.1)) k2 _ List.getElem?_concat_length;obtain⟨F,S,a1,a2⟩:=k2.sep;refine⟨s',w',k1,⟨⟨R,⟨k2.keep,⟨F,S,?_,a2⟩,k2.apart⟩,λz hz=>?_⟩,s0⟩⟩
 ·rw[m7,ED];exact Sep.bKX _ a1
 ·rcases cY.1 hz with hz|hz
  ·rcases LA _ _ hz with hz|hz
   ·grind
   ·subst hz;trivial
  ·simp at hz;subst hz;trivial
end
open Go Go.RowKit
structure KX (n z:Nat) (A B:World):Prop where
 size:A.heap.size<=B.heap.size
 G4:∀k,k<n->k≠z->B.heap[k]?=A.heap[k]?
theorem KX.refl(n z:Nat)(A:World):KX n z A A:=⟨iZ _,λ_ _ _=>rfl⟩
theorem KX.trans{n:Nat}{B C:World}(h:KX n z A B)(k:KX n z B C):KX n z A C:=⟨lO h.size k.size,λi h1 h2=>(k.G4 i h1 h2).trans (h.G4 i h1 h2)⟩
theorem KX.put{n l:Nat}{o:Obj}(h:n<=l\/l=z):KX n z A (A.putObj l o):=⟨by simp[World.putObj],λi h1 h2=>World.putObj_heap_other aa⟩
def aQ8(W:World):cC:=λb o=>(W.cell? ⟨b,o,none⟩).isSome=true
def Cq(O:Type)[aN O]:Prop:=∀{S:cC} {w:World} {cs:List Value} {d:O},aN.rd S w cs d->aN.rd (λb o=>S b o/\aQ8 w b o) w cs d
theorem bCX[aN O][Flat O]:Cq O:=λh=>aN.rd_mono (aN.own_rd (Flat.own_of h:aN.own _ _ _ F0)) λ_ _ h=>h.elim
theorem a0M[aN O](hq:Cq O):Cq (List O):=λ{S w cs l} h=>by obtain⟨a,c,e,h1,h2,h3⟩:=(h:qV S w cs l);refine⟨a,c,e,h1,h2,h3.imp id ?_⟩;rintro⟨b,off,ha,h⟩;refine⟨b,off,ha,λi hi=>?_⟩;obtain⟨ec,q1,q2,q3⟩:=h i hi;refine⟨ec,q1,λo g=>⟨q2 o g,?_⟩,hq q3⟩;obtain⟨_,g1,g2⟩:=g;have:=q1 (o-(off+i*aN.n O)) ec[o-(off+i*aN.n O)] (jC aa);rw[show off+i*aN.n O+(o-(off+i*aN.n O))=o by omega] at this;simp[aQ8,this]
def RdZ(z:Nat)(W:World){O:Type}[aN O](cs:List Value)(d:O):Prop:=aN.rd (λb o=>b≠z/\aQ8 W b o) W cs d
def CK(z:Nat)(W W':World):Prop:=∀(b:Nat) (t:TypeId) (cells:Array Value) (f:Nat×Nat),b≠z->W.heap[b]?=some (Obj.cells cells t f)->W'.heap[b]?=W.heap[b]?
theorem RdZ.kept{W:World}[aN O]{cs:List Value}{d:O}(h:RdZ z W cs d)(hk:CK z W W'):RdZ z W' cs d:=by
 have key:∀b o,(b≠z/\aQ8 W b o)->W'.cell? ⟨b,o,none⟩=W.cell? ⟨b,o,none⟩:=λb o ⟨hz,hc⟩=>by
  refine World.cell?_of_block ?_;unfold aQ8 World.cell? at hc;simp only at hc;split at hc
  ·rename_i cells t f he;exact hk b _ _ _ hz he
  ·cases hc
 exact aN.rd_mono (aN.rd_agree h key) λb o hc=>⟨hc.1,by unfold aQ8;rw[key b o hc];exact hc.2⟩
theorem bCZ{W:World}[aN O](hq:Cq O){y:AC}{d:List O}(h:lJ (dZ W) W' [] [ow y d])(hz:z<W.heap.size):RdZ z W' [y.v d.length] d:=by
 obtain⟨⟨R,s1,_⟩,_⟩:=h;obtain⟨F,S,a1,_,a3,_⟩:=s1.sep;have a1:(eU [y.v d.length] d).P W' F:=Sep.one.1 a1;refine aN.rd_mono (a0M hq (aN.own_rd a1)) λb o ⟨h1,h2⟩=>⟨λe=>?_,h2⟩;rcases a3 b o h1 with h|h
 ·exact h
 ·have:W.heap.size<=b:=h;omega
theorem aKF{W:World}{L:List Ch}(h:lJ (dZ W) W' [] L):Below W.heap.size W W':=by obtain⟨⟨R,s1,_⟩,_⟩:=h;exact⟨s1.keep.os,s1.keep.tape,s1.keep.output,s1.keep.size,λk hk=>s1.keep.block k hk λ_ h=>h⟩
theorem CK.below{W:World}(h:Below W.heap.size W W'):CK z W W':=λb t c f _ hb=>h.block b (aGL.1 hb).1
theorem CK.trans{B C:World}(h:CK z A B)(k:CK z B C):CK z A C:=λb t c f hz hb=>by have h1:=h b t c f hz hb;exact(k b t c f hz (h1.trans hb)).trans h1
def mkD(D:Nat):Deferred:={target:=.collected D,args:=#[]}
def Mks:List Deferred->World->Prop
 |[],_=>True
 |q::ds,W=>∃D,q=mkD D/\W.heap[D]?=some (.deferred (some []))/\(∀E,mkD E∈ds->E<D)/\Mks ds W
theorem Mks.kept{W:World}:∀{ds:List Deferred},Mks ds W->(∀D,mkD D∈ds->W.heap[D]?=some (.deferred (some []))->W'.heap[D]?=W.heap[D]?)->Mks ds W'
 |[],_,_=>trivial
 |q::ds,⟨D,h1,h2,h3,h4⟩,hk=>⟨D,h1,(hk D (by rw[h1];simp) h2).trans h2,h3,h4.kept λE hE=>hk E (lH _ hE)⟩
theorem Mks.at{W:World}:∀{ds:List Deferred},Mks ds W->∀D,mkD D∈ds->W.heap[D]?=some (.deferred (some []))
 |q::ds,⟨D,h1,h2,h3,h4⟩,E,hE=>by
  rcases iX.1 hE with e|e
  ·subst h1;simp only[mkD,Deferred.mk.injEq,Target.collected.injEq] at e;rw[e.1];exact h2
  ·exact h4.at E e
theorem Mks.leave{P:Program}{F:Fence}{n:Nat}{fn:Func}{tmps:Array Value}{R:Ending->World->Prop}:∀{ds:List Deferred} {W:World},Mks ds W->(∀W',(∀b,(∀D,mkD D∈ds->b≠D)->W'.heap[b]?=W.heap[b]?)->W'.heap.size=W.heap.size->(W'.os=W.os/\W'.tape=W.tape/\W'.output=W.output)->LeavesIn F n P fn tmps R [] .returning W')->LeavesInM F n P fn tmps R ds .returning W
 |[],W,_,k=>k W (λ_ _=>rfl) rfl ⟨rfl,rfl,rfl⟩
 |q::ds,W,⟨D,h1,h2,h3,h4⟩,k=>by subst h1;refine⟨ae,.inl ⟨D,_,rfl,run_takeDeferred h2,Mks.leave (h4.kept λE hE _=>World.putObj_heap_other (by have:=h3 E hE;omega)) λW' b2 b3 b4=>?_⟩⟩;refine k W' (λb hb=>(b2 b λE hE=>hb E (lH _ hE)).trans (World.putObj_heap_other (hb D (by simp[mkD])))) (by rw[b3];simp[World.putObj]) b4
section
variable {F:Fence} {n:Nat} {P:Program}
def rfX{O:Type}(B n₀ z:Nat)(I:List O->World->Prop)(xs:List O)(W:World):Exit->Act->World->Prop
 |.normal,_,W'=>KeepsFrom B W W'/\KX n₀ z W W'/\I xs W'
 |_,_,_=>False
theorem a7R{g:Operand}{ps:Array Tmp}{assign body:Code}{Q:Exit->Act->World->Prop}{a:Act}{w0:World}{gf n₀:Nat}{lb:Array Value}{encs:O->Array Value}{S:List O->Prop}{R:List O->O->Prop}
  (hro:F.round=none) (h1:1<=n) (hg:a.eval g=.func (.func gf) #[] lb) (hf:F.fn gf) (eg:∀args w,(callFunc gf args).run P w=.ok (.enter gf args) w)
  (hseq:∀(l:Nat) (J:List O->World->Prop) (W:World),Below w0.heap.size w0 W->AbidesFrom W.heap.size J->(∀pre x W1,J pre W1->R pre x->YieldAt F (n-1-1) P l (encs x) W1 λe W'=>e=.returned (.bool true)/\J (pre++[x]) W'/\KX n₀ z W1 W')->J [] W->CallsIn F (n-1) P gf (#[.func (.yield l) #[] #[]]++lb) W λe W'=>(∃v,e=.returned v)/\∃xs,S xs/\J xs W') (hn:n₀<=w.heap.size) (hb0:Below w0.heap.size w0 w) (hps:∀x,(encs x).size=ps.size)
  (I:List O->World->Prop) (hI:OwnFrom w.heap.size I) (h0:I [] w) (A:O->Act)
  (hassign:∀(l:Nat) (x:O) (W:World),assign.wpIn (F.inRound l) (n-1-1) P (Exit.then (λa1 W1=>a1=A x/\W1=W) (λ_ _ _=>False)) {tmps:=(ps.zip (encs x)).foldl (λt (p,v)=>t.setIfInBounds p v) a.tmps,defers:=[]} W)
  (hbody:∀(l:Nat) (pre:List O) (x:O) (W:World),w.heap.size<=W.heap.size->R pre x->I pre W->body.wpIn (F.inRound l) (n-1-1) P (rfX w.heap.size n₀ z I (pre++[x]) W) (A x) W)
  (hdone:∀(D:Nat) (xs:List O) (W:World),w.heap.size<=D->S xs->I xs W->W.heap[D]?=some (.deferred (some []))->Q .normal {a with defers:={target:=.collected D,args:=#[]} :: a.defers} W) :
  (Code.rangeFunc g ps assign body).wpIn F n P Q a w:=by
 refine wpIn_rangeFunc λfn hfn=>?_;rw[hro]
 let B:=w.heap.size
 let rc:LoopState->Option Code->Loop:=λst pe=>{state:=st,pending:=pe,fn,tmps:=a.tmps,params:=ps,assign,body,defers:=B}
 let W1:=(w.alloc (.deferred (some []))).alloc (.loop (rc .ready none))
 have L1:W1.heap[B+1]?=some (.loop (rc .ready none)):=by have:=World.alloc_heap_new (w.alloc (.deferred (some []))) (.loop (rc .ready none));rwa [World.size_alloc] at this
 have K1:W1.heap[B]?=some (.deferred (some [])):=(Below.heap_alloc _ _ _ (by simp[B])).trans (World.alloc_heap_new w _);have b1:Below w0.heap.size w0 W1:=hb0.trans ((((Below.refl _ w).alloc (iZ _) _).alloc ae _).mono hb0.size);have io:I [] W1:=hI.alloc _ (hI.alloc _ h0)
 let Bk:Loop->World->Prop:=λr W=>W.heap[B+1]?=some (.loop r)/\W.heap[B]?=some (.deferred (some []))
 have kept:∀{r:Loop} {X Y:World} {row:Option Nat},Bk r X->X.grownBy Y row->(∀j,row=some j->W1.heap.size<=j/\∃o:Obj,X.heap[j]?=some o/\o.isWalk=true)->Bk r Y:=λh hg hr=>by
  have s1:W1.heap.size=B+2:=by simp[W1,B]
  exact⟨(hg.block _ (aGL.1 h.1).1 λe=>by have:=(hr _ e.symm).1;omega).trans h.1,(hg.block _ (aGL.1 h.2).1 λe=>by have:=(hr _ e.symm).1;omega).trans h.2⟩
 have far:∀{X:World} {row:Option Nat},(∀j,row=some j->W1.heap.size<=j/\∃o:Obj,X.heap[j]?=some o/\o.isWalk=true)->∀j,row=some j->B<=j/\∃o:Obj,X.heap[j]?=some o/\o.isCells=false:=λhr j e=>by
  have s1:W1.heap.size=B+2:=by simp[W1,B]
  obtain⟨q,o,h,hw⟩:=hr j e;exact⟨aa,o,h,Obj.not_cells_of_walk hw⟩
 have put:∀{r r':Loop} {X:World},Bk r X->Bk r' (X.putObj (B+1) (.loop r')):=λh=>⟨World.putObj_heap_same (aGL.1 h.1).1,(World.putObj_heap_other aa).trans h.2⟩;have blo:∀{X:World} {o:Obj},KX n₀ z X (X.putObj (B+1) o):=KX.put (.inl aa);refine⟨B+1,[{target:=.collected B,args:=#[]}],W1,{target:=.fn (.func gf) lb,args:=#[.func (.yield (B+1)) #[] #[]]},W1,gf,#[.func (.yield (B+1)) #[] #[]]++lb,W1,run_enterLoop_outer _ _ _ _ _,?_,?_,?_,λ_=>h1,?_⟩
 ·simp only[resolve,hg];simp[go_sem]
 ·intro f' h';simp[Target.leads] at h';subst h';exact hf
 ·simp[invoke,go_sem,eg]
 refine(hseq (B+1) (λpre W=>I pre W/\Bk (rc .ready none) W) W1 b1 (λs X Y row h hg hr=>⟨hI s X Y row h.1 hg (far hr),kept h.2 hg hr⟩) ?_ ⟨io,L1,K1⟩).mono ?_
 ·rintro pre x W ⟨hi,hb⟩ hl;have hsz:B<=W.heap.size:=by have:=(aGL.1 hb.1).1;omega
  refine⟨fn,_,assign,body,run_yield (P:=P) (args:=encs x) hb.1 (hps x),roundIn_of_wpIn hfn (wpIn_mono (hassign _ x W) ?_)⟩;rintro e a1 W2 he;cases e with
  |normal=>
   obtain⟨rfl,rfl⟩:=he;have hb3:Bk (rc .busy none) (W2.putObj (B+1) (.loop (rc .busy none))):=put hb;refine⟨_,run_beginRound hb.1 rfl,wpIn_mono (hbody _ pre x _ (by simp only[World.putObj,Array.size_setIfInBounds];exact hsz) hl (hI.putObj _ hi aa hb.1 rfl)) ?_⟩;rintro e a3 W3 hp;cases e with
   |normal=>
    obtain⟨k3,q3,i3⟩:=hp;have hb4:Bk (rc .busy none) W3:=⟨k3.same _ _ aa hb3.1 rfl,k3.same _ _ (iZ _) hb3.2 rfl⟩;exact⟨_,_,run_endRound (P:=P) none hb4.1,⟨rfl,⟨hI.putObj _ i3 aa hb4.1 rfl,put hb4⟩,(blo.trans q3).trans blo⟩⟩
   |_=>exact hp.elim
  |_=>exact he.elim
 ·rintro e W2 ⟨⟨v,rfl⟩,xs,hS,hi,hb⟩;exact⟨none,_,run_endLoop (P:=P) hb.1 (by simp[rc]),hdone B xs _ (iZ _) hS (hI.putObj _ hi aa hb.1 rfl) ((World.putObj_heap_other aa).trans hb.2)⟩
end
end Go.Gv
end
noncomputable section
namespace Go.Gv
open Go Go.RowKit
variable{O:Type}
def OwZ(n0 z:Nat)(W:World){O:Type}[aN O](v:Value)(m:List O):Prop:=∃F,aN.own W [v] m F/\∀b o,F b o->n0<=b/\b≠z
theorem OwZ.mono{n0 n1 z:Nat}{W:World}[aN O]{v:Value}{m:List O}(h:OwZ n1 z W v m)(hn:n0<=n1):OwZ n0 z W v m:=by obtain⟨F,a,b⟩:=h;exact⟨F,a,λi o q=>⟨lO hn (b i o q).1,(b i o q).2⟩⟩
section
variable {O:Type} [aN O] [Flat O] {W W':World} {v:Value} {m:List O} {n0 z:Nat}
theorem a0O{F:cC}(h:aN.own W [v] m F){b o:Nat}(hb:F b o):aQ8 W b o:=by
 obtain⟨a,c,e,h1,h2,h3⟩:=(h:AV W [v] m F);rcases h3 with ⟨_,_,h3⟩|⟨b1,off,Fs,rfl,q1,q2,_,_,q5⟩
 ·exact(h3 b o hb).elim
 ·rcases(q5 b o).1 hb with g|⟨i,hi,g⟩
  ·obtain⟨rfl,g2⟩:=g;exact(q1 o ⟨rfl,g2⟩).1
  ·obtain⟨ec,_,p⟩:=q2 i hi;exact(Flat.no p b o g).elim
theorem OwZ.rdZ(h:OwZ n0 z W v m):RdZ z W [v] m:=by obtain⟨F,a,b⟩:=h;exact aN.rd_mono (aN.own_rd a) λi o q=>⟨(b i o q).2,a0O a q⟩
omit [Flat O] in
theorem bC0(b off:Nat):OwZ n0 z W (.slice (some ⟨b,off,none⟩) 0 0) ([]:List O):=⟨F0,⟨_,_,rfl,iZ _,jD _,.inr ⟨b,off,λ_=>F0,rfl,λo h=>by have:=h.2;omega,λi h=>by simp at h,λi j h=>by simp at h,λi h=>by simp at h,λb' o=>⟨λh=>h.elim,λh=>h.elim (λh=>by have:=h.2;omega) λ⟨i,h,_⟩=>by simp at h⟩⟩⟩,λ_ _ h=>h.elim⟩
theorem OwZ.kept(h:OwZ n0 z W v m)(hk:CK z W W'):OwZ n0 z W' v m:=by
 obtain⟨F,a,hF⟩:=h;refine⟨F,?_,hF⟩;have same:∀b o,F b o->W'.heap[b]?=W.heap[b]?:=λb o q=>by
  have hc:=a0O a q;unfold aQ8 World.cell? at hc;simp only at hc;split at hc
  ·rename_i cells t f he;exact hk b _ _ _ (hF b o q).2 he
  ·cases hc
 obtain⟨a,c,e,h1,h2,h3⟩:=(a:AV W [v] m F);refine⟨a,c,e,h1,h2,h3.imp id ?_⟩;rintro⟨b,off,Fs,ha,q1,q2,q3,q4,q5⟩;refine⟨b,off,Fs,ha,λo g=>?_,λi hi=>?_,q3,q4,q5⟩
 ·have s:=same b o ((q5 b o).2 (.inl g));rw[World.cell?_of_block s,World.frozen?_of_block s];exact q1 o g
 ·obtain⟨ec,g1,g2⟩:=q2 i hi;refine⟨ec,λj x hj=>?_,?_⟩
  ·have hl:=aN.lP (aN.own_rd g2);have hjl:=(AR.1 hj).1;have:=a45 (n:=aN.n O) hi h1 (show j<aN.n O by omega);rw[World.cell?_of_block (same b (off+i*aN.n O+j) ((q5 _ _).2 (.inl ⟨rfl,aa,aa⟩)))];exact g1 j x hj
  ·have e:Fs i=F0:=funext λb=>funext λo=>propext ⟨λh=>(Flat.no g2 b o h).elim,λh=>h.elim⟩;rw[e];exact Flat.own_of (aN.own_rd g2)
omit [Flat O] in
theorem bHR{y:AC}(h:lJ (dZ W) W' [] [ow y m])(hz:z<W.heap.size):OwZ W.heap.size z W' (y.v m.length) m:=by
 obtain⟨⟨R,s1,_⟩,_⟩:=h;obtain⟨F,S,a1,_,a3,_⟩:=s1.sep;have a1:(eU [y.v m.length] m).P W' F:=Sep.one.1 a1;refine⟨F,a1,λb o h1=>?_⟩;rcases a3 b o h1 with h|h
 ·exact h.elim
 ·have:W.heap.size<=b:=h;exact⟨this,aa⟩
omit [Flat O] in
theorem bC1{c:Ctx}{y:AC}(h0:lJ c c.w0 [] [])(h:Below c.w0.heap.size c.w0 W')(ho:OwZ c.w0.heap.size z W' (y.v m.length) m):lJ c W' [] [ow y m]:=by obtain⟨⟨R,s1,e⟩,s2⟩:=h0;obtain⟨F,a,hF⟩:=ho;have s1:=s1.same (aNT h);obtain⟨F1,S,a1,a2,a3,a4,a5,a6⟩:=s1.sep;refine⟨⟨[],⟨s1.keep,⟨F,F0,Sep.one.2 a,λ_ _ _ h=>h,λb o h=>.inr (hF b o h).1,λ_ _ h=>h.elim,λ_ _ h=>h.elim,ae⟩,s1.apart⟩,λx hx=>by rw[iY.1 hx];trivial⟩,s2⟩
end
theorem yV{c:Ctx}{W:World}[aN O]{s:AC}{l:List O}(h0:lJ c c.w0 [] [])(hb:Below c.w0.heap.size c.w0 W)(h:bL c s l):bL (dZ W) s l:=by obtain⟨_,s2⟩:=h0;refine aN.rd_mono (aN.rd_agree h λb o q=>World.cell?_of_block (hb.block b (s2 b o q))) λb o q=>?_;have:=s2 b o q;exact HB this hb.size
theorem bKZ{W:World}[aN O]{s:AC}{l:List O}{z:Nat}(h:RdZ z W [s.v l.length] l):bL (dZ W) s l:=aN.rd_mono h λb o q=>by have:=q.2;unfold aQ8 at this;exact World.block_lt_of_cell? W ⟨b,o,none⟩ (aB3.1 this).choose_spec
end Go.Gv
end
noncomputable section
namespace Go.Gv
variable{v0:Value}{w:World}
abbrev VI(x:Int):Value:=.int .i64 x
structure dL where
 b:List UInt8
 i:Int
 h:Int
 deriving DecidableEq,Inhabited
abbrev a0P(d:dL):=(d.b,d.i,d.h)
instance:aN dL:=aN.via a0P
instance:Fits dL:=Fits.via a0P
structure eJ where
 Kind:Int
 Key:Int
 dC:Int
 deriving DecidableEq,Inhabited
abbrev a7S(d:eJ):=(d.Kind,d.Key,d.dC)
instance:aN eJ:=aN.via a7S
instance:Fits eJ:=Fits.via a7S
theorem bHS{S:cC}{cs:List Value}{d:eJ}(h:aN.rd S w cs d):cs=[VI d.Kind,VI d.Key,VI d.dC]:=by obtain⟨c0,r0,e0,h0,n0⟩:=h;have q0:c0=[_]:=h0;obtain⟨c1,r1,e1,h1,n1⟩:=n0;have q1:c1=[_]:=h1;have q2:r1=[_]:=n1;exact by rw[e0,e1,q0,q1,q2];rfl
instance:Flat eJ:=⟨λh=>Flat.own_of (O:=Int×Int×Int) h,λh=>Flat.no (O:=Int×Int×Int) h⟩
theorem bHT(d:eJ):OP [VI d.Kind,VI d.Key,VI d.dC] d []:=(show OP _ (a7S d) _ from(eT (c1:=[VI d.Kind]) (A:=[]) (eC rfl) (eT (c1:=[VI d.Key]) (A:=[]) (eC rfl) (eC rfl) rfl) rfl))
structure Batch where
 Collect:Bool
 bN:List eJ
 deriving DecidableEq,Inhabited
abbrev aQ9(d:Batch):=(d.Collect,d.bN)
instance:aN Batch:=aN.via aQ9
instance:Fits Batch:=Fits.via aQ9
theorem aT4{S:cC}{cs:List Value}{d:Batch}(h:aN.rd S w cs d):∃v0:Value,cs=[.bool d.Collect,v0]/\aN.rd S w [v0] d.bN:=by obtain⟨c0,r0,e0,h0,n0⟩:=h;have q0:c0=[_]:=h0;obtain⟨u1,q1⟩:=kK n0;rw[q1] at n0;exact⟨u1,by rw[e0,q0,q1];rfl,n0⟩
theorem aT5(d:Batch):OP [.bool d.Collect,v0] d [eU [v0] d.bN]:=(show OP _ (aQ9 d) _ from(eT (c1:=[.bool d.Collect]) (A:=[]) (eC rfl) HO rfl))
structure aJ where
 List:List Batch
 deriving DecidableEq,Inhabited
abbrev aKG(d:aJ):=(d.List)
instance:aN aJ:=aN.via aKG
instance:Fits aJ:=Fits.via aKG
theorem a2Z{S:cC}{cs:List Value}{d:aJ}(h:aN.rd S w cs d):∃v0:Value,cs=[v0]/\aN.rd S w [v0] d.List:=by obtain⟨u0,q0⟩:=kK h;rw[q0] at h;exact⟨u0,q0,h⟩
theorem vO(d:aJ):OP [v0] d [eU [v0] d.List]:=(show OP _ (aKG d) _ from HO)
structure pB where
 fI:List aJ
 fY:List Int
 deriving DecidableEq,Inhabited
abbrev aPF(d:pB):=(d.fI,d.fY)
instance:aN pB:=aN.via aPF
instance:Fits pB:=Fits.via aPF
structure Heap where
 Bytes:List Int
 Class:List Int
 deriving DecidableEq,Inhabited
abbrev a7T(d:Heap):=(d.Bytes,d.Class)
instance:aN Heap:=aN.via a7T
instance:Fits Heap:=Fits.via a7T
structure bH where
 aV:List Int
 deriving DecidableEq,Inhabited
abbrev aRA(d:bH):=(d.aV)
instance:aN bH:=aN.via aRA
instance:Fits bH:=Fits.via aRA
theorem a7U{S:cC}{cs:List Value}{d:bH}(h:aN.rd S w cs d):∃v0:Value,cs=[v0]/\aN.rd S w [v0] d.aV:=by obtain⟨u0,q0⟩:=kK h;rw[q0] at h;exact⟨u0,q0,h⟩
theorem WE(d:bH):OP [v0] d [eU [v0] d.aV]:=(show OP _ (aRA d) _ from HO)
structure aE where
 Global:List bH
 Own:List bH
 deriving DecidableEq,Inhabited
abbrev a0Q(d:aE):=(d.Global,d.Own)
instance:aN aE:=aN.via a0Q
instance:Fits aE:=Fits.via a0Q
structure Mem where
 Heap:Heap
 aE:aE
 deriving DecidableEq,Inhabited
abbrev bFU(d:Mem):=(d.Heap,d.aE)
instance:aN Mem:=aN.via bFU
instance:Fits Mem:=Fits.via bFU
structure wU where
 On:Bool
 aL:Int
 gP:Bool
 Seen:Int
 deriving DecidableEq,Inhabited
abbrev a7V(d:wU):=(d.On,d.aL,d.gP,d.Seen)
instance:aN wU:=aN.via a7V
instance:Fits wU:=Fits.via a7V
theorem bHU{S:cC}{cs:List Value}{d:wU}(h:aN.rd S w cs d):cs=[.bool d.On,VI d.aL,.bool d.gP,VI d.Seen]:=by obtain⟨c0,r0,e0,h0,n0⟩:=h;have q0:c0=[_]:=h0;obtain⟨c1,r1,e1,h1,n1⟩:=n0;have q1:c1=[_]:=h1;obtain⟨c2,r2,e2,h2,n2⟩:=n1;have q2:c2=[_]:=h2;have q3:r2=[_]:=n2;exact by rw[e0,e1,e2,q0,q1,q2,q3];rfl
theorem bHV{S:cC}(d:wU):aN.rd S w [.bool d.On,VI d.aL,.bool d.gP,VI d.Seen] d:=⟨[.bool d.On],[VI d.aL,.bool d.gP,VI d.Seen],rfl,rfl,⟨[VI d.aL],[.bool d.gP,VI d.Seen],rfl,rfl,⟨[.bool d.gP],[VI d.Seen],rfl,rfl,rfl⟩⟩⟩
instance:Flat wU:=⟨λh=>Flat.own_of (O:=Bool×Int×Bool×Int) h,λh=>Flat.no (O:=Bool×Int×Bool×Int) h⟩
theorem bHW(d:wU):OP [.bool d.On,VI d.aL,.bool d.gP,VI d.Seen] d []:=(show OP _ (a7V d) _ from(eT (c1:=[.bool d.On]) (A:=[]) (eC rfl) (eT (c1:=[VI d.aL]) (A:=[]) (eC rfl) (eT (c1:=[.bool d.gP]) (A:=[]) (eC rfl) (eC rfl) rfl) rfl) rfl))
structure aC where
 aL:Int
 cO:List wU
 deriving DecidableEq,Inhabited
abbrev a0R(d:aC):=(d.aL,d.cO)
instance:aN aC:=aN.via a0R
instance:Fits aC:=Fits.via a0R
structure eR where
 Handle:Int
 aL:Int
 deriving DecidableEq,Inhabited
abbrev aXE(d:eR):=(d.Handle,d.aL)
instance:aN eR:=aN.via aXE
instance:Fits eR:=Fits.via aXE
theorem bC2{S:cC}{cs:List Value}{d:eR}(h:aN.rd S w cs d):cs=[VI d.Handle,VI d.aL]:=by obtain⟨c0,r0,e0,h0,n0⟩:=h;have q0:c0=[_]:=h0;have q1:r0=[_]:=n0;exact by rw[e0,q0,q1];rfl
theorem bC3{S:cC}(d:eR):aN.rd S w [VI d.Handle,VI d.aL] d:=⟨[VI d.Handle],[VI d.aL],rfl,rfl,rfl⟩
instance:Flat eR:=⟨λh=>Flat.own_of (O:=Int×Int) h,λh=>Flat.no (O:=Int×Int) h⟩
theorem bC4(d:eR):OP [VI d.Handle,VI d.aL] d []:=(show OP _ (aXE d) _ from(eT (c1:=[VI d.Handle]) (A:=[]) (eC rfl) (eC rfl) rfl))
structure bU where
 Rows:List eR
 deriving DecidableEq,Inhabited
abbrev aRB(d:bU):=(d.Rows)
instance:aN bU:=aN.via aRB
instance:Fits bU:=Fits.via aRB
theorem a7W{S:cC}{cs:List Value}{d:bU}(h:aN.rd S w cs d):∃v0:Value,cs=[v0]/\aN.rd S w [v0] d.Rows:=by obtain⟨u0,q0⟩:=kK h;rw[q0] at h;exact⟨u0,q0,h⟩
theorem aT6(d:bU):OP [v0] d [eU [v0] d.Rows]:=(show OP _ (aRB d) _ from HO)
structure aA where
 Mem:Mem
 aC:aC
 aQ:List bU
 qT:List Int
 deriving DecidableEq,Inhabited
abbrev a7X(d:aA):=(d.Mem,d.aC,d.aQ,d.qT)
instance:aN aA:=aN.via a7X
instance:Fits aA:=Fits.via a7X
structure bW where
 Head:Int
 eO:Int
 eM:Int
 deriving DecidableEq,Inhabited
abbrev a7Y(d:bW):=(d.Head,d.eO,d.eM)
instance:aN bW:=aN.via a7Y
instance:Fits bW:=Fits.via a7Y
theorem bHX{S:cC}{cs:List Value}{d:bW}(h:aN.rd S w cs d):cs=[VI d.Head,VI d.eO,VI d.eM]:=by obtain⟨c0,r0,e0,h0,n0⟩:=h;have q0:c0=[_]:=h0;obtain⟨c1,r1,e1,h1,n1⟩:=n0;have q1:c1=[_]:=h1;have q2:r1=[_]:=n1;exact by rw[e0,e1,q0,q1,q2];rfl
theorem bHY{S:cC}(d:bW):aN.rd S w [VI d.Head,VI d.eO,VI d.eM] d:=⟨[VI d.Head],[VI d.eO,VI d.eM],rfl,rfl,⟨[VI d.eO],[VI d.eM],rfl,rfl,rfl⟩⟩
instance:Flat bW:=⟨λh=>Flat.own_of (O:=Int×Int×Int) h,λh=>Flat.no (O:=Int×Int×Int) h⟩
theorem bHZ(d:bW):OP [VI d.Head,VI d.eO,VI d.eM] d []:=(show OP _ (a7Y d) _ from(eT (c1:=[VI d.Head]) (A:=[]) (eC rfl) (eT (c1:=[VI d.eO]) (A:=[]) (eC rfl) (eC rfl) rfl) rfl))
structure gR where
 Key:Int
 dC:Int
 Next:Int
 deriving DecidableEq,Inhabited
abbrev a0S(d:gR):=(d.Key,d.dC,d.Next)
instance:aN gR:=aN.via a0S
instance:Fits gR:=Fits.via a0S
theorem a7Z{S:cC}{cs:List Value}{d:gR}(h:aN.rd S w cs d):cs=[VI d.Key,VI d.dC,VI d.Next]:=by obtain⟨c0,r0,e0,h0,n0⟩:=h;have q0:c0=[_]:=h0;obtain⟨c1,r1,e1,h1,n1⟩:=n0;have q1:c1=[_]:=h1;have q2:r1=[_]:=n1;exact by rw[e0,e1,q0,q1,q2];rfl
theorem a70{S:cC}(d:gR):aN.rd S w [VI d.Key,VI d.dC,VI d.Next] d:=⟨[VI d.Key],[VI d.dC,VI d.Next],rfl,rfl,⟨[VI d.dC],[VI d.Next],rfl,rfl,rfl⟩⟩
instance:Flat gR:=⟨λh=>Flat.own_of (O:=Int×Int×Int) h,λh=>Flat.no (O:=Int×Int×Int) h⟩
structure Sub where
 Kind:Int
 A:Int
 Pc:Int
 E:Int
 Row:Int
 B:Int
 H:Int
 Out:Int
 Code:Int
 gX:Bool
 deriving DecidableEq,Inhabited
abbrev bFV(d:Sub):=(d.Kind,d.A,d.Pc,d.E,d.Row,d.B,d.H,d.Out,d.Code,d.gX)
instance:aN Sub:=aN.via bFV
instance:Fits Sub:=Fits.via bFV
theorem bH0{S:cC}{cs:List Value}{d:Sub}(h:aN.rd S w cs d):cs=[VI d.Kind,VI d.A,VI d.Pc,VI d.E,VI d.Row,VI d.B,VI d.H,VI d.Out,VI d.Code,.bool d.gX]:=by obtain⟨c0,r0,e0,h0,n0⟩:=h;have q0:c0=[_]:=h0;obtain⟨c1,r1,e1,h1,n1⟩:=n0;have q1:c1=[_]:=h1;obtain⟨c2,r2,e2,h2,n2⟩:=n1;have q2:c2=[_]:=h2;obtain⟨c3,r3,e3,h3,n3⟩:=n2;have q3:c3=[_]:=h3;obtain⟨c4,r4,e4,h4,n4⟩:=n3;have q4:c4=[_]:=h4;obtain⟨c5,r5,e5,h5,n5⟩:=n4;have q5:c5=[_]:=h5;obtain⟨c6,r6,e6,h6,n6⟩:=n5;have q6:c6=[_]:=h6;obtain⟨c7,r7,e7,h7,n7⟩:=n6;have q7:c7=[_]:=h7;obtain⟨c8,r8,e8,h8,n8⟩:=n7;have q8:c8=[_]:=h8;have q9:r8=[_]:=n8;exact by rw[e0,e1,e2,e3,e4,e5,e6,e7,e8,q0,q1,q2,q3,q4,q5,q6,q7,q8,q9];rfl
theorem bH1{S:cC}(d:Sub):aN.rd S w [VI d.Kind,VI d.A,VI d.Pc,VI d.E,VI d.Row,VI d.B,VI d.H,VI d.Out,VI d.Code,.bool d.gX] d:=⟨[VI d.Kind],[VI d.A,VI d.Pc,VI d.E,VI d.Row,VI d.B,VI d.H,VI d.Out,VI d.Code,.bool d.gX],rfl,rfl,⟨[VI d.A],[VI d.Pc,VI d.E,VI d.Row,VI d.B,VI d.H,VI d.Out,VI d.Code,.bool d.gX],rfl,rfl,⟨[VI d.Pc],[VI d.E,VI d.Row,VI d.B,VI d.H,VI d.Out,VI d.Code,.bool d.gX],rfl,rfl,⟨[VI d.E],[VI d.Row,VI d.B,VI d.H,VI d.Out,VI d.Code,.bool d.gX],rfl,rfl,⟨[VI d.Row],[VI d.B,VI d.H,VI d.Out,VI d.Code,.bool d.gX],rfl,rfl,⟨[VI d.B],[VI d.H,VI d.Out,VI d.Code,.bool d.gX],rfl,rfl,⟨[VI d.H],[VI d.Out,VI d.Code,.bool d.gX],rfl,rfl,⟨[VI d.Out],[VI d.Code,.bool d.gX],rfl,rfl,⟨[VI d.Code],[.bool d.gX],rfl,rfl,rfl⟩⟩⟩⟩⟩⟩⟩⟩⟩
instance:Flat Sub:=⟨λh=>Flat.own_of (O:=Int×Int×Int×Int×Int×Int×Int×Int×Int×Bool) h,λh=>Flat.no (O:=Int×Int×Int×Int×Int×Int×Int×Int×Int×Bool) h⟩
structure Seen where
 bW:Int
 eO:Int
 deriving DecidableEq,Inhabited
abbrev aXF(d:Seen):=(d.bW,d.eO)
instance:aN Seen:=aN.via aXF
instance:Fits Seen:=Fits.via aXF
theorem bC5{S:cC}{cs:List Value}{d:Seen}(h:aN.rd S w cs d):cs=[VI d.bW,VI d.eO]:=by obtain⟨c0,r0,e0,h0,n0⟩:=h;have q0:c0=[_]:=h0;have q1:r0=[_]:=n0;exact by rw[e0,q0,q1];rfl
instance:Flat Seen:=⟨λh=>Flat.own_of (O:=Int×Int) h,λh=>Flat.no (O:=Int×Int) h⟩
theorem bC6(d:Seen):OP [VI d.bW,VI d.eO] d []:=(show OP _ (aXF d) _ from(eT (c1:=[VI d.bW]) (A:=[]) (eC rfl) (eC rfl) rfl))
structure aU where
 Key:Int
 G6:Bool
 dC:Int
 deriving DecidableEq,Inhabited
abbrev aRC(d:aU):=(d.Key,d.G6,d.dC)
instance:aN aU:=aN.via aRC
instance:Fits aU:=Fits.via aRC
theorem a71{S:cC}{cs:List Value}{d:aU}(h:aN.rd S w cs d):cs=[VI d.Key,.bool d.G6,VI d.dC]:=by obtain⟨c0,r0,e0,h0,n0⟩:=h;have q0:c0=[_]:=h0;obtain⟨c1,r1,e1,h1,n1⟩:=n0;have q1:c1=[_]:=h1;have q2:r1=[_]:=n1;exact by rw[e0,e1,q0,q1,q2];rfl
theorem a72{S:cC}(d:aU):aN.rd S w [VI d.Key,.bool d.G6,VI d.dC] d:=⟨[VI d.Key],[.bool d.G6,VI d.dC],rfl,rfl,⟨[.bool d.G6],[VI d.dC],rfl,rfl,rfl⟩⟩
instance:Flat aU:=⟨λh=>Flat.own_of (O:=Int×Bool×Int) h,λh=>Flat.no (O:=Int×Bool×Int) h⟩
theorem a73(d:aU):OP [VI d.Key,.bool d.G6,VI d.dC] d []:=(show OP _ (aRC d) _ from(eT (c1:=[VI d.Key]) (A:=[]) (eC rfl) (eT (c1:=[.bool d.G6]) (A:=[]) (eC rfl) (eC rfl) rfl) rfl))
structure hU where
 Is:Bool
 dC:Int
 deriving DecidableEq,Inhabited
abbrev a74(d:hU):=(d.Is,d.dC)
instance:aN hU:=aN.via a74
instance:Fits hU:=Fits.via a74
theorem bH2{S:cC}{cs:List Value}{d:hU}(h:aN.rd S w cs d):cs=[.bool d.Is,VI d.dC]:=by obtain⟨c0,r0,e0,h0,n0⟩:=h;have q0:c0=[_]:=h0;have q1:r0=[_]:=n0;exact by rw[e0,q0,q1];rfl
instance:Flat hU:=⟨λh=>Flat.own_of (O:=Bool×Int) h,λh=>Flat.no (O:=Bool×Int) h⟩
theorem bH3(d:hU):OP [.bool d.Is,VI d.dC] d []:=(show OP _ (a74 d) _ from(eT (c1:=[.bool d.Is]) (A:=[]) (eC rfl) (eC rfl) rfl))
structure aI where
 bQ:Bool
 Batch:Batch
 aG:Int
 Pc:Int
 At:Int
 K:Int
 bW:Int
 eO:Int
 H:Int
 gT:Int
 Node:gR
 Found:Bool
 Code:Int
 Sub:Sub
 Reads:List Seen
 aH:List aU
 hU:List hU
 gL:List Int
 bE:List Int
 cB:List Int
 deriving DecidableEq,Inhabited
abbrev aXG(d:aI):=(d.bQ,d.Batch,d.aG,d.Pc,d.At,d.K,d.bW,d.eO,d.H,d.gT,d.Node,d.Found,d.Code,d.Sub,d.Reads,d.aH,d.hU,d.gL,d.bE,d.cB)
instance:aN aI:=aN.via aXG
instance:Fits aI:=Fits.via aXG
theorem bC7{S:cC}{cs:List Value}{d:aI}(h:aN.rd S w cs d):∃v0 v1 v2 v3 v4 v5 v6:Value,cs=[.bool d.bQ,.bool d.Batch.Collect,v0,VI d.aG,VI d.Pc,VI d.At,VI d.K,VI d.bW,VI d.eO,VI d.H,VI d.gT,VI d.Node.Key,VI d.Node.dC,VI d.Node.Next,.bool d.Found,VI d.Code,VI d.Sub.Kind,VI d.Sub.A,VI d.Sub.Pc,VI d.Sub.E,VI d.Sub.Row,VI d.Sub.B,VI d.Sub.H,VI d.Sub.Out,VI d.Sub.Code,.bool d.Sub.gX,v1,v2,v3,v4,v5,v6]/\aN.rd S w [v0] d.Batch.bN/\aN.rd S w [v1] d.Reads/\aN.rd S w [v2] d.aH/\aN.rd S w [v3] d.hU/\aN.rd S w [v4] d.gL/\aN.rd S w [v5] d.bE/\aN.rd S w [v6] d.cB:=by obtain⟨c0,r0,e0,h0,n0⟩:=h;have q0:c0=[_]:=h0;obtain⟨c1,r1,e1,h1,n1⟩:=n0;obtain⟨u1_0,q1,hq1_0⟩:=aT4 h1;obtain⟨c2,r2,e2,h2,n2⟩:=n1;have q2:c2=[_]:=h2;obtain⟨c3,r3,e3,h3,n3⟩:=n2;have q3:c3=[_]:=h3;obtain⟨c4,r4,e4,h4,n4⟩:=n3;have q4:c4=[_]:=h4;obtain⟨c5,r5,e5,h5,n5⟩:=n4;have q5:c5=[_]:=h5;obtain⟨c6,r6,e6,h6,n6⟩:=n5;have q6:c6=[_]:=h6;obtain⟨c7,r7,e7,h7,n7⟩:=n6;have q7:c7=[_]:=h7;obtain⟨c8,r8,e8,h8,n8⟩:=n7;have q8:c8=[_]:=h8;obtain⟨c9,r9,e9,h9,n9⟩:=n8;have q9:c9=[_]:=h9;obtain⟨c10,r10,e10,h10,n10⟩:=n9;have q10:=a7Z h10;obtain⟨c11,r11,e11,h11,n11⟩:=n10;have q11:c11=[_]:=h11;obtain⟨c12,r12,e12,h12,n12⟩:=n11;have q12:c12=[_]:=h12;obtain⟨c13,r13,e13,h13,n13⟩:=n12;have q13:=bH0 h13;obtain⟨c14,r14,e14,h14,n14⟩:=n13;obtain⟨u14,q14⟩:=kK h14;rw[q14] at h14;obtain⟨c15,r15,e15,h15,n15⟩:=n14;obtain⟨u15,q15⟩:=kK h15;rw[q15] at h15;obtain⟨c16,r16,e16,h16,n16⟩:=n15;obtain⟨u16,q16⟩:=kK h16;rw[q16] at h16;obtain⟨c17,r17,e17,h17,n17⟩:=n16;obtain⟨u17,q17⟩:=kK h17;rw[q17] at h17;obtain⟨c18,r18,e18,h18,n18⟩:=n17;obtain⟨u18,q18⟩:=kK h18;rw[q18] at h18;obtain⟨u19,q19⟩:=kK n18;rw[q19] at n18;exact⟨u1_0,u14,u15,u16,u17,u18,u19,by rw[e0,e1,e2,e3,e4,e5,e6,e7,e8,e9,e10,e11,e12,e13,e14,e15,e16,e17,e18,q0,q1,q2,q3,q4,q5,q6,q7,q8,q9,q10,q11,q12,q13,q14,q15,q16,q17,q18,q19];rfl,hq1_0,h14,h15,h16,h17,h18,n18⟩
theorem a0T(d:aI){v1:Value}{v2:Value}{v3:Value}{v4:Value}{v5:Value}{v6:Value}:OP [.bool d.bQ,.bool d.Batch.Collect,v0,VI d.aG,VI d.Pc,VI d.At,VI d.K,VI d.bW,VI d.eO,VI d.H,VI d.gT,VI d.Node.Key,VI d.Node.dC,VI d.Node.Next,.bool d.Found,VI d.Code,VI d.Sub.Kind,VI d.Sub.A,VI d.Sub.Pc,VI d.Sub.E,VI d.Sub.Row,VI d.Sub.B,VI d.Sub.H,VI d.Sub.Out,VI d.Sub.Code,.bool d.Sub.gX,v1,v2,v3,v4,v5,v6] d [eU [v0] d.Batch.bN,eU [v1] d.Reads,eU [v2] d.aH,eU [v3] d.hU,eU [v4] d.gL,eU [v5] d.bE,eU [v6] d.cB]:=(show OP _ (aXG d) _ from(eT (c1:=[.bool d.bQ]) (A:=[]) (eC rfl) (eT (c1:=[.bool d.Batch.Collect,v0]) (A:=[eU [v0] d.Batch.bN]) (aT5 _) (eT (c1:=[VI d.aG]) (A:=[]) (eC rfl) (eT (c1:=[VI d.Pc]) (A:=[]) (eC rfl) (eT (c1:=[VI d.At]) (A:=[]) (eC rfl) (eT (c1:=[VI d.K]) (A:=[]) (eC rfl) (eT (c1:=[VI d.bW]) (A:=[]) (eC rfl) (eT (c1:=[VI d.eO]) (A:=[]) (eC rfl) (eT (c1:=[VI d.H]) (A:=[]) (eC rfl) (eT (c1:=[VI d.gT]) (A:=[]) (eC rfl) (eT (c1:=[VI d.Node.Key,VI d.Node.dC,VI d.Node.Next]) (A:=[]) (eC (a70 _)) (eT (c1:=[.bool d.Found]) (A:=[]) (eC rfl) (eT (c1:=[VI d.Code]) (A:=[]) (eC rfl) (eT (c1:=[VI d.Sub.Kind,VI d.Sub.A,VI d.Sub.Pc,VI d.Sub.E,VI d.Sub.Row,VI d.Sub.B,VI d.Sub.H,VI d.Sub.Out,VI d.Sub.Code,.bool d.Sub.gX]) (A:=[]) (eC (bH1 _)) (eT (c1:=[v1]) (A:=[eU [v1] d.Reads]) HO (eT (c1:=[v2]) (A:=[eU [v2] d.aH]) HO (eT (c1:=[v3]) (A:=[eU [v3] d.hU]) HO (eT (c1:=[v4]) (A:=[eU [v4] d.gL]) HO (eT (c1:=[v5]) (A:=[eU [v5] d.bE]) HO HO rfl) rfl) rfl) rfl) rfl) rfl) rfl) rfl) rfl) rfl) rfl) rfl) rfl) rfl) rfl) rfl) rfl) rfl) rfl))
structure j7 where
 Kind:Int
 Who:Int
 aG:Int
 Code:Int
 bN:List eJ
 hU:List hU
 deriving DecidableEq,Inhabited
abbrev a75(d:j7):=(d.Kind,d.Who,d.aG,d.Code,d.bN,d.hU)
instance:aN j7:=aN.via a75
instance:Fits j7:=Fits.via a75
theorem bH4{S:cC}{cs:List Value}{d:j7}(h:aN.rd S w cs d):∃v0 v1:Value,cs=[VI d.Kind,VI d.Who,VI d.aG,VI d.Code,v0,v1]/\aN.rd S w [v0] d.bN/\aN.rd S w [v1] d.hU:=by obtain⟨c0,r0,e0,h0,n0⟩:=h;have q0:c0=[_]:=h0;obtain⟨c1,r1,e1,h1,n1⟩:=n0;have q1:c1=[_]:=h1;obtain⟨c2,r2,e2,h2,n2⟩:=n1;have q2:c2=[_]:=h2;obtain⟨c3,r3,e3,h3,n3⟩:=n2;have q3:c3=[_]:=h3;obtain⟨c4,r4,e4,h4,n4⟩:=n3;obtain⟨u4,q4⟩:=kK h4;rw[q4] at h4;obtain⟨u5,q5⟩:=kK n4;rw[q5] at n4;exact⟨u4,u5,by rw[e0,e1,e2,e3,e4,q0,q1,q2,q3,q4,q5];rfl,h4,n4⟩
theorem bH5(d:j7){v1:Value}:OP [VI d.Kind,VI d.Who,VI d.aG,VI d.Code,v0,v1] d [eU [v0] d.bN,eU [v1] d.hU]:=(show OP _ (a75 d) _ from(eT (c1:=[VI d.Kind]) (A:=[]) (eC rfl) (eT (c1:=[VI d.Who]) (A:=[]) (eC rfl) (eT (c1:=[VI d.aG]) (A:=[]) (eC rfl) (eT (c1:=[VI d.Code]) (A:=[]) (eC rfl) (eT (c1:=[v0]) (A:=[eU [v0] d.bN]) HO HO rfl) rfl) rfl) rfl) rfl))
structure Table where
 aA:aA
 aR:List bW
 aS:List aI
 fI:List aJ
 Log:List j7
 aG:Int
 deriving DecidableEq,Inhabited
abbrev a0U(d:Table):=(d.aA,d.aR,d.aS,d.fI,d.Log,d.aG)
instance:aN Table:=aN.via a0U
instance:Fits Table:=Fits.via a0U
structure KV where
 Key:Int
 dC:Int
 deriving DecidableEq,Inhabited
abbrev bH6(d:KV):=(d.Key,d.dC)
instance:aN KV:=aN.via bH6
instance:Fits KV:=Fits.via bH6
theorem bK0{S:cC}{cs:List Value}{d:KV}(h:aN.rd S w cs d):cs=[VI d.Key,VI d.dC]:=by obtain⟨c0,r0,e0,h0,n0⟩:=h;have q0:c0=[_]:=h0;have q1:r0=[_]:=n0;exact by rw[e0,q0,q1];rfl
theorem bK1{S:cC}(d:KV):aN.rd S w [VI d.Key,VI d.dC] d:=⟨[VI d.Key],[VI d.dC],rfl,rfl,rfl⟩
instance:Flat KV:=⟨λh=>Flat.own_of (O:=Int×Int) h,λh=>Flat.no (O:=Int×Int) h⟩
theorem bK2(d:KV):OP [VI d.Key,VI d.dC] d []:=(show OP _ (bH6 d) _ from(eT (c1:=[VI d.Key]) (A:=[]) (eC rfl) (eC rfl) rfl))
end Go.Gv
end
