import Derived.Test.YtkinioiglogchaaGreatXUA
import Derived.RangeFuncWrites
import Derived.RangeFuncBox
import Derived.RangeFuncLeaves
import Derived.Shelf.Abstract
import Derived.WalkKit
import Derived.OwnWalkIn
import Derived.TacticsInMore
import Derived.LoopNIn
import Derived.LoopIn
import Derived.Shelf.Slices.CompactI
import Derived.Shelf.Spec.SlicesInsertGrow
set_option linter.unusedVariables false
set_option linter.unusedSimpArgs false
set_option linter.unusedSectionVars false
set_option linter.constructorNameAsVariable false
set_option linter.unnecessarySimpa false
noncomputable section
namespace Go.Gv
variable{B B0 Bs:Bl}{b1 b2:Bool}{z:Ch}{y:Code}{c:Ctx}{fn:Func}{g:FuncId}{i:Int}{L L1 M:List Ch}{A:List Chunk}{R:List Fact}{rs:List ResultVar}{c2 cs0 xs z1 z2:List SV}{ec vs:List Value}{el id j k m mj n n0 n1 nb sz t t2:Nat}{x:Operand}{C:Prop}{e e1:SE}{Ta Tb Tc Td Te Tf Tg Th Ti:Sort _}{O ex β π ρ σ υ:Type}{w:World}
section
variable {P:Program} {T:TT} {hT:ED P T} {n:Nat} {c:Ctx} {B0:Bl} {N:Act->World->Prop} {X:Nat->Act->World->Prop} {Q:Act->World->Prop} {K K':List Fr} {m m':Nat} {e e':SE} {L L':List Ch} {cf cf1 cf2:uH} {o:Oper} {Lv:List Ch} {d:Nat}
theorem ext_nil:cf.ext []=cf:=by cases cf<;>simp[uH.ext]
theorem pu{x:SV}(hs:opS (jE T n K cf m e L)=some (o,Lv,cf1,cf2,K',m',e',L'))(hd:o.dst=some d)(hv:∀B a w,gP n B e' a->kX c w B Lv->∃v,fB B x=some v/\eR P o (vE B e') w v w)
  (k:G (.mk P T hT n c B0 N X Q) K' m' ((d,x)::e') L' cf2):G (.mk P T hT n c B0 N X Q) K m e L cf:=by
 refine gQ (g:=.mk P T hT n c B0 N X Q) ?_;have key:aCL (.mk P T hT n c B0 N X Q) K' m' e' L' o Lv cf1 cf2->G (.mk P T hT n c B0 N X Q) K' m' e' L' cf1:=λhP=>by refine hP d x [] (λ_=>[]) 0 hd (λ_=>rfl) (λB a w hA hS _=>?_) (λB w L _ hS=>aj) (by grind[ext_nil]);grind
 generalize jE T n K cf m e L=s at hs;cases s<;>simp only[opS] at hs<;>cases hs
 ·exact λ_ hP=>key hP
 ·exact λ_ hP _=>key hP
theorem wT{k:IntKind}{a:Act}(hA:gP n B e a)(h:(iO e x).bind qY=some (k,i)):ev (vE B e) x=some (.int k i):=by
 cases hx:iO e x with
 |none=>grind
 |some y=>
  grind[eD,aXE]
section
variable {x y:Operand} {t z:TypeId} {k:IntKind} {i j:Int} {O:Type} {A:Option O} {q:O}
theorem bM5(hs:opS (jE T n K cf m e L)=some (o,Lv,cf1,cf2,K',m',e',L'))(ho:(o.op,o.dst)=(.binOp .quo t x y z,some d))(hx:(iO e' x).bind qY=some (k,i))(hy:(iO e' y).bind qY=some (k,j))(hF:need (j≠0) A=some q)
  (kk:A=some q->G (.mk P T hT n c B0 N X Q) K' m' ((d,.i k (k.wrap (i.tdiv j)))::e') L' cf2):G (.mk P T hT n c B0 N X Q) K m e L cf:=
 pu hs (cA Prod.snd ho) (λB a w hA _=>⟨_,rfl,aW3 (cA Prod.fst ho) (wT hA hx) (wT hA hy) (lX hF).1⟩) (kk (lX hF).2)
theorem bKH(hs:opS (jE T n K cf m e L)=some (o,Lv,cf1,cf2,K',m',e',L'))(ho:(o.op,o.dst)=(.binOp .rem t x y z,some d))(hx:(iO e' x).bind qY=some (k,i))(hy:(iO e' y).bind qY=some (k,j))(hF:need (j≠0) A=some q)
  (kk:A=some q->G (.mk P T hT n c B0 N X Q) K' m' ((d,.i k (i.tmod j))::e') L' cf2):G (.mk P T hT n c B0 N X Q) K m e L cf:=
 pu hs (cA Prod.snd ho) (λB a w hA _=>⟨_,rfl,aW4 (cA Prod.fst ho) (wT hA hx) (wT hA hy) (lX hF).1⟩) (kk (lX hF).2)
theorem bHT{x:Operand}{l:List UInt8}{a:Act}(hA:gP n B e a)(h:iO e x=some (.s l)):ev (vE B e) x=some (sv l):=by obtain⟨v,h1,h2⟩:=eD hA h;cases h1;exact h2
theorem cat{p r:List UInt8}(hs:opS (jE T n K cf m e L)=some (o,Lv,cf1,cf2,K',m',e',L'))(ho:(o.op,o.dst)=(.binOp .add t x y z,some d))(hx:iO e' x=some (.s p))(hy:iO e' y=some (.s r))(hF:need (p.length+r.length<=9223372036854775807) A=some q)
  (kk:A=some q->G (.mk P T hT n c B0 N X Q) K' m' ((d,.s (p++r))::e') L' cf2):G (.mk P T hT n c B0 N X Q) K m e L cf:=
 pu hs (cA Prod.snd ho) (λB a w hA _=>⟨_,rfl,bG3 (cA Prod.fst ho) (bHT hA hx) (bHT hA hy) (lX hF).1⟩) (kk (lX hF).2)
theorem bCW{x:Operand}{cs:List SV}{a:Act}(hA:gP n B e a)(h:(iO e x).map nbS=some (.g cs))(hv:aU (bL []) cs=some vs):ev (vE B e) x=some (.agg vs.toArray):=by
 cases hx:iO e x with
 |none=>grind
 |some y=>
  rw[hx] at h;simp at h;obtain⟨v,h1,h2⟩:=eD hA hx;rw[h2,<-h1,<-aIV,h];simp only[fB,gV];have:=eV (g:=bL B) (λx v h=>by simpa using gA (B:=[]) B h) hv;rw[this]
theorem eqS{ys:List SV}{vx vy:List Value}{fs:Array Field}{b:Bool}(hg:P.eqGuardType P.depth t=false)(hst:P.stoodInHeld t=false)(hu:P.underlying t=some (.struct fs))(hb:∀w,(Op.eqFields 9999 vx.toArray vy.toArray (match P.underlying t with|some (.struct fs)=>fs|_=>#[]).toList).run P w=.ok b w)(hs:opS (jE T n K cf m e L)=some (o,Lv,cf1,cf2,K',m',e',L'))(ho:(o.op,o.dst)=(.binOp .eql t x y z,some d))(hx:(iO e' x).map nbS=some (.g xs))(hy:(iO e' y).map nbS=some (.g ys))(hvx:aU (bL []) xs=some vx)(hvy:aU (bL []) ys=some vy)
  (kk:G (.mk P T hT n c B0 N X Q) K' m' ((d,.b b)::e') L' cf2):G (.mk P T hT n c B0 N X Q) K m e L cf:=
 pu hs (cA Prod.snd ho) (λB a w hA _=>⟨_,rfl,bG8 hg hst hu hb (cA Prod.fst ho) (bCW hA hx hvx) (bCW hA hy hvy)⟩) kk
theorem neS{ys:List SV}{vx vy:List Value}{fs:Array Field}{b:Bool}(hg:P.eqGuardType P.depth t=false)(hst:P.stoodInHeld t=false)(hu:P.underlying t=some (.struct fs))(hb:∀w,(Op.eqFields 9999 vx.toArray vy.toArray (match P.underlying t with|some (.struct fs)=>fs|_=>#[]).toList).run P w=.ok b w)(hs:opS (jE T n K cf m e L)=some (o,Lv,cf1,cf2,K',m',e',L'))(ho:(o.op,o.dst)=(.binOp .neq t x y z,some d))(hx:(iO e' x).map nbS=some (.g xs))(hy:(iO e' y).map nbS=some (.g ys))(hvx:aU (bL []) xs=some vx)(hvy:aU (bL []) ys=some vy)
  (kk:G (.mk P T hT n c B0 N X Q) K' m' ((d,.b (!b))::e') L' cf2):G (.mk P T hT n c B0 N X Q) K m e L cf:=
 pu hs (cA Prod.snd ho) (λB a w hA _=>⟨_,rfl,bBY hg hst hu hb (cA Prod.fst ho) (bCW hA hx hvx) (bCW hA hy hvy)⟩) kk
theorem TJ{O:Type}[aM O]:bI (dQ w) ⟨none,0⟩ ([]:List O):=bG7
theorem cl0{O:Type}{fo:Option O}{kf:O->Option β}{q:β}{f:FuncId}{sv:O->SV}(hs:jE T n K cf m e L=.call o (some d) f xs cf1 cf2 K' m' e' L')
  (hc:∀{w},HS c w L'->∀{x},fo=some x->Fn0 P f (dQ w) xs sv x) (hF:fo.bind kf=some q)
  (k:∀x,fo=some x->kf x=some q->G (.mk P T hT n c B0 N X Q) K' m' ((d,sv x)::e') L' cf2):G (.mk P T hT n c B0 N X Q) K m e L cf:=
 cl (Lf:=λ_ _=>[]) hs (λ_ _=>rfl) (λh=>hc h) hF (λx hx hk _=>aj)
theorem lr{O:Type}{y:Code}{fb:σ->Option (Step σ ρ)}{s0:σ}{gk:ρ->Option O}{q:O}(u0:υ)(ks:List Nat)(el:σ->υ->SE)(is0 is:List Nat)(Ll:σ->υ->List Ch)
  (hs:jE T n K cf m e L=.loop id y K' m' e' L') (hF:(loop fb s0).bind gk=some q)
  (h0:Y8 B0.length m' e' L' is0 m' (el s0 u0++kp e' ks) (Ll s0 u0++kl L' is)=some (el s0 u0++kp e' ks,Ll s0 u0++kl L' is))
  (k1:∀ro,gk ro=some q->∀s u o,fb s=some o->(∀p,o=.stop p->p=ro)->G (.mk P T hT n c B0 (NxP n c B0 o m' (λs u=>el s u++kp e' ks) (λs u=>Ll s u++kl L' is)) (BkP n c B0 ro (λb:Empty=>nomatch b) m' (λ(b:Empty) (_:Unit)=>nomatch b) (λb _=>nomatch b) id (XK (.mk P T hT n c B0 N X Q) K')) Q) [] m' (el s u++kp e' ks) (Ll s u++kl L' is) (.c y)):G (.mk P T hT n c B0 N X Q) K m e L cf:=
 lp (β:=Empty) (ω:=Unit) u0 ks el is0 is Ll (λb=>nomatch b) [] (λb=>nomatch b) [] (λb=>nomatch b) hs hF h0 (λro hro s u o hb ho=>by
  have:=k1 ro hro s u o hb ho;have h1:(λ(b:Empty) (u:Unit)=>((λb=>nomatch b:Empty->Unit->SE) b u++kp e' []))=(λ(b:Empty) (_:Unit)=>nomatch b):=funext λb=>nomatch b
  have h2:(λ(b:Empty) (u:Unit)=>((λb=>nomatch b:Empty->Unit->List Ch) b u++kl L' []))=(λ(b:Empty) (_:Unit)=>nomatch b):=funext λb=>nomatch b
  simp_all) (λb=>nomatch b)
end
end
section
variable {P:Program} {T:TT} {hT:ED P T} {n:Nat} {c:Ctx} {B0:Bl} {N:Act->World->Prop} {X:Nat->Act->World->Prop} {Q:Act->World->Prop} {K K':List Fr} {m m':Nat} {e e':SE} {L L':List Ch} {cf cf1 cf2:uH} {o:Oper} {Lv:List Ch} {d:Nat}
def WQ(P:Program)(c:Ctx){O β:Type}{iR:aM O}(C:CZ O)(sr:β->SV)(g:FuncId)(cap:List Value)(p:O->Option β):Prop:=
 (∀args w,(callFunc g args).run P w=.ok (.enter g args) w)/\∀w,eC c.W c.w0 w->∀x y,C.sub (Y5 w) w x y->∀q,p x=some q->∀v,fB [] (C.sv x y)=some v->Calls P g (v::cap).toArray w (Ret λu w'=>fB [] (sr q)=some u/\kX (dQ w) w' [] [])
def Fu2(P:Program)(c:Ctx){O α' β:Type}{iR:aM O}{iR':aM α'}(C:CZ O)(C':CZ α')(sr:β->SV)(g:FuncId)(cap:List Value)(p:O->α'->Option β):Prop:=
 (∀args w,(callFunc g args).run P w=.ok (.enter g args) w)/\∀w,eC c.W c.w0 w->∀x y x' y',C.sub (Y5 w) w x y->C'.sub (Y5 w) w x' y'->∀q,p x x'=some q->∀v v',fB [] (C.sv x y)=some v->fB [] (C'.sv x' y')=some v'->Calls P g (v::v'::cap).toArray w (Ret λu w'=>fB [] (sr q)=some u/\kX (dQ w) w' [] [])
theorem a61{iR:aM O}(C:CZ O)(hS:kX c w B L){x:O}{y:C.ex}(h:C.sub c.S0 c.w0 x y):C.sub (Y5 w) w x y:=by refine C.bM4 h (λb o hb=>?_) (aXJ hS);obtain⟨⟨R,s1,_⟩,s0⟩:=hS;exact s1.keep.cell b o (s0 b o hb) λhw=>s1.apart b o hw hb
theorem kX.a62(hS:kX c w B L):eC c.W c.w0 w:=by obtain⟨⟨R,s1,_⟩,s0⟩:=hS;exact s1.keep
section
variable {O α' β γ:Type} {iR:aM O} {iR':aM α'} {C:CZ O} {C':CZ α'} {sr:β->SV} {g:FuncId} {cap:List Value} {q:γ} {kf:β->Option γ} {fo:Operand} {args:Array Operand} {ats:Array TypeId}
theorem a63{f:FuncId}{ts:Array TypeId}{E:Env}(hcall:∀args w,(callFunc f args).run P w=.ok (.enter f args) w)(ho:o.op=.call {callee:=.value x,args:=args,argTypes:=ts})(hx:ev E x=some (.func (.func f) #[] cap.toArray))(hv:evs E args.toList=some vs):bGO P o E w f (vs++cap).toArray:=
 aTQ (w:=w) (cap:=cap) (xs:=args.toList) (vs:=vs) hcall aa hx hv
theorem aP0{x:SV}{v:Value}(h:yQ 0 x=true)(hv:fB B x=some v):fB [] x=some v:=by have:=TH h hv;grind
theorem fa1{p:O->Option β}(H:WQ P c C sr g cap p)(x:O)(y:C.ex)(hs:jE T n K cf m e L=.op o Lv cf1 cf2 K' m' e' L')(ho:(o.op,o.dst)=(.call {callee:=.value fo,args:=args,argTypes:=ats},some d))(hf:iO e' fo=some (.k (.func (.func g) #[] cap.toArray)))(hx:(aU (iO e') args.toList).map nbT=some [C.sv x y])(hz:yQ 0 (C.sv x y)=true)(hy:C.sub c.S0 c.w0 x y)(hF:(p x).bind kf=some q)
  (k:∀z,p x=some z->kf z=some q->G (.mk P T hT n c B0 N X Q) K' m' ((d,sr z)::e') L' cf2):G (.mk P T hT n c B0 N X Q) K m e L cf:=by
 refine gQ (g:=.mk P T hT n c B0 N X Q) ?_;rw[hs];intro hdn _ hE;obtain⟨hcall,hrun⟩:=H;cases hp:p x with
 |none=>grind
 |some z=>
  rw[hp] at hF;refine hE Unit (λ_=>m') (λ_=>(d,sr z)::e') (λ_=>L') (λ_=>by simpa using sS (L:=L') []) (λB a w next Q' hm hA hS hnext=>?_) (λ_=>k z hp hF);cases hys:aU (iO e') args.toList with
  |none=>grind
  |some ys=>
   rw[hys] at hx;simp at hx;obtain⟨vs,h1,h2⟩:=aAD hA hys;obtain⟨u,h3,h4⟩:=eD hA hf;simp only[fB,gV,bL] at h3;split at h3
   ·cases h3;rw[<-a0B,hx] at h1;simp only[aU] at h1;cases hv:fB (WX (.mk P T hT n c B0 N X Q) cf1++B) (C.sv x y) with
    |none=>grind
    |some v=>
     rw[hv] at h1;cases h1;have h6:=a63 (w:=w) hcall (cA Prod.fst ho) h4 h2;have hd:o.dst=some d:=cA Prod.snd ho;unfold Oper.wp;rw[h6 _ a hA.env,Oper.upon_enter];refine Calls.mono (hrun w hS.a62 x y (a61 C hS hy) z hp v (aP0 hz hv)) λen w' ⟨v',hv',g1,g2⟩=>?_;subst hv';rw[hd] at hdn ⊢;have g3:=vZ (WX (.mk P T hT n c B0 N X Q) cf1++B) g1;exact hnext () _ _ ⟨[],aj,by simpa using hA.of aj (hA.env.put (by grind[qI,vX]) v'),by simpa using hS.after (L2:=[]) rfl g2⟩
   ·cases h3
theorem fu1{p:O->Option β}(hc:∀args w,(callFunc g args).run P w=.ok (.enter g args) w)(hn:∀{U:Ctx} {x y},C.sub U.S0 U.w0 x y->∀{q},p x=some q->Fn0 P g U [C.sv x y] sr q):WQ P (dQ w) C sr g [] p:=
 ⟨hc,λw1 _ x y hy q hq v hv=>by
  refine Calls.mono ((hn (U:=dQ w1) hy hq).run [v] (by simp[aU,hv]) (aRH w1)) λen w' ⟨v',h1,y,h2,h3⟩=>⟨v',h1,h2,h3⟩⟩
end
def roL:Nat->List (Nat×List SV)->List Ch
 |_,[]=>[]
 |k,(_,cs)::r=>.ro k cs::roL (k+1) r
def roS:List (Nat×List SV)->List Ch
 |[]=>[]
 |(n,cs)::r=>.ro n cs::roS r
def a64:Nat->List (Nat×List SV)->List SV
 |_,[]=>[]
 |k,_::r=>.p k 0::a64 (k+1) r
def OF(Bs:Bl):List Value:=Bs.map λb=>.pointer (some ⟨b.1,b.2,none⟩)
theorem rk[aM O]{w1:World}{s:AC}{l:List O}(hk:eC F0 w w1)(h:bI (dQ w) s l):bI (dQ w1) s l:=
 aM.rd_mono (aM.rd_agree h λb o hb=>hk.cell b o hb λh=>h) λb o hb=>HE hb hk.size
theorem fk1{iR:aM O}{C:CZ O}{sr:β->SV}{cs:List (Nat×List SV)}{p:O->Option β}(hc:∀args w,(callFunc g args).run P w=.ok (.enter g args) w)(hB:∀w1,eC F0 w w1->kX (dQ w1) w1 Bs (roL 0 cs))(hl:aU (fB Bs) (a64 0 cs)=some (OF Bs))(hz:∀q,yQ 0 (sr q)=true)(hn:∀{w1 x y},eC F0 w w1->C.sub (Y5 w1) w1 x y->∀{q},p x=some q->FnS P g (dQ w1) (C.sv x y::a64 0 cs) Bs (roL 0 cs) (λr (_:Unit)=>sr r) (λ_ _=>[]) q):WQ P (dQ w) C sr g (OF Bs) p:=
 ⟨hc,λw1 hk x y hy q hq v hv=>by
  have hv':fB Bs (C.sv x y)=some v:=by simpa using vZ (B:=[]) Bs hv
  refine Calls.mono ((hn hk hy hq).run (v::OF Bs) (by grind[aU]) (hB w1 hk)) λen w' ⟨v',h1,y',h2,h3⟩=>⟨v',h1,?_,?_⟩
  ·grind[aP0]
  ·simpa using aCK (m:=0) h3 rfl⟩
theorem a0I:∀{cs:List (Nat×List SV)} {k:Nat} {x:Ch},x∈roL k cs->∃j n c,cs[j]?=some (n,c)/\x=.ro (k+j) c
 |(n,c)::r,k,x,h=>by
  rcases j3.1 h with h|h
  ·simp_all
  ·obtain⟨j,n',c',h1,h2⟩:=a0I h;exact⟨j+1,n',c',aj,aj⟩
theorem a0J:∀{cs:List (Nat×List SV)} {n:Nat} {c:List SV},(n,c)∈cs->Ch.ro n c∈roS cs
 |(n',c')::r,n,c,h=>by
  rcases j3.1 h with h|h
  ·cases h;exact aAB ..
  ·exact lE _ (a0J h)
theorem a65{cs:List (Nat×List SV)}{cap:List Value}:aU (WC B) (cs.map (·.1))=some cap->∃Bs:Bl,cap=OF Bs/\Bs.length=cs.length/\∀(j:Nat) n c,cs[j]?=some (n,c)->∃b,Bs[j]?=some b/\B[n]?=some b:=by
 induction cs generalizing cap with
 |nil=>intro h;cases h;exact⟨[],rfl,rfl,ae⟩
 |cons p r ih=>
  obtain⟨n,c⟩:=p;intro h;simp only[D9,aU] at h;split at h
  ·cases h
  ·rename_i v hv;split at h
   ·cases h
   ·rename_i vs hvs;cases h;obtain⟨Bs,h1,h2,h3⟩:=ih hvs;simp only[WC] at hv;split at hv
    ·rename_i b z hb;cases hv;refine⟨(b,z)::Bs,by simp[OF,h1],by simp[h2],λj n' c' hj=>?_⟩;grind
    ·cases hv
def aOC:List (Nat×List SV)->Bool
 |[]=>true
 |(_,c)::r=>yQ.okC 0 c && aOC r
theorem aT2:∀{cs:List (Nat×List SV)} {j n:Nat} {c:List SV},aOC cs=true->cs[j]?=some (n,c)->yQ.okC 0 c=true
 |(n',c')::r,0,n,c,h,hj=>by simp_all[aOC]
 |(n',c')::r,j + 1,n,c,h,hj=>by simp only[aOC,wS] at h;exact aT2 h.2 (by simpa using hj)
theorem bHU{cs:List (Nat×List SV)}(hS:kX c w B L)(hk:∀x∈roS cs,x∈L)(ho:aOC cs=true)(hB:∀(j:Nat) n c,cs[j]?=some (n,c)->∃b,Bs[j]?=some b/\B[n]?=some b):∀w1,eC F0 w w1->kX (dQ w1) w1 Bs (roL 0 cs):=by
 intro w1 hkp;have facts:∀x∈roL 0 cs,∃(f:Fact),f.P (Y5 w1) w1/\(∀R,f∈R->roF Bs R x)/\lF Bs x=LN:=by intro x hx;obtain⟨j,n,cc,h1,h2⟩:=a0I hx;subst h2;obtain⟨⟨R,s1,s2⟩,s0⟩:=hS;obtain⟨b,z,vs,g1,g2,g3⟩:=s2 _ (hk _ (a0J (EA h1)));obtain⟨b',q1,q2⟩:=hB j n cc h1;rw[g1] at q2;cases q2;have hc0:=BT (aT2 ho h1) g2;rw[List.take_zero] at hc0;obtain⟨i,hi⟩:=aGC g3;refine⟨fAt b z vs,bFQ (s1.fact i hi) hkp,λR hR=>⟨b,z,vs,by simpa using q1,eV (λx v h=>by simpa using gA (B:=[]) Bs h) hc0,hR⟩,rfl⟩
 have build:∀M:List Ch,(∀x∈M,x∈roL 0 cs)->∃R:List Fact,(∀f∈R,f.P (Y5 w1) w1)/\(∀x∈M,roF Bs R x)/\M.map (lF Bs)=List.replicate M.length LN:=by
  intro M;induction M with
  |nil=>exact λ_=>⟨[],ae,ae,rfl⟩
  |cons x M ih=>
   intro hM;obtain⟨R,h1,h2,h3⟩:=ih λy hy=>hM y (lE _ hy);obtain⟨f,f1,f2,f3⟩:=facts x (hM x ae);refine⟨f::R,λg hg=>?_,λy hy=>?_,by simp[f3,h3,List.replicate_succ]⟩
   ·rcases j3.1 hg with hg|hg
    ·subst hg;exact f1
    ·exact h1 g hg
   ·rcases j3.1 hy with hy|hy
    ·subst hy;exact f2 _ ae
    ·exact aCI (λg hg=>lE _ hg) (h2 y hy)
 obtain⟨R,h1,h2,h3⟩:=build (roL 0 cs) λ_ h=>h;refine⟨⟨R,?_,h2⟩,λ_ _ h=>h⟩;rw[h3];have h4:St (dQ w1) w1 [] R:=St.enter h1;generalize (roL 0 cs).length=k;clear h3;induction k with
 |zero=>exact h4
 |succ k ih=>
  rw[List.replicate_succ'];exact St.more (ch:=LN) ih (eC.refl _ _) ⟨F0,λ_ _ h=>h,λ_ _ h=>h.elim⟩
def shr(ns:List Nat):List Ch->List Ch
 |[]=>[]
 |.box n cs::L=>match fO n ns with
  |true=>.box n cs::shr ns L
  |false=>.ro n cs::shr ns L
 |x::L=>x::shr ns L
theorem St.bHV{M:List Chunk}{b z i:Nat}(h:St c w M R)(hi:M[i]?=some (WO b z vs)):St c w (M.set i LN) (R++[fAt b z vs]):=by
 have h1:=h.take i hi;obtain⟨F,S,⟨F1,F2,h1,h2,hd,hF⟩,a2,a3,a4,a5,a6⟩:=h1.sep;have hlt:∀b' o,F1 b' o->b'<w.heap.size:=λ_ _ hf=>Chunk.lt (WO b z vs) h1 hf;obtain⟨g1,g2,g3⟩:=h1;refine⟨h.keep,⟨F2,λb o=>S b o\/F1 b o,h2,?_,λb o hf=>a3 b o ((hF b o).2 (.inr hf)),?_,?_,?_⟩,h.apart⟩
 ·rintro b o hf (hs|hs)
  ·exact a2 b o ((hF b o).2 (.inr hf)) hs
  ·exact hd b o hs hf
 ·grind
 ·grind
 ·intro f hf;rcases dE.1 hf with hf|hf
  ·exact f.mono (a6 f hf) λb o hs=>.inl hs
  ·simp at hf;subst hf;exact⟨g1,λo ho=>.inr ((g3 b o).2 ho)⟩
theorem aRJ{w:World}{B:Bl}(ns:List Nat):∀(M L:List Ch),kX c w B (M++L)->kX c w B (M++shr ns L)
 |M,[],h=>h
 |M,x::L,h=>by
  have gen:kX c w B (M++x::shr ns L):=by have:=aRJ ns (M++[x]) L (by simpa using h);grind
  cases x with
  |box n cs=>
   simp only[shr];split
   ·exact gen
   ·obtain⟨⟨R,s1,s2⟩,s0⟩:=gen;have hi:((M++Ch.box n cs::shr ns L).map (lF B))[M.length]?=some (TF B n cs):=by simp[lF]
    obtain⟨F,b,z,vs,h3,h4,h5⟩:=s1.chunk (ch:=TF B n cs) M.length hi;have s3:=s1.imp (jP.put M.length hi λF ⟨b',z',vs',q1,q2,q3⟩=>by
     rw[h3] at q1;cases q1;rw[h4] at q2;cases q2;exact q3)
    have s4:=s3.bHV (b:=b) (z:=z) (vs:=vs) (i:=M.length) (by rw[List.getElem?_set_self];simp);refine⟨⟨R++[fAt b z vs],?_,λx hx=>?_⟩,s0⟩
    ·have:((M++Ch.ro n cs::shr ns L).map (lF B))=(((M++Ch.box n cs::shr ns L).map (lF B)).set M.length (WO b z vs)).set M.length LN:=by simp[lF]
     grind
    ·rcases dE.1 hx with hx|hx
     ·exact aCI (λf hf=>U7 _ hf) (s2 x (U7 _ hx))
     ·rcases j3.1 hx with hx|hx
      ·subst hx;exact⟨b,z,vs,h3,h4,ae⟩
      ·exact aCI (λf hf=>U7 _ hf) (s2 x (aB8 _ (lE _ hx)))
  |_=>exact gen
theorem mf{f:FuncId}{caps:Array Operand}{ops:Array Oper}{l:List Oper}(ns:List Nat)(hs:jE T n K cf m e L=.op o Lv (.r ops l) cf2 K' m' e' L')(ho:(o.op,o.dst)=(.makeFunc (.func f) #[] caps,some d))(hx:aU (iO e') caps.toList=some (ns.map λn=>.p n 0))
  (k:G (.mk P T hT n c B0 N X Q) K' m' ((d,.f f ns)::e') (shr ns L') cf2):G (.mk P T hT n c B0 N X Q) K m e L cf:=by
 refine gQ (g:=.mk P T hT n c B0 N X Q) ?_;rw[hs];intro hdn _ hE;refine hE Unit (λ_=>m') (λ_=>(d,.f f ns)::e') (λ_=>shr ns L') (λ_=>trivial) (λB a w next Q' hm hA hS hnext=>?_) (λ_=>k);obtain⟨vs,h1,h2⟩:=aAD hA hx;have hd:o.dst=some d:=cA Prod.snd ho;have h3:∀{ns:List Nat} {vs:List Value},aU (fB (WX (.mk P T hT n c B0 N X Q) (.r ops l)++B)) (ns.map λn=>SV.p n 0)=some vs->aU (WC (WX (.mk P T hT n c B0 N X Q) (.r ops l)++B)) ns=some vs:=by
  intro ns;induction ns with
  |nil=>intro vs h;exact h
  |cons jj ns ih=>
   grind[aU,WC,fB,gV,bL]
 have h5:∀{os:List Operand} {vs:List Value},evs (vE (WX (.mk P T hT n c B0 N X Q) (.r ops l)++B) e') os=some vs->os.map (ev (vE (WX (.mk P T hT n c B0 N X Q) (.r ops l)++B) e'))=vs.map some:=by
  intro os;induction os with
  |nil=>intro vs h;cases h;rfl
  |cons o os ih=>
   grind[evs]
 have h6:=bBU (P:=P) (w:=w) (vf:=[]) (vc:=vs) (cA Prod.fst ho) rfl (h5 h2);unfold Oper.wp;rw[h6 _ a hA.env,Oper.upon_value,hd];rw[hd] at hdn;have h7:fB (WX (.mk P T hT n c B0 N X Q) (.r ops l)++B) (.f f ns)=some (.func (.func f) #[] vs.toArray):=by grind[fB]
 exact hnext () _ _ ⟨[],aj,by simpa using hA.of h7 (hA.env.put (by grind[qI,vX]) _),by simpa using aRJ ns [] L' hS⟩
theorem clc{fo:Option O}{kf:O->Option β}{q:β}{f:FuncId}{xs0:List SV}{sv:O->SV}(is:List Nat)(cs:List (Nat×List SV))(hs:jE T n K cf m e L=.callp o (some d) f xs cf1 cf2 K' m' e' L')(hk:kl L' is=roS cs)(ho:(aOC cs && okA xs.dropLast)=true)(hx:xs=xs.dropLast++[.f g (cs.map (·.1))])
  (hc:∀{w},HS c w L'->∀{Bs:Bl},Bs.length=cs.length->(∀w1,eC F0 w w1->kX (dQ w1) w1 Bs (roL 0 cs))->∀{x},fo=some x->Fn0 P f (dQ w) (xs.dropLast++[.k (.func (.func g) #[] (OF Bs).toArray)]) sv x) (hF:fo.bind kf=some q)
  (k:∀x,fo=some x->kf x=some q->G (.mk P T hT n c B0 N X Q) K' m' ((d,sv x)::e') L' cf2):G (.mk P T hT n c B0 N X Q) K m e L cf:=by
 refine gQ (g:=.mk P T hT n c B0 N X Q) ?_;rw[hs];intro fo' args ats ho' hd hf ⟨ys,hys,hxs⟩ hdn hE;rw[wS] at ho;cases hfo:fo with
 |none=>grind
 |some x=>
  rw[hfo] at hF;refine hE Unit (λ_=>m') (λ_=>(d,sv x)::e') (λ_=>L') (λ_=>by simpa using sS (L:=L') []) (λB a w next Q' hm hA hS hnext=>?_) (λ_=>k x hfo hF);obtain⟨vs,h1,h2⟩:=aAD hA hys;obtain⟨v,h3,h4⟩:=eD hA hf;simp[fB,aU] at h3;subst h3;rw[<-OX,hxs] at h1;rw[hx] at h1;have split:∀{az:List SV} {b:SV} {vs:List Value} {B:Bl},aU (fB B) (az++[b])=some vs->∃us v,aU (fB B) az=some us/\fB B b=some v/\vs=us++[v]:=by
   intro az;induction az with
   |nil=>
    grind[aU]
   |cons a az ih=>
    intro b vs B h;simp only[D7,aU] at h;grind[aU]
  obtain⟨us,fv,g1,g2,rfl⟩:=split h1;simp only[fB] at g2;split at g2
  ·rename_i cap hcap;cases g2;obtain⟨Bs,b1,b2,b3⟩:=a65 hcap;subst b1;have hmem:∀x∈roS cs,x∈L':=λx hx=>aKH (is:=is) aj;obtain⟨hcall,hrun⟩:=hc ⟨_,hS⟩ b2 (bHU hS hmem ho.1 b3) hfo;have join:∀{az:List SV} {us:List Value} {b:SV} {v:Value},aU (fB []) az=some us->fB [] b=some v->aU (fB []) (az++[b])=some (us++[v]):=by
    intro az;induction az with
    |nil=>grind[aU]
    |cons a az ih=>
     intro us b v h hb;simp only[aU] at h;split at h
     ·cases h
     ·rename_i u hu;split at h
      ·cases h
      ·rename_i us' hus;cases h;simp[aU,hu,ih hus hb]
   have h5:=hrun (us++[.func (.func g) #[] (OF Bs).toArray]) (join (aCN ho.2 g1) (by simp[fB,gV,bL,Value.oneCell'])) (aRH w);have h6:=RZ (w:=w) hcall ho' h4 h2;unfold Oper.wp;rw[h6 _ a hA.env,Oper.upon_enter];refine Calls.mono h5 λen w' ⟨v,hv,y,e1,e2⟩=>?_;subst hv;rw[hd];have g3:=vZ (WX (.mk P T hT n c B0 N X Q) cf1++B) e1;exact hnext () _ _ ⟨[],aj,by simpa using hA.of aj (hA.env.put (by grind[qI,vX]) v),by simpa using hS.after (L2:=[]) rfl e2⟩
  ·cases g2
theorem HS.u1{iR:aM O}{C:CZ O}{sr:β->SV}{cap:List Value}{p:O->Option β}(h:HS c w L)(H:WQ P c C sr g cap p):WQ P (dQ w) C sr g cap p:=by obtain⟨B,hS⟩:=h.ex;exact⟨H.1,λw1 hk=>H.2 w1 (hS.a62.trans hk λ_ _ _ h=>h.elim)⟩
theorem HS.u2{α':Type}{iR:aM O}{iR':aM α'}{C:CZ O}{C':CZ α'}{sr:β->SV}{cap:List Value}{p:O->α'->Option β}(h:HS c w L)(H:Fu2 P c C C' sr g cap p):Fu2 P (dQ w) C C' sr g cap p:=by obtain⟨B,hS⟩:=h.ex;exact⟨H.1,λw1 hk=>H.2 w1 (hS.a62.trans hk λ_ _ _ h=>h.elim)⟩
theorem bM6{fo:Option O}{kf:O->Option β}{q:β}{f:FuncId}{sv:O->SV}{c1:List SV}(is:List Nat)(hs:jE T n K cf m e L=.callp o (some d) f xs cf1 cf2 K' m' e' L')(hk:kl L' is=[.ro n1 c1])(ho:(aOC [(n1,c1)] && okA xs.dropLast)=true)(hx:xs=xs.dropLast++[.f g [n1]])
  (hc:∀{w},HS c w L'->∀{b1:Nat×Nat},(∀w1,eC F0 w w1->kX (dQ w1) w1 [b1] [.ro 0 c1])->∀{x},fo=some x->Fn0 P f (dQ w) (xs.dropLast++[.k (.func (.func g) #[] (OF [b1]).toArray)]) sv x) (hF:fo.bind kf=some q)
  (k:∀x,fo=some x->kf x=some q->G (.mk P T hT n c B0 N X Q) K' m' ((d,sv x)::e') L' cf2):G (.mk P T hT n c B0 N X Q) K m e L cf:=
 clc (xs0:=[]) is [(n1,c1)] hs hk ho hx (λh Bs hl hB=>match Bs,hl,hB with|[_],_,hB=>hc h hB) hF k
theorem bM7{fo:Option O}{kf:O->Option β}{q:β}{f:FuncId}{sv:O->SV}{n2:Nat}{c1:List SV}(is:List Nat)(hs:jE T n K cf m e L=.callp o (some d) f xs cf1 cf2 K' m' e' L')(hk:kl L' is=[.ro n1 c1,.ro n2 c2])(ho:(aOC [(n1,c1),(n2,c2)] && okA xs.dropLast)=true)(hx:xs=xs.dropLast++[.f g [n1,n2]])
  (hc:∀{w},HS c w L'->∀{b1 b2:Nat×Nat},(∀w1,eC F0 w w1->kX (dQ w1) w1 [b1,b2] [.ro 0 c1,.ro 1 c2])->∀{x},fo=some x->Fn0 P f (dQ w) (xs.dropLast++[.k (.func (.func g) #[] (OF [b1,b2]).toArray)]) sv x) (hF:fo.bind kf=some q)
  (k:∀x,fo=some x->kf x=some q->G (.mk P T hT n c B0 N X Q) K' m' ((d,sv x)::e') L' cf2):G (.mk P T hT n c B0 N X Q) K m e L cf:=
 clc (xs0:=[]) is [(n1,c1),(n2,c2)] hs hk ho hx (λh Bs hl hB=>match Bs,hl,hB with|[_,_],_,hB=>hc h hB) hF k
end
section
variable {P:Program} {T:TT} {hT:ED P T} {n:Nat} {c:Ctx} {B0:Bl} {N:Act->World->Prop} {X:Nat->Act->World->Prop} {Q:Act->World->Prop} {K K':List Fr} {m m':Nat} {e e':SE} {L L':List Ch} {cf cf1 cf2:uH} {o:Oper} {Lv:List Ch} {d:Nat}
variable {x y z:Operand} {t t2:TypeId} {k k2:IntKind} {i j:Int} {O β:Type} {A:Option β} {q:β}
theorem bCX(hs:opS (jE T n K cf m e L)=some (o,Lv,cf1,cf2,K',m',e',L'))(ho:(o.op,o.dst)=(.call {callee:=.builtin .min,args:=#[x,y],argTypes:=#[t,t2]},some d))(hx:(iO e' x).bind qY=some (.i64,i))(hy:(iO e' y).bind qY=some (k,j))
  (kk:G (.mk P T hT n c B0 N X Q) K' m' ((d,.i .i64 (if j<i then j else i))::e') L' cf2):G (.mk P T hT n c B0 N X Q) K m e L cf:=
 pu hs (cA Prod.snd ho) (λB a w hA _=>⟨_,rfl,bG9 (cA Prod.fst ho) (wT hA hx) (wT hA hy)⟩) kk
theorem bHW(hs:opS (jE T n K cf m e L)=some (o,Lv,cf1,cf2,K',m',e',L'))(ho:(o.op,o.dst)=(.call {callee:=.builtin .max,args:=#[x,y],argTypes:=#[t,t2]},some d))(hx:(iO e' x).bind qY=some (.i64,i))(hy:(iO e' y).bind qY=some (k,j))
  (kk:G (.mk P T hT n c B0 N X Q) K' m' ((d,.i .i64 (if i<j then j else i))::e') L' cf2):G (.mk P T hT n c B0 N X Q) K m e L cf:=
 pu hs (cA Prod.snd ho) (λB a w hA _=>⟨_,rfl,bHA (cA Prod.fst ho) (wT hA hx) (wT hA hy)⟩) kk
section
variable {l:List UInt8} {b1:Bool} {n1:Nat} {z1:List SV}
theorem bKJ(ht:wU T t=some ⟨.s,b1,n1,z1⟩)(hT:ED P T):P.underlying t=some .string:=by obtain⟨dd,hd1,hd2⟩:=hT.und _ _ ht;grind
theorem qsi{kf:UInt8->Option β}(hs:opS (jE T n K cf m e L)=some (o,Lv,cf1,cf2,K',m',e',L'))(ho:(o.op,o.dst)=(.index t x y,some d))(ht:wU T t=some ⟨.s,b1,n1,z1⟩)(hx:iO e' x=some (.s l))(hy:(iO e' y).bind qY=some (k,i))(hF:(idx l i).bind kf=some q)
  (kk:∀u,idx l i=some u->kf u=some q->G (.mk P T hT n c B0 N X Q) K' m' ((d,.y u)::e') L' cf2):G (.mk P T hT n c B0 N X Q) K m e L cf:=by
 cases hi:idx l i with
 |none=>grind
 |some u=>
  rw[hi] at hF;exact pu hs (cA Prod.snd ho) (λB a w hA _=>⟨_,rfl,bB5 (bKJ ht hT) hi (cA Prod.fst ho) (bHT hA hx) (wT hA hy)⟩) (kk u hi hF)
end
section
variable [aM O] {s:AC} {l:List O} {el:TypeId} {b1 b2:Bool} {n1 sz:Nat} {z1 z2:List SV} {kt:TK}
theorem hdB{a:Act}(hA:gP n B e a){ln:Nat}(h:iO e x=some (.h s ln)):ev (vE B e) x=some (s.v ln):=by obtain⟨v,h1,h2⟩:=eD hA h;cases h1;exact h2
theorem EE(ht:wU T t=some ⟨.sl el,b1,n1,z1⟩)(hT:ED P T):P.underlying t=some (.slice el):=by obtain⟨dd,hd1,hd2⟩:=hT.und _ _ ht;grind
theorem qsb{a b:Nat}(h1:bI c s l)(hb:a<=b/\b<=l.length)(hs:opS (jE T n K cf m e L)=some (o,Lv,cf1,cf2,K',m',e',L'))(hd:o.dst=some d)(hr:∀B act w,gP n B e' act->aM.rd c.S0 w [s.v l.length] l->eR P o (vE B e') w (iU (aM.n O) a b (s.v l.length)) w)
  (kk:∀s',bI c s' ((l.take b).drop a)->G (.mk P T hT n c B0 N X Q) K' m' ((d,.h s' ((l.take b).drop a).length)::e') L' cf2):G (.mk P T hT n c B0 N X Q) K m e L cf:=by
 have h2:=aW7 (n:=aM.n O) (a:=a) (b:=b) rfl h1 hb.1 hb.2;obtain⟨ad,cp,e1,_⟩:=aJ9 h2;rw[e1] at h2;exact pu hs hd (λB act w hA hS=>⟨_,by grind[fB,gV,bL],hr B act w hA (aRI hS (f:=fRd [s.v l.length] l) h1)⟩) (kk ⟨ad,cp⟩ h2)
theorem aXK(hs:opS (jE T n K cf m e L)=some (o,Lv,cf1,cf2,K',m',e',L'))(ho:(o.op,o.dst)=(.slice t x (some y) (some z) none,some d))(ht:wU T t=some ⟨.sl el,b1,n1,z1⟩)(he:wU T el=some ⟨kt,b2,sz,z2⟩)(hn:aM.n O=sz)(h1:bI c s l)(hx:iO e' x=some (.h s l.length))(hy:(iO e' y).bind qY=some (k,i))(hz:(iO e' z).bind qY=some (k2,j))(hF:need (0<=i/\i<=j/\j<=(l.length:Int)) A=some q)
  (kk:A=some q->∀s',bI c s' ((l.take j.toNat).drop i.toNat)->G (.mk P T hT n c B0 N X Q) K' m' ((d,.h s' ((l.take j.toNat).drop i.toNat).length)::e') L' cf2):G (.mk P T hT n c B0 N X Q) K m e L cf:=by
 have hb:=(lX hF).1;subst hn;exact qsb h1 aa hs (cA Prod.snd ho) (λB act w hA h=>a2V h rfl (EE ht hT) (hT.size _ _ he) hb (cA Prod.fst ho) (hdB hA hx) (wT hA hy) (wT hA hz)) (kk (lX hF).2)
theorem a66(hs:opS (jE T n K cf m e L)=some (o,Lv,cf1,cf2,K',m',e',L'))(ho:(o.op,o.dst)=(.slice t x none (some z) none,some d))(ht:wU T t=some ⟨.sl el,b1,n1,z1⟩)(he:wU T el=some ⟨kt,b2,sz,z2⟩)(hn:aM.n O=sz)(h1:bI c s l)(hx:iO e' x=some (.h s l.length))(hz:(iO e' z).bind qY=some (k2,j))(hF:need (0<=j/\j<=(l.length:Int)) A=some q)
  (kk:A=some q->∀s',bI c s' ((l.take j.toNat).drop 0)->G (.mk P T hT n c B0 N X Q) K' m' ((d,.h s' ((l.take j.toNat).drop 0).length)::e') L' cf2):G (.mk P T hT n c B0 N X Q) K m e L cf:=by
 have hb:=(lX hF).1;subst hn;exact qsb h1 aa hs (cA Prod.snd ho) (λB act w hA h=>a50 h rfl (EE ht hT) (hT.size _ _ he) hb (cA Prod.fst ho) (hdB hA hx) (wT hA hz)) (kk (lX hF).2)
end
section
variable {zv:Value} {n1 m1:Nat} {el:TypeId}
theorem a67(h:aU (fB []) xs=some vs):aU (fB B) xs=some vs:=eV (λx v h=>by simpa using vZ (B:=[]) B h) h
theorem qba{ps:Array (Nat×Operand)}{cells:List Value}(cs:List SV)(hz:∀w,(zeroValue t).run P w=.ok zv w)(hu:P.underlying t=some (.array n1 el))(hp:∀w,(sizeOf el).run P w=.ok m1 w)(hs:opS (jE T n K cf m e L)=some (o,Lv,cf1,cf2,K',m',e',L'))(ho:(o.op,o.dst)=(.build t ps,some d))(hv:aU (iO e') (ps.toList.map (·.2))=some xs)(hvs:aU (fB []) xs=some vs)(hcs:aU (bL []) cs=some cells)(hc:Instr.fill (λi=>some (i*m1,m1)) zv.cells ((ps.toList.map (·.1)).zip vs)=some cells.toArray)
  (kk:G (.mk P T hT n c B0 N X Q) K' m' ((d,.g cs)::e') L' cf2):G (.mk P T hT n c B0 N X Q) K m e L cf:=
 pu hs (cA Prod.snd ho) (λB a w hA _=>⟨.agg cells.toArray,by
  simp only[fB,gV];rw[eV (g:=bL B) (λx v h=>by simpa using gA (B:=[]) B h) hcs],by
  obtain⟨us,h1,h2⟩:=aAD hA hv;rw[a67 hvs] at h1;cases h1;exact a2W (ps:=ps.toList) (by simp_all) hz hu hp h2 hc⟩) kk
theorem qai{γ:Type}(f:γ->Value)(g:γ->SV){l:List γ}{cs:List SV}{kf:γ->Option β}(hu:P.underlying t=some (.array n1 el))(hz:∀w,(sizeOf el).run P w=.ok 1 w)(hg:∀w,(isAgg el).run P w=.ok false w)(hgf:∀u,fB [] (g u)=some (f u))(hs:opS (jE T n K cf m e L)=some (o,Lv,cf1,cf2,K',m',e',L'))(ho:(o.op,o.dst)=(.index t x y,some d))(hx:iO e' x=some (.g cs))(hcs:aU (bL []) cs=some (l.map f))(hn:l.length=n1)(hy:(iO e' y).bind qY=some (k,i))(hF:(idx l i).bind kf=some q)
  (kk:∀u,idx l i=some u->kf u=some q->G (.mk P T hT n c B0 N X Q) K' m' ((d,g u)::e') L' cf2):G (.mk P T hT n c B0 N X Q) K m e L cf:=by
 cases hi:idx l i with
 |none=>grind
 |some u=>
  rw[hi] at hF;refine pu hs (cA Prod.snd ho) (λB a w hA _=>⟨f u,by simpa using vZ (B:=[]) B (hgf u),?_⟩) (kk u hi hF);obtain⟨v,h1,h2⟩:=eD hA hx;simp only[fB,gV] at h1;rw[eV (g:=bL B) (λx v h=>by simpa using gA (B:=[]) B h) hcs] at h1;cases h1;exact bHC f hu hz hg hi hn rfl (cA Prod.fst ho) h2 (wT hA hy)
end
end
section
variable {P:Program} {T:TT} {hT:ED P T} {n:Nat} {c:Ctx} {B0:Bl} {N:Act->World->Prop} {X:Nat->Act->World->Prop} {Q:Act->World->Prop} {K K':List Fr} {m m':Nat} {e e':SE} {L L':List Ch} {cf cf1 cf2:uH} {o:Oper} {Lv:List Ch} {d:Nat}
theorem chg{g:Gx}{ι:Type}(m2:ι->Nat)(e2:ι->SE)(L2:ι->List Ch)(h:∀B a w,B.length=m->gP g.n B e a->kX g.c w B L->∃i B',(B++B').length=m2 i/\gP g.n (B++B') (e2 i) a/\kX g.c w (B++B') (L2 i))
  (hz:∀i,Frz g cf L (L2 i)) (k:∀i,G g K (m2 i) (e2 i) (L2 i) cf):G g K m e L cf:=by
 have key:∀a w,Rel g m e L a w->∃i,Rel g (m2 i) (e2 i) (L2 i) a w:=λa w ⟨B,h1,h2,h3⟩=>by obtain⟨i,B',k1,k2,k3⟩:=h _ a w h1 h2 h3;exact⟨i,B++B',aj,aj,aj⟩
 cases cf with
 |n=>exact λa w hr=>let ⟨i,hi⟩:=key a w hr;k i a w hi
 |c x=>exact λa w hr=>let ⟨i,hi⟩:=key a w hr;k i a w hi
 |r ops l=>exact λa w hr=>let ⟨i,hi⟩:=key a w hr;k i a w hi
 |d B1 ops l is Lf Lv=>
  refine λhD a w ⟨B,h1,h2,h3,h4⟩=>?_;obtain⟨i,B',k1,k2,k3⟩:=h _ a w h1 h2 h3;obtain⟨z1,z2⟩:=hz i hD;exact k i ⟨hD.pre,hD.len,hD.free,z1,z2,hD.okf,hD.ap⟩ a w ⟨B++B',aj,aj,aj,λw' hw=>by
   have:=(h4 w' hw).app B';grind⟩
 |o B1 ops l is Lf Lv ii=>
  refine λhD a w ⟨B,h1,h2,h3,h4⟩=>?_;obtain⟨i,B',k1,k2,k3⟩:=h _ a w h1 h2 h3;obtain⟨z1,z2⟩:=hz i hD;exact k i ⟨hD.pre,hD.len,hD.free,z1,z2,hD.okf,hD.ap⟩ a w ⟨B++B',aj,aj,aj,λw' hw=>by
   have:=(h4 w' hw).app B';grind⟩
theorem mks[aM O]{y:Operand}{zv:Value}{A:Option β}{q:β}(zd:O)(hinf:VB P el sz zv)(hzd:∀w,aM.own w zv.cells.toList zd F0)(q0_:jE T n K cf m e L=.op o Lv cf1 cf2 K' m' e' L'/\(o.op,o.dst)=(.makeSlice t x y,some d)/\wU T t=some ⟨.sl el,b1,n1,z1⟩/\aM.n O=sz/\zv.cells.size=sz/\(iO e' x).bind qY=some (.i64,i)/\(iO e' y).bind qY=some (.i64,i))(hF:need (0<=i/\i<=4294967296) A=some q)
  (k:A=some q->∀s':AC,G (.mk P T hT n c B0 N X Q) K' m' ((d,.h s' (List.replicate i.toNat zd).length)::e') (L'++[ow s' (List.replicate i.toNat zd)]) cf2):G (.mk P T hT n c B0 N X Q) K m e L cf:=by
 obtain⟨hs,ho,ht,hn,hzs,hx,hy⟩:=q0_;refine gQ (g:=.mk P T hT n c B0 N X Q) ?_;rw[hs];intro hdn _ hE;refine hE AC (λ_=>m') (λs'=>(d,.h s' (List.replicate i.toNat zd).length)::e') (λs'=>L'++[ow s' (List.replicate i.toNat zd)]) (λ_=>sS _) (λB a w next Q' hm hA hS hnext=>?_) (k (lX hF).2);obtain⟨⟨R,s1,s2⟩,s0⟩:=hS;have hd:o.dst=some d:=cA Prod.snd ho;obtain⟨v,w',k1,k2⟩:=a5X zd s1 hn (EE ht hT) hinf hzs hzd (lX hF).1 (cA Prod.fst ho) (wT hA hx) (wT hA hy);have hrd:∃s':AC,v=s'.v (List.replicate i.toNat zd).length:=by have h1:=k2.aZR (cs:=[v]) (d:=List.replicate i.toNat zd) (L'.map (lF (WX (.mk P T hT n c B0 N X Q) cf1++B))).length ae;obtain⟨ad,cp,h2,_⟩:=aJ9 h1;exact⟨⟨ad,cp⟩,h2⟩
 obtain⟨s',rfl⟩:=hrd;unfold Oper.wp;rw[k1 _ a hA.env,Oper.upon_value,hd];refine hnext s' _ _ ⟨[],aj,by simpa using hA.of (by simp[fB,gV,bL]) (hA.env.put (by grind[qI,vX]) _),⟨⟨R,by grind[lF],λx hx=>?_⟩,λb o hb=>HE (s0 b o hb) (iT _)⟩⟩;rcases dE.1 hx with hx|hx
 ·grind
 ·simp at hx;subst hx;exact trivial
end
def uH.wW:uH->List Nat
 |.d _ _ _ is _ _=>is
 |.o _ _ _ is _ _ _=>is
 |_=>[]
variable{cf:uH}
theorem ZC{L M:List Ch}{j:Nat}{z:Ch}:∀{is:List Nat},(∀i∈is,i<L.length)->fO j is=true->kl (L.set j z++M) is=kl L is
 |[],_,_=>rfl
 |i::is,h,hn=>by
  have hi:=h i ae;have h1:=aKL hn;have hne:j≠i:=λhe=>h1 (by simp[he]);have h2:(L.set j z++M)[i]?=L[i]?:=aj
  have h3:fO j is=true:=by grind[fO]
  simp only[kl,h2,ZC (λi hi=>h i (lE _ hi)) h3]
theorem a0K{L M:List Ch}:∀{is:List Nat},(∀i∈is,i<L.length)->kl (L++M) is=kl L is
 |[],_=>rfl
 |i::is,h=>by simp only[kl,List.getElem?_append_left (h i ae),a0K (M:=M) (λi hi=>h i (lE _ hi))]
theorem aRK{g:Gx}(hn:fO j cf.wW=true):Frz g cf L (L.set j z++M):=by
 cases cf with
 |d B1 ops l is Lf Lv=>
  exact λhD=>⟨(ZC hD.rng hn).trans hD.wW,λi hi=>by have:=hD.rng i hi;simp;omega⟩
 |o B1 ops l is Lf Lv i=>
  exact λhD=>⟨(ZC hD.rng hn).trans hD.wW,λi hi=>by have:=hD.rng i hi;simp;omega⟩
 |_=>trivial
theorem aT3(h:St c w A R):St c w (A++[LN]) R:=by obtain⟨F,S,h1,rest⟩:=h.sep;exact⟨h.keep,⟨F,S,Sep.append.2 ⟨F,F0,h1,Sep.one.2 (λ_ _ h=>h),λ_ _ _ h=>h,λb o=>by simp[F0]⟩,rest⟩,h.apart⟩
structure CO (O:Type) [aM O] where
 ex:Type
 cs:O->ex->List SV
 Lx:O->ex->List Ch
 op:∀{w F ec q},aM.own w ec q F->∃y,aU (bL []) (cs q y)=some ec
 pk:∀{q y ec},aU (bL []) (cs q y)=some ec->OP ec q ((Lx q y).map (lF []))
 no:∀q y,noF (Lx q y)=true
 nb:∀q y B,(Lx q y).map (lF B)=(Lx q y).map (lF [])
section
variable {P:Program} {T:TT} {hT:ED P T} {n:Nat} {c:Ctx} {B0:Bl} {N:Act->World->Prop} {X:Nat->Act->World->Prop} {Q:Act->World->Prop} {K K':List Fr} {m m':Nat} {e e':SE} {L L':List Ch} {cf cf1 cf2:uH} {o:Oper} {Lv:List Ch} {d:Nat}
theorem bM9{g:Gx}{ι:Type}(m2:ι->Nat)(e2:ι->SE)(L2:ι->List Ch)(Ln:ι->List Ch)(h:∀B a w,B.length=m->gP g.n B e a->kX g.c w B L->∃i B',(B++B').length=m2 i/\gP g.n (B++B') (e2 i) a/\kX g.c w (B++B') (L2 i)/\∀w' M,kX g.c w' B M->kX g.c w' (B++B') (M++Ln i))
  (hz:∀i,Frz g cf L (L2 i)) (k:∀i,G g K (m2 i) (e2 i) (L2 i) (cf.ext (Ln i))):G g K m e L cf:=by
 have key:∀a w,Rel g m e L a w->∃i,Rel g (m2 i) (e2 i) (L2 i) a w:=λa w ⟨B,h1,h2,h3⟩=>by obtain⟨i,B',k1,k2,k3,_⟩:=h _ a w h1 h2 h3;exact⟨i,B++B',aj,aj,aj⟩
 cases cf with
 |n=>exact λa w hr=>let ⟨i,hi⟩:=key a w hr;k i a w hi
 |c x=>exact λa w hr=>let ⟨i,hi⟩:=key a w hr;k i a w hi
 |r ops l=>exact λa w hr=>let ⟨i,hi⟩:=key a w hr;k i a w hi
 |d B1 ops l is Lf Lv=>
  refine λhD a w ⟨B,h1,h2,h3,h4⟩=>?_;obtain⟨i,B',k1,k2,k3,k4⟩:=h _ a w h1 h2 h3;obtain⟨z1,z2⟩:=hz i hD;exact k i ⟨hD.pre,hD.len,hD.free,z1,z2,hD.okf,hD.ap⟩ a w ⟨B++B',aj,aj,aj,λw' hw=>by
   grind⟩
 |o B1 ops l is Lf Lv ii=>
  refine λhD a w ⟨B,h1,h2,h3,h4⟩=>?_;obtain⟨i,B',k1,k2,k3,k4⟩:=h _ a w h1 h2 h3;obtain⟨z1,z2⟩:=hz i hD;exact k i ⟨hD.pre,hD.len,hD.free,z1,z2,hD.okf,hD.ap⟩ a w ⟨B++B',aj,aj,aj,λw' hw=>by
   grind⟩
abbrev Shp(s:AC)(len:Nat):Prop:=∃b off m,s.v len=.slice (some ⟨b,off,none⟩) len m/\len<=maxLen
abbrev wOf(O:Type)[aM O](nb:Nat)(s:AC)(len i:Nat):Ch:=.w nb (WB (s.v len)) (VA (aM.n O) i (s.v len))
theorem oe[aM O](E:CO O)(j:Nat){t:TypeId}{s:AC}{ls:List O}{kf:O->Option β}{q:β}(hs:jE T n K cf m e L=.idx o d t s ls.length i Lv cf1 cf2 K' m' e' L')(hj:L'[j]?=some (ow s ls))(hz:fO j cf1.wW=true)(hF:(idx ls i).bind kf=some q)
  (k:∀x,idx ls i=some x->kf x=some q->∀y:E.ex,Shp s ls.length->G (.mk P T hT n c B0 N X Q) K' (m'+1) e' (L'.set j .no++([.o (sI (s.v ls.length) ls i.toNat),.box m' (E.cs x y),wOf O m' s ls.length i.toNat]++E.Lx x y)) (cf1.ext [wOf O m' s ls.length i.toNat])):G (.mk P T hT n c B0 N X Q) K m e L cf:=by
 refine gQ (g:=.mk P T hT n c B0 N X Q) ?_;rw[hs];intro x' y' ho hd hx hy hP;cases hi:idx ls i with
 |none=>grind
 |some x=>
  rw[hi] at hF;refine bM9 (λ_=>m'+1) (λ_=>e') (λy:{y:E.ex // Shp s ls.length}=>L'.set j .no++([.o (sI (s.v ls.length) ls i.toNat),.box m' (E.cs x y.1),wOf O m' s ls.length i.toNat]++E.Lx x y.1)) (λ_=>[wOf O m' s ls.length i.toNat]) (λB a w hm hA hS=>?_) (λy=>aRK hz) (λy=>k x hi hF y.1 y.2);obtain⟨⟨R,s1,s2⟩,s0⟩:=hS;have hj2:(L'.map (lF B))[j]?=some (eQ [s.v ls.length] ls):=by simp[hj,lF]
  obtain⟨ec,h1⟩:=s1.open j hj2 (AT hi).2.2;have hlen:((L'.map (lF B)).set j LN).length=L'.length:=ae
  have hsh:Shp s ls.length:=bB2 (k:=i.toNat) h1 L'.length ae;obtain⟨F,hF'⟩:=h1.chunk (L'.length+2) (by rw[aPN aa];simp;rfl);obtain⟨y,hy2⟩:=E.op (show aM.own w ec x F from hF');have h2:=h1.unpack (L'.length+2) ae (E.pk hy2);have hset:((L'.map (lF B)).set j LN++[sI (s.v ls.length) ls i.toNat,WO (WB (s.v ls.length)) (VA (aM.n O) i.toNat (s.v ls.length)) ec,eQ ec x]).set (L'.length+2) LN=(L'.map (lF B)).set j LN++[sI (s.v ls.length) ls i.toNat,WO (WB (s.v ls.length)) (VA (aM.n O) i.toNat (s.v ls.length)) ec,LN]:=ae
  rw[hset] at h2;refine⟨⟨y,hsh⟩,[(WB (s.v ls.length),VA (aM.n O) i.toNat (s.v ls.length))],by simp[hm],hA.app _,⟨⟨R,?_,λz hz=>?_⟩,s0⟩,λw' M hM=>?_⟩
  ·have e1:(L'.set j Ch.no).map (lF B)=(L'.map (lF B)).set j LN:=by rw[LD];rfl
   refine h2.imp ?_;rw[sH,sH,<-e1,oV];refine jP.append (Y9 _ _) (jP.append (.cons (λ_ h=>h) (.cons (λF h=>⟨_,_,ec,aj,eV (λx v h=>by simpa using gA (B:=[]) _ h) hy2,h⟩) (.cons (λ_ h=>h) .nil))) ?_);have:=Y9 (B:=[]) (B++[(WB (s.v ls.length),VA (aM.n O) i.toNat (s.v ls.length))]) (w:=w) (E.Lx x y);grind
  ·rcases dE.1 hz with hz|hz
   ·rcases qW hz with hz|hz
    ·grind[aRB]
    ·subst hz;trivial
   ·rcases dE.1 hz with hz|hz
    ·simp at hz;rcases hz with rfl|rfl|rfl
     ·trivial
     ·trivial
     ·show(B++_)[m']?=_;grind
    ·exact aKM (E.no x y) z hz
  ·obtain⟨⟨R',t1,t2⟩,t0⟩:=hM.app [(WB (s.v ls.length),VA (aM.n O) i.toNat (s.v ls.length))];refine⟨⟨R',by grind[lF,aT3],λz hz=>?_⟩,t0⟩;rcases dE.1 hz with hz|hz
   ·grind
   ·simp at hz;subst hz;show(B++_)[m']?=_;grind
theorem ie[aM O](p:Nat){s:AC}{ls:List O}{x:O}{k2:TK}(hsh:Shp s ls.length)(hs:jE T n K cf m e L=.idx o d t s ls.length i Lv cf1 cf2 K' m' e' L')(hi:idx ls i=some x)(hw:Lv[p]?=some (wOf O nb s ls.length i.toNat))(ht:wU T t=some ⟨.sl el,b1,n1,z1⟩)(he:wU T el=some ⟨k2,b2,sz,z2⟩)(hn:aM.n O=sz)
  (k:G (.mk P T hT n c B0 N X Q) K' m' ((d,.p nb 0)::e') L' cf2):G (.mk P T hT n c B0 N X Q) K m e L cf:=by
 refine gQ (g:=.mk P T hT n c B0 N X Q) ?_;rw[hs];intro x' y' ho hd hx hy hP;subst hn;refine hP d (.p nb 0) [] (λ_=>[]) 0 hd (λ_=>rfl) (λB a w hA hS hm=>?_) (λB w L _ hS=>aj) (by grind[ext_nil]);obtain⟨v,g1,g2⟩:=eD hA hx;obtain⟨u,g3,g4⟩:=eD hA hy;cases g1;cases g3;obtain⟨⟨R,s1,s2⟩,s0⟩:=hS;have hB:B[nb]?=some (WB (s.v ls.length),VA (aM.n O) i.toNat (s.v ls.length)):=s2 _ (EA hw);exact⟨_,by simp[fB,gV,bL,hB],bB3 (P:=P) (o:=o) (w:=w) hsh rfl hi (EE ht hT) (hT.size _ _ he) ho g2 g4⟩
def HT:List Ch->List Nat->List Ch
 |L,[]=>L
 |L,i::r=>HT (L.set i .no) r
theorem IJ{B:Bl}:∀(js:List Nat) (L:List Ch),(HT L js).map (lF B)=blank (L.map (lF B)) js
 |[],L=>rfl
 |j::js,L=>by simp only[HT,blank];rw[IJ js,LD];rfl
theorem OY{x:Ch}:∀(js:List Nat) (L:List Ch),x∈HT L js->x∈L\/x=.no
 |[],L,h=>.inl h
 |j::js,L,h=>by
  rcases OY js _ h with h|h
  ·exact qW h
  ·exact .inr h
theorem TL{g:Gx}{cf:uH}:∀(js:List Nat) {L:List Ch},(js.all λj=>fO j cf.wW)=true->Frz g cf L (HT L js++M):=by
 intro js L hj;have main:∀{B1:Bl} {ops:Array Oper} {l:List Bool} {is:List Nat} {Lf:List Ch},(js.all λj=>fO j is)=true->aEV g B1 ops l is Lf L->kl (HT L js++M) is=Lf/\∀j∈is,j<(HT L js++M).length:=by
  intro B1 ops l is Lf hj hD;have key:∀(js:List Nat) (L:List Ch),(js.all λj=>fO j is)=true->(∀i∈is,i<L.length)->kl (HT L js++M) is=kl L is/\(HT L js).length=L.length:=by
   intro js;induction js with
   |nil=>
    intro L _ hr;exact⟨a0K hr,rfl⟩
   |cons j js ih=>
    intro L hj hr;simp only[aN8,wS] at hj;obtain⟨h1,h2⟩:=ih (L.set j .no) hj.2 (λi hi=>aj);refine⟨h1.trans ?_,by grind[HT]⟩;have:=ZC (M:=[]) (z:=.no) hr hj.1;grind
  obtain⟨k1,k2⟩:=key js L hj hD.rng;exact⟨k1.trans hD.wW,λi hi=>by have:=hD.rng i hi;grind⟩
 cases cf with
 |d B1 ops l is Lf Lv=>exact λhD=>main hj hD
 |o B1 ops l is Lf Lv i=>exact λhD=>main hj hD
 |_=>trivial
def ovh(v:SV)(e:SE):List Nat->SE
 |[]=>e
 |k::ks=>(k,v)::ovh v e ks
theorem aRL{v:SV}{a:Act}:∀(ks:List Nat),aU (D4 e) ks=some (ks.map λ_=>v)->gP n B e a->gP n B (ovh v e ks) a:=by
 intro ks;have key:∀(ks:List Nat),aU (D4 e) ks=some (ks.map λ_=>v)->∀k∈ks,D4 e k=some v:=by
  intro ks;induction ks with
  |nil=>simp
  |cons s ks ih=>
   grind[aU]
 intro hs hA;have hk:=key ks hs;clear hs key;have lk2:∀k x,D4 (ovh v e ks) k=some x->D4 e k=some x:=by
  induction ks with
  |nil=>exact λk x h=>h
  |cons j ks ih=>
   grind[ovh,D4,oW]
 exact⟨hA.d,hA.size,λk x h=>hA.get k x (lk2 k x h)⟩
theorem OZ{B:Bl}:∀{is:List Nat} {M:List Ch},aU (λi=>L[i]?) is=some M->pick (L.map (lF B)) is=M.map (lF B)
 |[],M,h=>by cases h;rfl
 |i::is,M,h=>by
  simp only[aU] at h;split at h
  ·cases h
  ·rename_i h1;split at h
   ·cases h
   ·rename_i h2;cases h;simp only[pick,AQ,h1,Option.map_some,aCC,OZ h2,D9]
theorem a69[aM O](E:CO O)(h b v:Nat)(is ks:List Nat){s:AC}{l:List O}(x:O)(y:E.ex)(hs:L[h]?=some (.o (sI (s.v l.length) l k)))(hb:L[b]?=some (.box nb cs0))(hv:L[v]?=some (wOf O nb s l.length k))(hi:aU (λi=>L[i]?) is=some (E.Lx x y))(hc:nbL cs0=E.cs x y)(hec:aU (bL []) (E.cs x y)=some ec)(ha:dJ (h::b::is)=true)(hk:aU (D4 e) ks=some (ks.map λ_=>.h s l.length)){a:Act}(hA:gP n B e a)(hS:kX c w B L) :
  gP n B (ovh (.h s (l.set k x).length) e ks) a/\kX c w B (HT L (h::b::is)++[ow s (l.set k x)]):=by
 have hlen:(l.set k x).length=l.length:=cW;unfold ow;rw[hlen];refine⟨aRL ks hk hA,?_⟩;obtain⟨⟨R,s1,s2⟩,s0⟩:=hS;have hB:B[nb]?=some (WB (s.v l.length),VA (aM.n O) k (s.v l.length)):=s2 _ (EA hv);refine⟨⟨R,?_,λz hz=>?_⟩,s0⟩
 ·rw[sH,IJ];refine s1.shift (h::b::is) ha λF hF=>?_;simp only[pick,AQ,hs,hb,Option.map_some,aCC,OZ hi,E.nb] at hF;have hE:aU (bL B) cs0=some ec:=by rw[<-OW,hc];exact eV (λx v h=>by simpa using gA (B:=[]) B h) hec
  have h2:Sep w ([sI (s.v l.length) l k,WO (WB (s.v l.length)) (VA (aM.n O) k (s.v l.length)) ec]++(E.Lx x y).map (lF [])) F:=by refine Sep.imp (.cons (λ_ h=>h) (.cons (λF h=>?_) (jP.refl _))) hF;obtain⟨bb,z,vs,k1,k2,k3⟩:=h;grind
  obtain⟨F1,F2,g1,g2,gd,gF⟩:=Sep.append.1 h2;have h3:Sep w ([sI (s.v l.length) l k,WO (WB (s.v l.length)) (VA (aM.n O) k (s.v l.length)) ec]++[eQ ec x]) F:=Sep.append.2 ⟨F1,F2,g1,Sep.one.2 ((E.pk hec w F2).2 g2),gd,gF⟩;exact Sep.one.2 (a2T h3)
 ·rcases dE.1 hz with hz|hz
  ·rcases OY _ _ hz with hz|hz
   ·grind
   ·subst hz;trivial
  ·simp at hz;subst hz;trivial
theorem ce[aM O](E:CO O)(h b v:Nat)(is ks:List Nat){s:AC}{l:List O}(x:O)(y:E.ex)(hs:L[h]?=some (.o (sI (s.v l.length) l k)))(hb:L[b]?=some (.box nb cs0))(hv:L[v]?=some (wOf O nb s l.length k))(hi:aU (λi=>L[i]?) is=some (E.Lx x y))(hc:nbL cs0=E.cs x y)(hec:aU (bL []) (E.cs x y)=some ec)(ha:dJ (h::b::is)=true)(hz:((h::b::is).all λj=>fO j cf.wW)=true)(hk:aU (D4 e) ks=some (ks.map λ_=>.h s l.length))
  (kk:G (.mk P T hT n c B0 N X Q) K m (ovh (.h s (l.set k x).length) e ks) (HT L (h::b::is)++[ow s (l.set k x)]) cf):G (.mk P T hT n c B0 N X Q) K m e L cf:=by
 refine chg (λ_:Unit=>m) (λ_=>ovh (.h s (l.set k x).length) e ks) (λ_=>HT L (h::b::is)++[ow s (l.set k x)]) (λB a w hm hA hS=>?_) (λ_=>TL _ hz) (λ_=>kk);obtain⟨h1,h2⟩:=a69 E h b v is ks x y hs hb hv hi hc hec ha hk hA hS;simp_all
end
section
variable {P:Program} {T:TT} {hT:ED P T} {n:Nat} {c:Ctx} {B0:Bl} {N:Act->World->Prop} {X:Nat->Act->World->Prop} {Q:Act->World->Prop} {K K':List Fr} {m m':Nat} {e e':SE} {L L':List Ch} {cf cf':uH}
theorem ceS[aM O](E:CO O)(h:Nat)(is ks:List Nat){s:AC}{l:List O}(x:O)(y:E.ex)(h0:RU (jE T n K cf m e L)=some (K',cf',m',e',L'))(hs:L'[h]?=some (.o (sI (s.v l.length) l k)))(hb:L'[h+1]?=some (.box nb cs0))(hv:L'[h+2]?=some (wOf O nb s l.length k))(hi:aU (λi=>L'[i]?) is=some (E.Lx x y))(hc:nbL cs0=E.cs x y)(hec:aU (bL []) (E.cs x y)=some ec)(ha:dJ (h::(h+1)::is)=true)(hz:((h::(h+1)::is).all λj=>fO j cf'.wW)=true)(hk:aU (D4 e') ks=some (ks.map λ_=>.h s l.length))
  (kk:G (.mk P T hT n c B0 N X Q) K' m' (ovh (.h s (l.set k x).length) e' ks) (HT L' (h::(h+1)::is)++[ow s (l.set k x)]) cf'):G (.mk P T hT n c B0 N X Q) K m e L cf:=
 gQ (g:=.mk P T hT n c B0 N X Q) (aIZ h0 (ce E h (h+1) (h+2) is ks x y hs hb hv hi hc hec ha hz hk kk))
theorem sF(hs:jE T n K cf m e L=.fin m' e' L')(h:∀a w,oZ n c B0 m' e' L' a w->N a w):G (.mk P T hT n c B0 N X Q) K m e L cf:=
 gQ (g:=.mk P T hT n c B0 N X Q) (by rw[hs];exact h)
theorem sX(hs:jE T n K cf m e L=.ex id m' e' L')(h:∀a w,oZ n c B0 m' e' L' a w->X id a w):G (.mk P T hT n c B0 N X Q) K m e L cf:=
 gQ (g:=.mk P T hT n c B0 N X Q) (by rw[hs];exact h)
theorem sR(hs:jE T n K cf m e L=.ret m' e' L')(h:∀a w,oZ n c B0 m' e' L' a w->Q a w):G (.mk P T hT n c B0 N X Q) K m e L cf:=
 gQ (g:=.mk P T hT n c B0 N X Q) (by rw[hs];exact h)
theorem nxR{o:Step σ ρ}{el:σ->υ->SE}{Ll:σ->υ->List Ch}{s:σ}(u:υ)(is:List Nat)(hG:some (Step.next s)=some o)(h:Y8 B0.length m' e' L' is mj (el s u) (Ll s u)=some (el s u,Ll s u)):∀a w,oZ n c B0 m' e' L' a w->NxP n c B0 o mj el Ll a w:=by cases hG;exact λa w hr=>⟨s,u,rfl,hr.Y8 is h⟩
theorem nA{eq:π->Prop}{ej:π->υ->SE}{Lj:π->υ->List Ch}{p:π}(u:υ)(is:List Nat)(hF:eq p)(h:Y8 B0.length m' e' L' is mj (ej p u) (Lj p u)=some (ej p u,Lj p u)):∀a w,oZ n c B0 m' e' L' a w->JP n c B0 eq mj ej Lj a w:=
 λa w hr=>⟨p,u,hF,oZ.Y8 hr is h⟩
theorem bkR{o:Step σ ρ}{ro:ρ}{enc:β->ρ}{ej:β->υ->SE}{Lj:β->υ->List Ch}{b:β}(u:υ)(is:List Nat)(hG:some (Step.stop (enc b))=some o)(hr:∀p,o=.stop p->p=ro)(h:Y8 B0.length m' e' L' is mj (ej b u) (Lj b u)=some (ej b u,Lj b u)):∀a w,oZ n c B0 m' e' L' a w->BkP n c B0 ro enc mj ej Lj id X id a w:=by cases hG;have:=hr _ rfl;subst this;intro a w hr;unfold BkP;rw[aN rfl];exact⟨b,u,rfl,hr.Y8 is h⟩
include hT in
theorem rtR{fn:Func}{ρ ex:Type}{sv:ρ->ex->SV}{Lf:ρ->ex->List Ch}{r r':ρ}{rs:List ResultVar}{zz:Option ρ}(y:ex)(is:List Nat)(hF:zz=some r)(q0_:zz=some r'/\fn.results=rs.toArray){x:SV}(q1_:aRA T e' L' rs=some x/\nbS x=sv r' y/\yQ B0.length (sv r' y)=true/\Y8 B0.length m' e' L' is B0.length [] (Lf r' y)=some ([],Lf r' y)):∀a w,oZ n c B0 m' e' L' a w->QS P fn c B0 sv Lf r a w:=by obtain⟨hz,hr⟩:=q0_;obtain⟨hv,hx,hk,hL⟩:=q1_;subst hz;cases hF;intro a w hr';obtain⟨B,hm,hA,hS⟩:=id hr';obtain⟨v,h1,h2⟩:=aI2 hr hT hA hS hv;obtain⟨B',hm',_,hS'⟩:=hr'.Y8 is hL;have hB':B'=[]:=(by simp_all);subst hB';refine⟨hA.d,v,h2,y,?_,aj⟩;rw[<-hx] at hk ⊢;have:=TH hk (by rw[aIV];exact h1);grind
theorem nP{Z:Act->World->Prop}[aM O](E:CO O)(h:Nat)(is ks:List Nat){s:AC}{l:List O}(x:O)(y:E.ex)(q0_:L[h]?=some (.o (sI (s.v l.length) l k))/\L[h+1]?=some (.box nb cs0)/\L[h+2]?=some (wOf O nb s l.length k)/\aU (λi=>L[i]?) is=some (E.Lx x y)/\nbL cs0=E.cs x y/\aU (bL []) (E.cs x y)=some ec/\dJ (h::(h+1)::is)=true/\aU (D4 e) ks=some (ks.map λ_=>.h s l.length))
  (kk:∀a w,oZ n c B0 m (ovh (.h s (l.set k x).length) e ks) (HT L (h::(h+1)::is)++[ow s (l.set k x)]) a w->Z a w):∀a w,oZ n c B0 m e L a w->Z a w:=by
 obtain⟨hs,hb,hv,hi,hc,hec,ha,hk⟩:=q0_;intro a w ⟨B,hm,hA,hS⟩;obtain⟨h1,h2⟩:=a69 E h (h+1) (h+2) is ks x y hs hb hv hi hc hec ha hk hA hS;exact kk a w ⟨B,hm,h1,h2⟩
end
def wAt(n:Nat):List Ch->Option (Nat×Nat)
 |[]=>none
 |.w k b z::L=>match Nat.beq n k with
  |true=>some (b,z)
  |false=>wAt n L
 |_::L=>wAt n L
theorem TM{n b z:Nat}:∀{L:List Ch},wAt n L=some (b,z)->Ch.w n b z∈L
 |[],h=>by cases h
 |x::L,h=>by
  cases x with
  |w k b' z'=>
   simp only[wAt] at h;split at h
   ·simp_all
   ·exact lE _ (TM h)
  |box k cs=>exact lE _ (TM (L:=L) h)
  |ro k cs=>exact lE _ (TM (L:=L) h)
  |o ch=>exact lE _ (TM (L:=L) h)
  |f g=>exact lE _ (TM (L:=L) h)
  |no=>exact lE _ (TM (L:=L) h)
section
variable {P:Program} {T:TT} {hT:ED P T} {n:Nat} {c:Ctx} {B0:Bl} {N:Act->World->Prop} {X:Nat->Act->World->Prop} {Q:Act->World->Prop} {K K':List Fr} {m m':Nat} {e e':SE} {L L' Lv:List Ch} {cf cf1 cf2:uH} {o:Oper} {d:Nat}
theorem nB[aM O](nb:Nat){s:AC}{ls:List O}{x:O}{k2:TK}(hsh:Shp s ls.length)(hi:idx ls i=some x)(q0_:jE T n K cf m e L=.idx o d t s ls.length i Lv cf1 cf2 K' m' e' L'/\wAt nb Lv=some (WB (s.v ls.length),VA (aM.n O) i.toNat (s.v ls.length))/\wU T t=some ⟨.sl el,b1,n1,z1⟩/\wU T el=some ⟨k2,b2,sz,z2⟩/\aM.n O=sz)
  (k:G (.mk P T hT n c B0 N X Q) K' m' ((d,.p nb 0)::e') L' cf2):G (.mk P T hT n c B0 N X Q) K m e L cf:=by
 obtain⟨hs,hw,ht,he,hn⟩:=q0_;obtain⟨p,hp⟩:=List.mem_iff_getElem?.1 (TM hw);grind[ie]
end
def CZ.o{O:Type}[aM O](C:CZ O)(Lx:O->C.ex->List Ch)(pk:∀{q y ec},aU (bL []) (C.cs q y)=some ec->OP ec q ((Lx q y).map (lF [])))(no:∀q y,noF (Lx q y)=true)(nb:∀q y B,(Lx q y).map (lF B)=(Lx q y).map (lF [])):CO O:=
 ⟨C.ex,C.cs,Lx,λh=>let ⟨y,h1,_⟩:=C.ok (aM.own_rd h);⟨y,h1⟩,pk,no,nb⟩
def oI:CO Int:=cI.o (λ_ _=>[]) (λh=>by cases h;exact dZ rfl) (λ_ _=>rfl) (λ_ _ _=>rfl)
def oU:CO UInt8:=cU.o (λ_ _=>[]) (λh=>by cases h;exact dZ rfl) (λ_ _=>rfl) (λ_ _ _=>rfl)
theorem TN[aM O][Flat O]{cs:List Value}{d:O}(h:aM.rd F0 default cs d)(w:World):aM.own w cs d F0:=Flat.own_of h
section
variable {P:Program} {T:TT} {hT:ED P T} {n:Nat} {c:Ctx} {B0:Bl} {N:Act->World->Prop} {X:Nat->Act->World->Prop} {Q:Act->World->Prop} {K K':List Fr} {m m':Nat} {e e':SE} {L L':List Ch} {cf:uH}
variable {b:Bool} {O:Type} {A B':Option O} {q:Option O}
theorem csK{o:Operand}{x:Code}(ss:List Nat)(hs:jE T n K cf m e L=.cond o b x y K' m' e' L')(ho:aU (D4 e') ss=some (ss.map λ_=>SV.b b))(hF:(if b=true then A else B')=q)
  (k1:b=true->A=q->G (.mk P T hT n c B0 N X Q) K' m' (ovr true e' ss) L' (.c x)) (k2:b=false->B'=q->G (.mk P T hT n c B0 N X Q) K' m' (ovr false e' ss) L' (.c y)):G (.mk P T hT n c B0 N X Q) K m e L cf:=
 gQ (g:=.mk P T hT n c B0 N X Q) (by
  rw[hs];intro he a w hr;have ⟨B,hm,hA,hS⟩:=hr;obtain⟨v,h1,h2⟩:=eD hA he;cases h1;refine aIT hA.env h2 (λhc=>?_) (λhc=>?_)
  ·rw[aN hc] at hF;exact k1 hc hF a w (aI1 hc ss ho hr)
  ·rw[aP aj] at hF;exact k2 hc hF a w (aI1 hc ss ho hr))
end
section
variable {P:Program} {T:TT} {hT:ED P T} {n:Nat} {c:Ctx} {B0:Bl} {N:Act->World->Prop} {X:Nat->Act->World->Prop} {Q:Act->World->Prop} {K K':List Fr} {m m':Nat} {e e':SE} {L L' Lv:List Ch} {cf cf1 cf2:uH} {o:Oper} {d:Nat}
theorem aRM[aM O]{l:List O}(L2:AC->List Ch)(hs:jE T n K cf m e L=.op o Lv cf1 cf2 K' m' e' L')(hd:o.dst=some d)(hz:∀s',Frz (.mk P T hT n c B0 N X Q) cf1 L' (L2 s'))(h:∀B a w,gP n B e' a->kX c w B L'->∃s' w',eR P o (vE B e') w (AC.v s' l.length) w'/\kX c w' B (L2 s'))
  (k:∀s':AC,G (.mk P T hT n c B0 N X Q) K' m' ((d,.h s' l.length)::e') (L2 s') cf2):G (.mk P T hT n c B0 N X Q) K m e L cf:=by
 refine gQ (g:=.mk P T hT n c B0 N X Q) ?_;rw[hs];intro hdn _ hE;refine hE AC (λ_=>m') (λs'=>(d,.h s' l.length)::e') L2 hz (λB a w next Q' hm hA hS hnext=>?_) k;obtain⟨s',w',k1,k2⟩:=h _ a w hA hS;unfold Oper.wp;rw[k1 _ a hA.env,Oper.upon_value,hd];exact hnext s' _ _ ⟨[],aj,by simpa using hA.of (by simp[fB,gV,bL]) (hA.env.put (by grind[qI,vX]) _),aj⟩
theorem aEY[aM O]{v:Value}{l:List O}(h:St c w A R)(i:Nat)(hi:A[i]?=some (eQ [v] l)):∃s':AC,v=s'.v l.length:=by obtain⟨ad,cp,h2,_⟩:=aJ9 (h.aZR i hi);exact⟨⟨ad,cp⟩,h2⟩
section
variable {x y:Operand} {t el sz:Nat} {zv:Value} {b1:Bool} {n1:Nat} {z1:List SV}
theorem lt0[aM O](hinf:VB P el sz zv)(q0_:jE T n K cf m e L=.op o Lv cf1 cf2 K' m' e' L'/\(o.op,o.dst)=(.buildSlice t 0 #[],some d)/\wU T t=some ⟨.sl el,b1,n1,z1⟩/\aM.n O=sz)
  (k:∀s':AC,G (.mk P T hT n c B0 N X Q) K' m' ((d,.h s' ([]:List O).length)::e') (L'++[ow s' ([]:List O)]) cf2):G (.mk P T hT n c B0 N X Q) K m e L cf:=by
 obtain⟨hs,ho,ht,hn⟩:=q0_;refine aRM (l:=([]:List O)) (λs'=>L'++[ow s' ([]:List O)]) hs (cA Prod.snd ho) (λ_=>sS _) (λB a w hA hS=>?_) k;obtain⟨⟨R,s1,s2⟩,s0⟩:=hS;obtain⟨v,w',k1,k2⟩:=bB6 (O:=O) (e:=vE B e') (o:=o) s1 hn (EE ht hT) hinf (cA Prod.fst ho);obtain⟨s',rfl⟩:=aEY (v:=v) (l:=([]:List O)) k2 (L'.map (lF B)).length ae;refine⟨s',w',k1,⟨⟨R,by grind[lF],λz hz=>?_⟩,s0⟩⟩;rcases dE.1 hz with hz|hz
 ·grind
 ·simp at hz;subst hz;trivial
theorem EF{g:Gx}{cf:uH}{L:List Ch}(hn:fO j cf.wW=true):Frz g cf L (L.set j z):=by have:=aRK (g:=g) (M:=[]) (z:=z) (L:=L) hn;grind
theorem ap[aM O][Flat O]{A:Option β}{q:β}{s s2:AC}{l xs:List O}(i:Nat)(hinf:VB P el sz zv)(hs:jE T n K cf m e L=.op o Lv cf1 cf2 K' m' e' L')(ho:(o.op,o.dst)=(.call {callee:=.builtin .append,args:=#[x,y],argTypes:=#[t,t]},some d))(ht:wU T t=some ⟨.sl el,b1,n1,z1⟩)(hn:aM.n O=sz)(hzs:zv.cells.size=sz)(hi:L'[i]?=some (ow s l))(hz:fO i cf1.wW=true)(hsrc:∀{w},HS c w L'->bI (dQ w) s2 xs)(hx:iO e' x=some (.h s l.length))(hy:iO e' y=some (.h s2 xs.length))(hF:need (l.length+xs.length<=1073741824) A=some q)
  (k:A=some q->∀s':AC,G (.mk P T hT n c B0 N X Q) K' m' ((d,.h s' (l++xs).length)::e') (L'.set i (ow s' (l++xs))) cf2):G (.mk P T hT n c B0 N X Q) K m e L cf:=by
 refine aRM (l:=l++xs) (λs'=>L'.set i (ow s' (l++xs))) hs (cA Prod.snd ho) (λ_=>EF hz) (λB a w hA hS=>?_) (k (lX hF).2);have hr:bI (dQ w) s2 xs:=hsrc ⟨_,hS⟩;obtain⟨⟨R,s1,s2'⟩,s0⟩:=hS;have hj2:(L'.map (lF B))[i]?=some (eQ [s.v l.length] l):=by simp[hi,lF]
 obtain⟨v,w',k1,k2⟩:=a2S i s1 hj2 hr hn (EE ht hT) hinf hzs (lX hF).1 (cA Prod.fst ho) (hdB hA hx) (hdB hA hy);have hlt:i<L'.length:=(AP.1 hi).1;obtain⟨s',rfl⟩:=aEY k2 i (by rw[List.getElem?_set_self aj]);refine⟨s',w',k1,⟨⟨R,?_,λz hz=>?_⟩,s0⟩⟩
 ·rw[LD];exact k2
 ·rcases qW hz with hz|hz
  ·grind
  ·subst hz;trivial
end
end
theorem aT5{l:List O}{x:O}(h:idx l i=some x):l.set i.toNat x=l:=by obtain⟨hk,h2⟩:=AP.1 (AT h).2.2;rw[<-h2];simp
section
variable {P:Program} {T:TT} {hT:ED P T} {n:Nat} {c:Ctx} {B0:Bl} {N:Act->World->Prop} {X:Nat->Act->World->Prop} {Q:Act->World->Prop} {K K':List Fr} {m m':Nat} {e e':SE} {L L' Lv:List Ch} {cf cf' cf1 cf2:uH} {o:Oper} {d:Nat}
theorem cqS[aM O](E:CO O)(h:Nat)(is:List Nat){s:AC}{l:List O}{x:O}(hx:idx l i=some x)(y:E.ex)(q0_:RU (jE T n K cf m e L)=some (K',cf',m',e',L')/\L'[h]?=some (.o (sI (s.v l.length) l i.toNat))/\L'[h+1]?=some (.box nb cs0)/\L'[h+2]?=some (wOf O nb s l.length i.toNat)/\aU (λi=>L'[i]?) is=some (E.Lx x y)/\nbL cs0=E.cs x y/\aU (bL []) (E.cs x y)=some ec/\dJ (h::(h+1)::is)=true/\((h::(h+1)::is).all λj=>fO j cf'.wW)=true)
  (kk:G (.mk P T hT n c B0 N X Q) K' m' e' (HT L' (h::(h+1)::is)++[ow s l]) cf'):G (.mk P T hT n c B0 N X Q) K m e L cf:=
 let ⟨h0,hs,hb,hv,hi,hc,hec,ha,hz⟩:=q0_;ceS E h is [] x y h0 hs hb hv hi hc hec ha hz rfl (by rw[aT5 hx];exact kk)
theorem kO{Z:Act->World->Prop}[aM O](E:CO O)(h:Nat)(is:List Nat){s:AC}{l:List O}{x:O}(hx:idx l i=some x)(y:E.ex)(q0_:L[h]?=some (.o (sI (s.v l.length) l i.toNat))/\L[h+1]?=some (.box nb cs0)/\L[h+2]?=some (wOf O nb s l.length i.toNat)/\aU (λi=>L[i]?) is=some (E.Lx x y)/\nbL cs0=E.cs x y/\aU (bL []) (E.cs x y)=some ec/\dJ (h::(h+1)::is)=true)
  (kk:∀a w,oZ n c B0 m e (HT L (h::(h+1)::is)++[ow s l]) a w->Z a w):∀a w,oZ n c B0 m e L a w->Z a w:=
 let ⟨hs,hb,hv,hi,hc,hec,ha⟩:=q0_;nP E h is [] x y ⟨hs,hb,hv,hi,hc,hec,ha,rfl⟩ (by rw[aT5 hx];exact kk)
section
variable {x:Operand} {t el:Nat} {zv:Value} {b1:Bool} {n1:Nat} {z1:List SV}
theorem lt1{k:IntKind}(hk:k=.i64)(hinf:VB P el 1 zv)(hs:jE T n K cf m e L=.op o Lv cf1 cf2 K' m' e' L')(ho:(o.op,o.dst)=(.buildSlice t 1 #[(0,x)],some d))(ht:wU T t=some ⟨.sl el,b1,n1,z1⟩)(hx:(iO e' x).bind qY=some (k,i))
  (kk:∀s':AC,G (.mk P T hT n c B0 N X Q) K' m' ((d,.h s' [i].length)::e') (L'++[ow s' [i]]) cf2):G (.mk P T hT n c B0 N X Q) K m e L cf:=by
 subst hk;refine aRM (l:=[i]) (λs'=>L'++[ow s' [i]]) hs (cA Prod.snd ho) (λ_=>sS _) (λB a w hA hS=>?_) kk;obtain⟨⟨R,s1,s2⟩,s0⟩:=hS;obtain⟨v,w',k1,k2⟩:=bB7 (O:=Int) (e:=vE B e') (o:=o) i s1 rfl (EE ht hT) hinf (c0:=.int .i64 i) rfl (cA Prod.fst ho) (wT hA hx) rfl;obtain⟨s',rfl⟩:=aEY (v:=v) (l:=[i]) k2 (L'.map (lF B)).length ae;refine⟨s',w',k1,⟨⟨R,by grind[lF],λz hz=>?_⟩,s0⟩⟩;rcases dE.1 hz with hz|hz
 ·grind
 ·simp at hz;subst hz;trivial
end
end
theorem bI.sub[aM O]{s s':AC}{l:List O}{a b:Nat}(h:bI c s l)(hp:iU (aM.n O) a b (s.v l.length)=s'.v ((l.take b).drop a).length)(hb:a<=b/\b<=l.length):bI c s' ((l.take b).drop a):=by have:=aW7 (n:=aM.n O) rfl h hb.1 hb.2;rw[hp] at this;exact this
theorem Sep.perm{B:List Chunk}(h:A.Perm B):∀{F:cC},Sep w A F->Sep w B F:=by
 induction h with
 |nil=>simp
 |cons a _ ih=>exact λ⟨F1,F2,h1,h2,hd,hF⟩=>⟨F1,F2,h1,ih h2,hd,hF⟩
 |swap a b L=>
  intro F h;have h:Sep w (([b]++[a])++L) F:=h;obtain⟨F1,F2,h1,h2,hd,hF⟩:=Sep.append.1 h;exact(Sep.append (A:=[a]++[b])).2 ⟨F1,F2,h1.swap,h2,hd,hF⟩
 |trans _ _ i1 i2=>grind
theorem St.via{B:List Chunk}(h:St c w A R)(hs:∀F,Sep w A F->Sep w B F):St c w B R:=by obtain⟨F,S,hsep,rest⟩:=h.sep;exact⟨h.keep,⟨F,S,hs F hsep,rest⟩,h.apart⟩
structure PV where
 b:Nat
 z:Nat
 A:List Value
 V:List Value
 C:List Value
def PV.whole(p:PV):Chunk:=WO p.b p.z (p.A++(p.V++p.C))
def PV.mid(p:PV):Chunk:=WO p.b (p.z+p.A.length) p.V
def PV.rest(p:PV):List Chunk:=[WO p.b p.z p.A,WO p.b (p.z+p.A.length+p.V.length) p.C]
theorem bFZ{a v c:O}{M R:List O}:(a::v::c::(M++R)).Perm (v::(M++(a::c::R))):=by refine(List.Perm.swap v a _).trans (List.Perm.cons v ?_);exact((List.perm_middle (a:=c)).symm.cons a).trans (List.perm_middle (a:=a)).symm
theorem bKL{w:World}:∀{ps:List PV} {F:cC},Sep w (ps.map PV.whole) F->Sep w (ps.map PV.mid++ps.flatMap PV.rest) F
 |[],F,h=>h
 |p::ps,F,h=>by obtain⟨F1,F2,h1,h2,hd,hF⟩:=h;exact Sep.perm bFZ (Sep.append.2 ⟨F1,F2,a2U h1,bKL h2,hd,hF⟩)
theorem bKM{w:World}:∀{ps:List PV} {F:cC},Sep w (ps.map PV.mid++ps.flatMap PV.rest) F->Sep w (ps.map PV.whole) F
 |[],F,h=>h
 |p::ps,F,h=>by have h2:Sep w ([WO p.b p.z p.A,p.mid,WO p.b (p.z+p.A.length+p.V.length) p.C]++(ps.map PV.mid++ps.flatMap PV.rest)) F:=Sep.perm (bFZ (M:=ps.map PV.mid) (R:=ps.flatMap PV.rest)).symm h;obtain⟨F1,F2,h1,h3,hd,hF⟩:=Sep.append.1 h2;exact⟨F1,F2,a5Z h1,bKM h3,hd,hF⟩
theorem St.bF0{M:List Chunk}(h:St c w (A++M) R)(s0:∀b o,c.S0 b o->b<c.w0.heap.size) :
  ∃U:Ctx,U.w0=w/\(∀b o,U.S0 b o->b<w.heap.size)/\St U w A []/\(∀f:Fact,f.P c.S0 c.w0->f.P U.S0 w)/\(∀f∈R,f.P U.S0 w) /\
   (∀ch∈M,∀f:Fact,(∀w F,ch.P w F->f.P F w)->f.P U.S0 w)/\∀w' A' R',St U w' A' R'->St c w' (A'++M) R:=by
 obtain⟨F,S,hsep,hFS,hFW,hSS,hSlt,hR⟩:=h.sep;obtain⟨F1,F2,h1,h2,hd,hF⟩:=Sep.append.1 hsep;have hk0:c.w0.heap.size<=w.heap.size:=h.keep.size;have h1S0:∀b o,F1 b o->c.S0 b o->False:=λb o p q=>by
  rcases hFW b o ((hF b o).2 (.inl p)) with hw|hw
  ·exact h.apart b o hw q
  grind
 have hlt:∀b o,(S b o\/F2 b o)\/c.S0 b o->b<w.heap.size:=by
  rintro b o ((q|q)|q)
  ·grind
  ·exact Sep.lt h2 q
  grind
 have hap:∀b o,F1 b o->((S b o\/F2 b o)\/c.S0 b o)->False:=by
  rintro b o p ((q|q)|q)
  ·exact hFS b o ((hF b o).2 (.inl p)) q
  ·exact hd b o p q
  grind
 refine⟨⟨w,F1,λb o=>(S b o\/F2 b o)\/c.S0 b o⟩,rfl,hlt,⟨eC.refl _ _,⟨F1,λb o=>(S b o\/F2 b o)\/c.S0 b o,h1,hap,λ_ _ h=>.inl h,λ_ _ h=>.inl h,hlt,ae⟩,hap⟩,λf hf=>?_,λf hf=>f.mono (hR f hf) λb o q=>.inl (.inl q),λch hch f hf=>?_,?_⟩
 ·exact f.mono (f.agree hf λb o q=>h.keep.cell b o (s0 b o q) λhw=>h.apart b o hw q) λb o q=>.inr q
 ·obtain⟨j,hj⟩:=aGC hch;obtain⟨G1,G2,g1,_,_,gF⟩:=(Sep.take hj).1 h2;exact f.mono (hf w G1 g1) λb o q=>.inl (.inr ((gF b o).2 (.inl q)))
 ·intro w' A' R' k;obtain⟨F',S',b1,b2,b3,b4,b5,b6⟩:=k.sep;have hk:eC F1 w w':=k.keep;have hGW:∀b o,b<c.w0.heap.size->F1 b o->c.W b o:=λb o hb g=>aj
  refine⟨h.keep.trans hk hGW,⟨λb o=>F' b o\/F2 b o,S,Sep.append.2 ⟨F',F2,b1,Sep.keep hk h2 λb o hf g=>hd b o g hf,?_,λ_ _=>Iff.rfl⟩,?_,?_,hSS,λb o hS=>HE (hSlt b o hS) hk.size,?_⟩,h.apart⟩
  ·intro b o hg hf;grind
  ·rintro b o (hf|hf) hS
   ·grind
   ·exact hFS b o ((hF b o).2 (.inr hf)) hS
  ·grind
  ·intro f hf;exact f.agree (hR f hf) λb o hS=>hk.cell b o (hSlt b o hS) λg=>hFS b o ((hF b o).2 (.inl g)) hS
abbrev PS:=List (Nat×Nat×Nat×Nat)
def aRN:Nat->List (List SV)->List Ch
 |_,[]=>[]
 |k,c::r=>.box k c::aRN (k+1) r
def O0(L:List Ch)(i n:Nat):List SV:=match L[i]? with
 |some (.box k cs)=>match Nat.beq n k with
  |true=>cs
  |false=>[]
 |_=>[]
def aKO(L:List Ch):PS->Option (List (List SV))
 |[]=>some []
 |(i,n,o,k)::r=>match Nat.ble (o + k) (O0 L i n).length,Nat.ble 1 k,frc (((O0 L i n).drop o).take k),aKO L r with
  |true,true,some d,some ds=>some (d::ds)
  |_,_,_,_=>none
def OG(L M:List Ch):PS->List (List SV)->List Ch
 |(i,n,o,_)::r,c::cs=>OG L (M.set i (.box n (ovw (O0 L i n) o c))) r cs
 |_,_=>M
def HA:PS->List Nat
 |[]=>[]
 |p::r=>p.1::HA r
def rnP:PS->Nat->SV->Option SV
 |[],_,x=>match yQ 0 x with
  |true=>some x
  |false=>none
 |(_,n,o,_)::r,j,x=>match x with
  |.p n' o'=>match Nat.beq n n',Nat.beq o o' with
   |true,true=>some (.p j 0)
   |_,_=>rnP r (j+1) (.p n' o')
  |x=>rnP r (j+1) x
structure HG (c U:Ctx) (L:List Ch) (js:List Nat):Prop where
 a:∀{O:Type} [aM O] {s:AC} {d:List O},bI c s d->bI U s d
 o:∀{O:Type} [aM O] {s:AC} {d:List O} (i:Nat),L[i]?=some (ow s d)->fO i js=true->bI U s d
 f:∀{O:Type} [aM O] {s:AC} {d:List O} (i:Nat),L[i]?=some (fr s d)->bI U s d
def PvR(B:Bl)(L:List Ch):PS->List (List SV)->List PV->Prop
 |[],[],[]=>True
 |(i,n,o,k)::r,d::ds,p::ps=>(∃cs vs,L[i]?=some (.box n cs)/\B[n]?=some (p.b,p.z)/\aU (bL B) cs=some vs/\o+k<=cs.length/\p.A=vs.take o/\p.V=(vs.drop o).take k/\p.C=vs.drop (o+k)/\d=(cs.drop o).take k)/\PvR B L r ds ps
 |_,_,_=>False
def blP(pv:List PV):Bl:=pv.map λp=>(p.b,p.z+p.A.length)
section
variable {c:Ctx} {w:World} {B:Bl} {L:List Ch} {R:List Fact}
theorem aT7{i:Nat}{x:SV}{r:List SV}(h:O0 L i n=x::r):L[i]?=some (.box n (x::r)):=by
 unfold O0 at h;split at h
 ·rename_i k cs hk;grind[oW]
 ·cases h
theorem bF1(hS:St c w (L.map (lF B)) R):∀{ps:PS} {ds:List (List SV)},aKO L ps=some ds->∃pv,PvR B L ps ds pv
 |[],ds,h=>by cases h;exact⟨[],trivial⟩
 |(i,n,o,k)::r,ds,h=>by
  simp only[aKO] at h;split at h
  ·rename_i d ds' h1 h2 h3 h4;cases h;have h1:=RO h1;have h2:=RO h2;obtain⟨pv,hpv⟩:=bF1 hS h4;have h3:=TG h3;subst h3;cases hc:O0 L i n with
   |nil=>grind
   |cons x cs=>
    have hL:=aT7 hc;obtain⟨F,b,z,vs,g1,g2,g3⟩:=hS.chunk (ch:=TF B n (x::cs)) i (by simp[hL,lF]);exact⟨⟨b,z,vs.take o,(vs.drop o).take k,vs.drop (o+k)⟩::pv,⟨x::cs,vs,hL,g1,g2,aj,rfl,rfl,rfl,ae⟩,hpv⟩
  ·cases h
theorem parts{o:Nat}:vs.take o++((vs.drop o).take k++vs.drop (o+k))=vs:=by grind[List.drop_drop,aAC]
theorem a0L{F:cC}:∀{ps:PS} {ds:List (List SV)} {pv:List PV} {F:cC},PvR B L ps ds pv->Sep w (pick (L.map (lF B)) (HA ps)) F->Sep w (pv.map PV.whole) F
 |[],[],[],F,_,h=>h
 |(i,n,o,k)::r,d::ds,p::ps,F,⟨⟨cs,vs,h1,h2,h3,h4,h5,h6,h7,h8⟩,hr⟩,h=>by simp only[HA,pick,AQ,h1,Option.map_some,aCC] at h;obtain⟨F1,F2,g1,g2,gd,gF⟩:=h;refine⟨F1,F2,?_,a0L (F:=F) hr g2,gd,gF⟩;obtain⟨b,z,vs',k1,k2,k3⟩:=g1;grind[PV.whole,parts]
theorem aXN{p:PV}{ps:List PV}(h:∀i,Bs[j+i]?=(blP (p::ps))[i]?):Bs[j]?=some (p.b,p.z+p.A.length)/\∀i,Bs[j+1+i]?=(blP ps)[i]?:=by
 refine⟨?_,λi=>?_⟩
 ·have:=h 0;grind[blP]
 ·have:=h (i+1);grind[blP]
theorem a7B{Bs:Bl}:∀{ps:PS} {ds:List (List SV)} {pv:List PV} {j:Nat} {F:cC},PvR B L ps ds pv->ds.all (yQ.okC 0)=true->(∀i,Bs[j+i]?=(blP pv)[i]?)->Sep w (pv.map PV.mid) F->Sep w ((aRN j ds).map (lF Bs)) F
 |[],[],[],_,F,_,_,_,h=>h
 |(i,n,o,k)::r,d::ds,p::ps,j,F,⟨⟨cs,vs,h1,h2,h3,h4,h5,h6,h7,h8⟩,hr⟩,ho,hB,h=>by
  simp only[aN8,wS] at ho;obtain⟨F1,F2,g1,g2,gd,gF⟩:=h;obtain⟨b1,b2⟩:=aXN hB;refine⟨F1,F2,⟨p.b,p.z+p.A.length,p.V,b1,?_,g1⟩,a7B hr ho.2 b2 g2,gd,gF⟩;have e1:aU (bL B) d=some p.V:=by grind[RX,RW]
  have e2:=BT ho.1 e1;rw[List.take_zero] at e2;exact eV (λx v h=>by simpa using gA (B:=[]) Bs h) e2
theorem aXO{Bs:Bl}:∀{ps:PS} {ds:List (List SV)} {pv:List PV} {j:Nat} {x x':SV} {v:Value},PvR B L ps ds pv->(∀i,Bs[j+i]?=(blP pv)[i]?)->rnP ps j x=some x'->fB B x=some v->fB Bs x'=some v
 |[],[],[],j,x,x',v,_,_,hx,hv=>by
  simp only[rnP] at hx;split at hx
  ·rename_i h0;cases hx;have:=TH h0 hv;rw[List.take_zero] at this;simpa using vZ (B:=[]) Bs this
  ·cases hx
 |(i,n,o,k)::r,d::ds,p::ps,j,x,x',v,⟨⟨cs,vs,h1,h2,h3,h4,h5,h6,h7,h8⟩,hr⟩,hB,hx,hv=>by
  obtain⟨b1,b2⟩:=aXN hB;simp only[rnP] at hx;split at hx
  ·rename_i n' o';split at hx
   ·rename_i e1 e2;cases hx;have e1:=oW e1;have e2:=oW e2;subst e1;subst e2;simp only[fB,gV,bL,h2] at hv;have hA:p.A.length=o:=by grind[lM]
    simp_all[fB,gV,bL]
   ·exact aXO hr b2 hx hv
  ·exact aXO hr b2 hx hv
theorem aRO{Bs:Bl}{ps:PS}{ds:List (List SV)}{pv:List PV}(hr:PvR B L ps ds pv)(hB:∀i,Bs[0+i]?=(blP pv)[i]?):∀{xs xs':List SV} {vs:List Value},aU (rnP ps 0) xs=some xs'->aU (fB B) xs=some vs->aU (fB Bs) xs'=some vs
 |[],_,_,h,hv=>by cases h;exact hv
 |x::xs,xs',vs,h,hv=>by
  simp only[aU] at h hv;split at h
  ·cases h
  ·rename_i h1;split at h
   ·cases h
   ·rename_i h2;cases h;split at hv
    ·cases hv
    ·rename_i v1;split at hv
     ·cases hv
     ·rename_i v2;cases hv;simp only[aU,aXO hr hB h1 v1,aRO hr hB h2 v2]
def PvN(B:Bl):List PV->List (List SV)->List PV->Prop
 |[],[],[]=>True
 |p::ps,d::ds,q::qs=>(q.b=p.b/\q.z=p.z/\q.A=p.A/\q.C=p.C/\q.V.length=p.V.length/\aU (bL B) d=some q.V)/\PvN B ps ds qs
 |_,_,_=>False
theorem aT8:∀{ps:List PV} {ds:List (List SV)} {qs:List PV},PvN B ps ds qs->qs.flatMap PV.rest=ps.flatMap PV.rest/\blP qs=blP ps
 |[],[],[],_=>⟨rfl,rfl⟩
 |p::ps,d::ds,q::qs,⟨⟨h1,h2,h3,h4,h5,h6⟩,hr⟩=>by obtain⟨e1,e2⟩:=aT8 hr;simp_all[PV.rest,blP]
def aCO:PS->List (List SV)->Bool
 |[],[]=>true
 |(_,_,_,k)::r,d::ds=>match Nat.beq d.length k with
  |true=>aCO r ds
  |false=>false
 |_,_=>false
theorem a7C:∀{ps:PS} {ds:List (List SV)} {pv:List PV},PvR B L ps ds pv->pv.length=ps.length
 |[],[],[],_=>rfl
 |(i,n,o,k)::r,d::ds,p::ps,⟨_,hr⟩=>by simp[a7C hr]
theorem a0M{Bs:Bl}:∀{ps:PS} {ds:List (List SV)} {pv:List PV} {es:List (List SV)} {j:Nat},PvR B L ps ds pv->aCO ps es=true->es.all (yQ.okC 0)=true->(∀i,Bs[j+i]?=(blP pv)[i]?)->(∀i cs,es[i]?=some cs->∃F,(TF Bs (j+i) cs).P w F)->∃qs,PvN B pv es qs/\jP w ((aRN j es).map (lF Bs)) (qs.map PV.mid)
 |[],[],[],[],j,_,_,_,_,_=>⟨[],trivial,.nil⟩
 |[],[],[],e::es,j,_,hl,_,_,_=>by grind[aCO]
 |(i,n,o,k)::r,d::ds,p::ps,[],j,_,hl,_,_,_=>by grind[aCO]
 |(i,n,o,k)::r,d::ds,p::ps,e::es,j,⟨⟨cs,vs,h1,h2,h3,h4,h5,h6,h7,h8⟩,hr⟩,hl,ho,hB,hc=>by
  simp only[aCO] at hl;split at hl
  ·rename_i he;have he:=oW he;simp only[aN8,wS] at ho;obtain⟨b1,b2⟩:=aXN hB;obtain⟨qs,q1,q2⟩:=a0M hr hl ho.2 b2 λi cs hi=>by have:=hc (i+1) cs aj;grind
   obtain⟨F,b,z,us,g1,g2,g3⟩:=hc 0 e rfl;have hlen:=lM h3;have g4:=BT ho.1 g2;rw[List.take_zero] at g4;refine⟨⟨p.b,p.z,p.A,us,p.C⟩::qs,⟨⟨rfl,rfl,rfl,rfl,?_,eV (λx v h=>by simpa using gA (B:=[]) B h) g4⟩,q1⟩,.cons (λF hF=>?_) q2⟩
   ·grind[lM]
   ·obtain⟨b',z',us',k1,k2,k3⟩:=hF;rw[show j=j+0 by omega] at b1;simp only[U8] at g2 k2 k1 b1;rw[b1] at k1;cases k1;rw[g2] at k2;cases k2;exact k3
  ·cases hl
theorem aKP:∀{ws vs:List Value} {o:Nat},o+ws.length<=vs.length->aCD vs o ws=vs.take o++(ws++vs.drop (o+ws.length))
 |[],vs,o,h=>by simp[aCD]
 |x::ws,vs,o,h=>by
  simp only[HD] at h;simp only[aCD];rw[aKP ah];have t1:(vs.set o x).take (o+1)=vs.take o++[x]:=by rw[List.take_add_one,List.getElem?_set_self aa];grind[List.take_set,List.set_eq_of_length_le]
  grind[List.drop_set_of_lt]
theorem a7D:∀{ps:PS} {ds es:List (List SV)} {pv qs:List PV} {M:List Ch} {F:cC},PvR B L ps ds pv->PvN B pv es qs->(∀i∈HA ps,M[i]?=some .no)->dJ (HA ps)=true->Sep w (qs.map PV.whole++M.map (lF B)) F->Sep w ((OG L M ps es).map (lF B)) F
 |[],[],[],[],[],M,F,_,_,_,_,h=>h
 |(i,n,o,k)::r,d::ds,e::es,p::ps,q::qs,M,F,⟨⟨cs,vs,h1,h2,h3,h4,h5,h6,h7,h8⟩,hr⟩,⟨⟨n1,n2,n3,n4,n5,n6⟩,hn⟩,hM,ha,h=>by
  simp only[HA,dJ,wS] at ha;have hi:M[i]?=some .no:=hM i (by simp[HA]);have hlt:i<M.length:=(AP.1 hi).1;simp only[OG];refine a7D (ps:=r) (ds:=ds) (es:=es) (pv:=ps) (qs:=qs) hr hn (λj hj=>?_) ha.2 ?_
  ·have hne:i≠j:=λe=>by subst e;have:=Z7.1 ha.1 _ hj;simp at this
   grind[HA]
  ·have h9:Sep w (qs.map PV.whole++(q.whole::M.map (lF B))) F:=Sep.perm List.perm_middle.symm h;obtain⟨F1,F2,g1,g2,gd,gF⟩:=Sep.append.1 h9;refine Sep.append.2 ⟨F1,F2,g1,?_,gd,gF⟩;have hc:O0 L i n=cs:=by simp_all[O0]
   have e0:(M.map (lF B)).set i LN=M.map (lF B):=by
    have:(M.map (lF B))[i]?=some LN:=by simp[hi,lF]
    grind[aPO]
   have e1:Sep w ((M.map (lF B)).set i q.whole) F2:=Sep.put aj aj;rw[LD,hc];refine Sep.imp ?_ e1;refine jP.set i (jP.refl _) λF hF=>⟨p.b,p.z,q.A++(q.V++q.C),h2,?_,by rw[<-n1,<-n2];exact hF⟩;have hlen:=lM h3;have hV:p.V.length=k:=aj
   have hVe:e.length=k:=by grind[lM]
   simp_all[aKF,aCH,aKP]
 |[],[],e::es,[],_,M,F,_,hn,_,_,_=>by grind[PvN]
 |[],[],[],[],q::qs,M,F,_,hn,_,_,_=>by grind[PvN]
 |(i,n,o,k)::r,d::ds,[],p::ps,qs,M,F,_,hn,_,_,_=>by grind[PvN]
 |(i,n,o,k)::r,d::ds,e::es,p::ps,[],M,F,_,hn,_,_,_=>by grind[PvN]
theorem aT9{x:Ch}:∀{ps:PS} {es:List (List SV)} {M:List Ch},x∈OG L M ps es->x∈M\/∃n cs,x=.box n cs
 |[],_,M,h=>.inl (by simpa[OG] using h)
 |(i,n,o,k)::r,[],M,h=>.inl (by simpa[OG] using h)
 |(i,n,o,k)::r,e::es,M,h=>by
  rcases aT9 (ps:=r) (es:=es) (by simpa[OG] using h) with h|h
  ·rcases qW h with h|h
   ·exact .inl h
   ·exact .inr ⟨_,_,h⟩
  ·exact .inr h
end
def cpS:Stop->Option (Oper×Option Nat×FuncId×List SV×uH×uH×List Fr×Nat×SE×List Ch)
 |.call o d f xs cf cf' K m e L=>some (o,d,f,xs,cf,cf',K,m,e,L)
 |.callp o d f xs cf cf' K m e L=>some (o,d,f,xs,cf,cf',K,m,e,L)
 |_=>none
def dse(d:Option Nat)(v:SV)(e:SE):SE:=match d with
 |some d=>(d,v)::e
 |none=>e
def JO:List Ch->Bool
 |[]=>true
 |.o _::L=>JO L
 |_::_=>false
theorem WZ{B B':Bl}:∀{L:List Ch},JO L=true->L.map (lF B)=L.map (lF B')
 |[],_=>rfl
 |.o c::L,h=>by simp only[D9,lF];rw[WZ (L:=L) h]
theorem W5{B:Bl}{R:List Fact}:∀{L:List Ch},JO L=true->∀x∈L,roF B R x
 |[],_,x,hx=>by cases hx
 |.o c::L,h,x,hx=>by
  rcases j3.1 hx with hx|hx
  ·subst hx;trivial
  ·exact W5 (L:=L) h x hx
theorem aUA{B:Bl}{R:List Fact}:∀{cs:List (List SV)} {k:Nat},∀x∈aRN k cs,roF B R x
 |[],k,x,hx=>by cases hx
 |c::cs,k,x,hx=>by
  rcases j3.1 hx with hx|hx
  ·subst hx;trivial
  ·exact aUA x hx
theorem aKQ:∀{cs:List (List SV)} {k i:Nat} {c:List SV},cs[i]?=some c->(aRN k cs)[i]?=some (.box (k+i) c)
 |c'::cs,k,0,c,h=>by simp at h;subst h;rfl
 |c'::cs,k,i + 1,c,h=>by have:=aKQ (k:=k+1) (show cs[i]?=some c by grind);grind[aRN]
theorem aCP{L:List Chunk}:∀{a b:List Nat},pick L (a++b)=pick L a++pick L b
 |[],b=>rfl
 |i::a,b=>by simp only[D7,pick,aCP (a:=a)]
theorem aI4:∀{js:List Nat} {L:List Ch},(HT L js).length=L.length
 |[],L=>rfl
 |j::js,L=>by simp only[HT];rw[aI4];simp
theorem a7E:∀{js:List Nat} {L:List Ch} {i:Nat},i<L.length->L[i]?=some .no\/i∈js->(HT L js)[i]?=some .no
 |[],L,i,_,h=>by rcases h with h|h;exact h;cases h
 |j::js,L,i,hl,h=>by simp only[HT];refine a7E aj ?_;grind
theorem a7F{B:Bl}{L:List Ch}:∀{ps:PS} {ds:List (List SV)} {pv:List PV},PvR B L ps ds pv->∀i∈HA ps,i<L.length
 |[],[],[],_,i,h=>by cases h
 |(i,n,o,k)::r,d::ds,p::ps,⟨⟨cs,vs,h1,_⟩,hr⟩,j,h=>by
  rcases j3.1 h with h|h
  ·grind
  ·exact a7F hr j h
theorem a0O:∀{a b:List Nat},dJ (a++b)=true->dJ a=true
 |[],b,_=>rfl
 |i::a,b,h=>by simp only[D7,dJ,wS,List.all_append] at h ⊢;exact⟨h.1.1,a0O h.2⟩
theorem aUB{g:Gx}(h:Frz g cf L M)(hn:fO j cf.wW=true):Frz g cf L (M.set j z):=by
 cases cf with
 |d B1 ops l is Lf Lv=>
  intro hD;obtain⟨h1,h2⟩:=h hD;have:=ZC (L:=M) (M:=[]) (j:=j) (z:=z) h2 hn;grind
 |o B1 ops l is Lf Lv ii=>
  intro hD;obtain⟨h1,h2⟩:=h hD;have:=ZC (L:=M) (M:=[]) (j:=j) (z:=z) h2 hn;grind
 |_=>trivial
theorem aUC{g:Gx}{cf:uH}{L L0:List Ch}:∀{ps:PS} {es:List (List SV)} {M:List Ch},Frz g cf L M->((HA ps).all λj=>fO j cf.wW)=true->Frz g cf L (OG L0 M ps es)
 |[],_,M,h,_=>by grind[OG]
 |(i,n,o,k)::r,[],M,h,_=>by grind[OG]
 |(i,n,o,k)::r,e::es,M,h,hz=>by simp only[HA,aN8,wS] at hz;exact aUC (ps:=r) (es:=es) (aUB h hz.1) hz.2
theorem aEZ{i:Nat}:∀{js:List Nat},fO i js=true->(js.all λj=>!Nat.beq j i)=true
 |[],_=>rfl
 |j::js,h=>by
  simp only[fO] at h;split at h
  ·cases h
  ·rename_i hb;simp only[aN8,wS,a2K];refine⟨?_,aEZ h⟩;grind[oW]
theorem a7G{g:Gx}{s:Stop}{o:Oper}{d:Option Nat}{f:FuncId}{cf':uH}{K:List Fr}(hs:cpS s=some (o,d,f,xs,cf,cf',K,m,e,L))
  (h:∀fo args ats,o.op=.call {callee:=.value fo,args:=args,argTypes:=ats}->o.dst=d->iO e fo=some (.f f [])->(∃ys,aU (iO e) args.toList=some ys/\nbA ys=xs)->qI g.n d=true->aGI g K m e L o cf cf'->G g K m e L cf):Gs g s:=by
 cases s<;>simp only[cpS] at hs<;>cases hs
 ·exact λfo args ats a1 a2 a3 a4 _ a6 a7=>h fo args ats a1 a2 a3 a4 a6 a7
 ·exact h
section
variable {P:Program} {T:TT} {hT:ED P T} {n:Nat} {c:Ctx} {B0:Bl} {N:Act->World->Prop} {X:Nat->Act->World->Prop} {Q:Act->World->Prop} {K K':List Fr} {m m':Nat} {e e':SE} {L L':List Ch} {cf cf1 cf2:uH} {o:Oper}
theorem cwk{fo:Option O}{kf:O->Option β}{q:β}{d:Option Nat}{f:FuncId}{xs0:List SV}{cs0:List (List SV)}{sv:O->ex->SV}{cb:O->ex->List (List SV)}{Lr:O->ex->List Ch}(ps:PS)(is:List Nat)
  (hs:cpS (jE T n K cf m e L)=some (o,d,f,xs,cf1,cf2,K',m',e',L')) (hb:aKO L' ps=some cs0) (hi:aU (λi=>L'[i]?) is=some M) (hx:aU (rnP ps 0) xs=some xs0)
  (hk:(JO M && (cs0.all (yQ.okC 0) && (dJ (HA ps++is) && (HA ps++is).all λj=>fO j cf1.wW)))=true)
  (hn:∀x y,(aCO ps (cb x y) && ((cb x y).all (yQ.okC 0) && (JO (Lr x y) && yQ 0 (sv x y))))=true)
  (hc:∀{U:Ctx},HG c U L' (HA ps++is)->∀{Bs:Bl},Bs.length=ps.length->∀{x},fo=some x->FnS P f U xs0 Bs (aRN 0 cs0++M) sv (λx y=>aRN 0 (cb x y)++Lr x y) x)
  (hF:fo.bind kf=some q)
  (k:∀x,fo=some x->kf x=some q->∀y:ex,G (.mk P T hT n c B0 N X Q) K' m' (dse d (sv x y) e') (OG L' (HT L' (HA ps++is)++Lr x y) ps (cb x y)) cf2):G (.mk P T hT n c B0 N X Q) K m e L cf:=by
 refine gQ (g:=.mk P T hT n c B0 N X Q) (a7G hs ?_);intro fo' args ats ho hd hf ⟨ys,hys,hxs⟩ hdn hE;simp only[wS] at hk hn;obtain⟨hkM,hkc,hka,hkz⟩:=hk;cases hfo:fo with
 |none=>grind
 |some x=>
  rw[hfo] at hF;have hz2:((HA ps).all λj=>fO j cf1.wW)=true:=aj
  refine hE ex (λ_=>m') (λy=>dse d (sv x y) e') (λy=>OG L' (HT L' (HA ps++is)++Lr x y) ps (cb x y)) (λy=>aUC (TL _ hkz) hz2) (λB a w next Q' hm hA hS hnext=>?_) (k x hfo hF);generalize hBB:WX (.mk P T hT n c B0 N X Q) cf1++B=BB at hm hA hS hnext;obtain⟨⟨R,s1,s2⟩,s0⟩:=hS;obtain⟨pv,hpv⟩:=bF1 s1 hb;have hBs:(blP pv).length=ps.length:=by grind[blP,a7C]
  have hB0:∀i,(blP pv)[0+i]?=(blP pv)[i]?:=λi=>ae
  have f1:=s1.front (HA ps++is) hka;have f2:St c w ((pv.map PV.mid++M.map (lF BB))++(pv.flatMap PV.rest++blank (L'.map (lF BB)) (HA ps++is))) R:=by refine f1.via λF h=>?_;rw[aCP,OZ hi] at h;obtain⟨F1,F2,g1,g2,gd,gF⟩:=Sep.append.1 h;obtain⟨F3,F4,g3,g4,gd2,gF2⟩:=Sep.append.1 g1;have g5:=bKL (a0L (F:=F) hpv g3);have g6:Sep w (((pv.map PV.mid++pv.flatMap PV.rest)++M.map (lF BB))++blank (L'.map (lF BB)) (HA ps++is)) F:=Sep.append.2 ⟨F1,F2,Sep.append.2 ⟨F3,F4,g5,g4,gd2,gF2⟩,g2,gd,gF⟩;refine Sep.perm ?_ g6;grind[List.Perm.append_left,List.Perm.append_right,List.perm_append_comm]
  obtain⟨U,k1,k2,k3,k4,k5,k6,k7⟩:=f2.bF0 s0;subst k1;have hHG:HG c U L' (HA ps++is):=by
   refine⟨λ{O} _ {s d} h=>k4 (fRd [s.v d.length] d) h,λ{O} _ {s d} i hi hj=>?_,λ{O} _ {s d} i hi=>k5 _ (s2 _ (EA hi))⟩;have:(blank (L'.map (lF BB)) (HA ps++is))[i]?=some (eQ [s.v d.length] d):=by rw[aES (aEZ hj),AQ,hi];rfl
   exact k6 _ (aB8 _ (EA this)) (fRd [s.v d.length] d) λw F h=>aM.own_rd h
  obtain⟨hcall,hrun⟩:=hc hHG hBs hfo;obtain⟨vs,h1,h2⟩:=aAD hA hys;obtain⟨v,h3,h4⟩:=eD hA hf;simp[fB,aU] at h3;subst h3;have h1':aU (fB BB) xs=some vs:=by grind[OX]
  have hst:kX U U.w0 (blP pv) (aRN 0 cs0++M):=by
   refine⟨⟨[],?_,λx hx=>?_⟩,k2⟩
   ·rw[sH,WZ (B':=BB) hkM];refine k3.via λF h=>?_;grind[Sep.append,a7B]
   grind[aUA,W5]
  have h5:=hrun vs (aRO hpv hB0 hx h1') hst;have h6:=RZ (w:=U.w0) hcall ho h4 h2;unfold Oper.wp;rw[h6 _ a hA.env,Oper.upon_enter];refine Calls.mono h5 λen w' ⟨v,hv,y,g1,g2⟩=>?_;subst hv;obtain⟨n1,n2,n3,n4⟩:=hn x y;have g3:=vZ BB (aP0 n4 g1);rw[OU] at g3;obtain⟨⟨R',t1,t2⟩,t0⟩:=g2;obtain⟨qs,q1,q2⟩:=a0M (w:=w') hpv n1 n2 hB0 λi cs hi=>t1.chunk (ch:=TF (blP pv) (0+i) cs) i (by
   rw[AQ,List.getElem?_append_left (by
    have:=(AP.1 (aKQ (k:=0) hi)).1;exact this),aKQ hi];rfl)
  obtain⟨e1,e2⟩:=aT8 q1;have t3:St U w' (qs.map PV.mid++(Lr x y).map (lF BB)) R':=by refine t1.imp ?_;grind[WZ,jP.append,jP.refl]
  have t4:=k7 w' _ R' t3;have t5:St c w' ((OG L' (HT L' (HA ps++is)++Lr x y) ps (cb x y)).map (lF BB)) R:=by
   refine t4.via λF h=>?_;refine a7D hpv q1 (λi hi=>?_) (a0O hka) ?_
   ·grind[a7F,aI4,a7E]
   ·rw[sH,IJ];have h7:Sep w' ((qs.map PV.mid++qs.flatMap PV.rest)++(blank (L'.map (lF BB)) (HA ps++is)++(Lr x y).map (lF BB))) F:=by rw[e1];refine Sep.perm ?_ h;grind[List.Perm.append_left,List.perm_append_comm]
    grind[Sep.append,bKM]
  have t6:kX c w' BB (OG L' (HT L' (HA ps++is)++Lr x y) ps (cb x y)):=by
   refine⟨⟨R,t5,λz hz=>?_⟩,s0⟩;rcases aT9 hz with hz|⟨_,_,hz⟩
   ·rcases dE.1 hz with hz|hz
    ·rcases OY _ _ hz with hz|hz
     ·grind
     ·subst hz;trivial
    grind[W5]
   ·subst hz;trivial
  rw[hd];cases d with
  |none=>exact hnext y _ _ ⟨[],aj,by grind[dse,Act.put],aj⟩
  |some d=>exact hnext y _ _ ⟨[],aj,by simpa[dse] using hA.of g3 (hA.env.put (by grind[qI,vX]) v),aj⟩
end
section
variable {P:Program} {T:TT} {hT:ED P T} {n:Nat} {c:Ctx} {B0:Bl} {N:Act->World->Prop} {X:Nat->Act->World->Prop} {Q:Act->World->Prop} {K K':List Fr} {m m':Nat} {e e':SE} {L L' Lv:List Ch} {cf cf' cf1 cf2:uH} {o:Oper}
section
variable {O β ex:Type} {fo:Option O} {kf:O->Option β} {q:β} {d:Option Nat} {f:FuncId} {xs xs0:List SV} {M:List Ch} {sv:O->ex->SV} {Lr:O->ex->List Ch}
theorem cw0(is:List Nat)
  (hs:cpS (jE T n K cf m e L)=some (o,d,f,xs,cf1,cf2,K',m',e',L')) (hi:aU (λi=>L'[i]?) is=some M) (hx:aU (rnP [] 0) xs=some xs0)
  (hk:(JO M && (dJ is && is.all λj=>fO j cf1.wW))=true) (hn:∀x y,(JO (Lr x y) && yQ 0 (sv x y))=true)
  (hc:∀{U:Ctx},HG c U L' is->∀{x},fo=some x->FnS P f U xs0 [] M sv Lr x) (hF:fo.bind kf=some q)
  (k:∀x,fo=some x->kf x=some q->∀y:ex,G (.mk P T hT n c B0 N X Q) K' m' (dse d (sv x y) e') (HT L' is++Lr x y) cf2):G (.mk P T hT n c B0 N X Q) K m e L cf:=
 cwk (cb:=λ_ _=>[]) (Lr:=Lr) [] is hs rfl hi hx (by grind[HA]) (λx y=>by grind[aCO]) (λ{U} h Bs hl x hx=>match Bs,hl with|[],_=>hc (by grind[HA]) hx) hF (λx h1 h2 y=>by grind[OG,HA])
theorem cw1{c1:List SV}{a1:O->ex->List SV}(i1 n1 o1 k1:Nat)(is:List Nat)
  (hs:cpS (jE T n K cf m e L)=some (o,d,f,xs,cf1,cf2,K',m',e',L')) (hb:aKO L' [(i1,n1,o1,k1)]=some [c1]) (hi:aU (λi=>L'[i]?) is=some M) (hx:aU (rnP [(i1,n1,o1,k1)] 0) xs=some xs0)
  (hk:(JO M && ([c1].all (yQ.okC 0) && (dJ (i1::is) && (i1::is).all λj=>fO j cf1.wW)))=true) (hn:∀x y,(aCO [(i1,n1,o1,k1)] [a1 x y] && ([a1 x y].all (yQ.okC 0) && (JO (Lr x y) && yQ 0 (sv x y))))=true)
  (hc:∀{U:Ctx},HG c U L' (i1::is)->∀{b1:Nat×Nat} {x},fo=some x->FnS P f U xs0 [b1] (.box 0 c1::M) sv (λx y=>.box 0 (a1 x y)::Lr x y) x) (hF:fo.bind kf=some q)
  (k:∀x,fo=some x->kf x=some q->∀y:ex,G (.mk P T hT n c B0 N X Q) K' m' (dse d (sv x y) e') (OG L' (HT L' (i1::is)++Lr x y) [(i1,n1,o1,k1)] [a1 x y]) cf2):G (.mk P T hT n c B0 N X Q) K m e L cf:=
 cwk (cb:=λx y=>[a1 x y]) (Lr:=Lr) [(i1,n1,o1,k1)] is hs hb hi hx hk hn (λ{U} h Bs hl x hx=>match Bs,hl with|[b1],_=>hc h hx) hF k
theorem cw2{c1:List SV}{a1 a2:O->ex->List SV}(i1 n1 o1 k1:Nat)(i2 n2 o2 k2:Nat)(is:List Nat)
  (hs:cpS (jE T n K cf m e L)=some (o,d,f,xs,cf1,cf2,K',m',e',L')) (hb:aKO L' [(i1,n1,o1,k1),(i2,n2,o2,k2)]=some [c1,c2]) (hi:aU (λi=>L'[i]?) is=some M) (hx:aU (rnP [(i1,n1,o1,k1),(i2,n2,o2,k2)] 0) xs=some xs0)
  (hk:(JO M && ([c1,c2].all (yQ.okC 0) && (dJ (i1::i2::is) && (i1::i2::is).all λj=>fO j cf1.wW)))=true) (hn:∀x y,(aCO [(i1,n1,o1,k1),(i2,n2,o2,k2)] [a1 x y,a2 x y] && ([a1 x y,a2 x y].all (yQ.okC 0) && (JO (Lr x y) && yQ 0 (sv x y))))=true)
  (hc:∀{U:Ctx},HG c U L' (i1::i2::is)->∀{b1 b2:Nat×Nat} {x},fo=some x->FnS P f U xs0 [b1,b2] (.box 0 c1::.box 1 c2::M) sv (λx y=>.box 0 (a1 x y)::.box 1 (a2 x y)::Lr x y) x) (hF:fo.bind kf=some q)
  (k:∀x,fo=some x->kf x=some q->∀y:ex,G (.mk P T hT n c B0 N X Q) K' m' (dse d (sv x y) e') (OG L' (HT L' (i1::i2::is)++Lr x y) [(i1,n1,o1,k1),(i2,n2,o2,k2)] [a1 x y,a2 x y]) cf2):G (.mk P T hT n c B0 N X Q) K m e L cf:=
 cwk (cb:=λx y=>[a1 x y,a2 x y]) (Lr:=Lr) [(i1,n1,o1,k1),(i2,n2,o2,k2)] is hs hb hi hx hk hn (λ{U} h Bs hl x hx=>match Bs,hl with|[b1,b2],_=>hc h hx) hF k
theorem cw3{c1 c3:List SV}{a1 a2 a3:O->ex->List SV}(i1 n1 o1 k1:Nat)(i2 n2 o2 k2:Nat)(i3 n3 o3 k3:Nat)(is:List Nat)
  (hs:cpS (jE T n K cf m e L)=some (o,d,f,xs,cf1,cf2,K',m',e',L')) (hb:aKO L' [(i1,n1,o1,k1),(i2,n2,o2,k2),(i3,n3,o3,k3)]=some [c1,c2,c3]) (hi:aU (λi=>L'[i]?) is=some M) (hx:aU (rnP [(i1,n1,o1,k1),(i2,n2,o2,k2),(i3,n3,o3,k3)] 0) xs=some xs0)
  (hk:(JO M && ([c1,c2,c3].all (yQ.okC 0) && (dJ (i1::i2::i3::is) && (i1::i2::i3::is).all λj=>fO j cf1.wW)))=true) (hn:∀x y,(aCO [(i1,n1,o1,k1),(i2,n2,o2,k2),(i3,n3,o3,k3)] [a1 x y,a2 x y,a3 x y] && ([a1 x y,a2 x y,a3 x y].all (yQ.okC 0) && (JO (Lr x y) && yQ 0 (sv x y))))=true)
  (hc:∀{U:Ctx},HG c U L' (i1::i2::i3::is)->∀{b1 b2 b3:Nat×Nat} {x},fo=some x->FnS P f U xs0 [b1,b2,b3] (.box 0 c1::.box 1 c2::.box 2 c3::M) sv (λx y=>.box 0 (a1 x y)::.box 1 (a2 x y)::.box 2 (a3 x y)::Lr x y) x) (hF:fo.bind kf=some q)
  (k:∀x,fo=some x->kf x=some q->∀y:ex,G (.mk P T hT n c B0 N X Q) K' m' (dse d (sv x y) e') (OG L' (HT L' (i1::i2::i3::is)++Lr x y) [(i1,n1,o1,k1),(i2,n2,o2,k2),(i3,n3,o3,k3)] [a1 x y,a2 x y,a3 x y]) cf2):G (.mk P T hT n c B0 N X Q) K m e L cf:=
 cwk (cb:=λx y=>[a1 x y,a2 x y,a3 x y]) (Lr:=Lr) [(i1,n1,o1,k1),(i2,n2,o2,k2),(i3,n3,o3,k3)] is hs hb hi hx hk hn (λ{U} h Bs hl x hx=>match Bs,hl with|[b1,b2,b3],_=>hc h hx) hF k
end
theorem bF3(s:AC)(n1 n2:Nat):WB (s.v n1)=WB (s.v n2):=by obtain⟨a,c⟩:=s;cases a<;>rfl
theorem bF4(s:AC)(q k n1 n2:Nat):VA q k (s.v n1)=VA q k (s.v n2):=by obtain⟨a,c⟩:=s;cases a<;>rfl
theorem ro[aM O](E:CO O)(j v nb:Nat){s:AC}{ls:List O}{kf:O->Option β}{q:β}(hs:RU (jE T n K cf m e L)=some (K',cf',m',e',L'))(hj:L'[j]?=some (ow s ls))(hv:L'[v]?=some (wOf O nb s n0 i.toNat))(hz:fO j cf'.wW=true)(hF:(idx ls i).bind kf=some q)
  (k:∀x,idx ls i=some x->kf x=some q->∀y:E.ex,G (.mk P T hT n c B0 N X Q) K' m' e' (L'.set j .no++([.o (sI (s.v ls.length) ls i.toNat),.box nb (E.cs x y),wOf O nb s ls.length i.toNat]++E.Lx x y)) cf'):G (.mk P T hT n c B0 N X Q) K m e L cf:=by
 refine go hs ?_;cases hi:idx ls i with
 |none=>grind
 |some x=>
  rw[hi] at hF;refine chg (λ_=>m') (λ_=>e') (λy:E.ex=>L'.set j .no++([.o (sI (s.v ls.length) ls i.toNat),.box nb (E.cs x y),wOf O nb s ls.length i.toNat]++E.Lx x y)) (λB a w hm hA hS=>?_) (λy=>aRK hz) (λy=>k x hi hF y);obtain⟨⟨R,s1,s2⟩,s0⟩:=hS;have hB:B[nb]?=some (WB (s.v ls.length),VA (aM.n O) i.toNat (s.v ls.length)):=by rw[bF3 s ls.length n0,bF4 s _ _ ls.length n0];exact s2 _ (EA hv)
  have hj2:(L'.map (lF B))[j]?=some (eQ [s.v ls.length] ls):=by simp[hj,lF]
  obtain⟨ec,h1⟩:=s1.open j hj2 (AT hi).2.2;have hlen:((L'.map (lF B)).set j LN).length=L'.length:=ae
  obtain⟨F,hF'⟩:=h1.chunk (L'.length+2) (by rw[aPN aa];simp;rfl);obtain⟨y,hy2⟩:=E.op (show aM.own w ec x F from hF');have h2:=h1.unpack (L'.length+2) ae (E.pk hy2);have hset:((L'.map (lF B)).set j LN++[sI (s.v ls.length) ls i.toNat,WO (WB (s.v ls.length)) (VA (aM.n O) i.toNat (s.v ls.length)) ec,eQ ec x]).set (L'.length+2) LN=(L'.map (lF B)).set j LN++[sI (s.v ls.length) ls i.toNat,WO (WB (s.v ls.length)) (VA (aM.n O) i.toNat (s.v ls.length)) ec,LN]:=ae
  rw[hset] at h2;refine⟨y,[],aj,aj,⟨⟨R,?_,λz hz=>?_⟩,s0⟩⟩
  ·have e1:(L'.set j Ch.no).map (lF B)=(L'.map (lF B)).set j LN:=by rw[LD];rfl
   refine h2.imp ?_;rw[uD,sH,sH,<-e1,oV];refine jP.append (jP.refl _) (jP.append (.cons (λ_ h=>h) (.cons (λF h=>⟨_,_,ec,hB,eV (λx v h=>by simpa using gA (B:=[]) B h) hy2,h⟩) (.cons (λ_ h=>h) .nil))) ?_);rw[E.nb x y B];exact jP.refl _
  ·rw[uD];rcases dE.1 hz with hz|hz
   ·rcases qW hz with hz|hz
    ·grind
    ·subst hz;trivial
   ·rcases dE.1 hz with hz|hz
    ·simp at hz;rcases hz with rfl|rfl|rfl
     ·trivial
     ·trivial
     ·exact hB
    ·exact aKM (E.no x y) z hz
theorem nw(O:Type)[aM O](hs:RU (jE T n K cf m e L)=some (K',cf',m',e',L'))
  (k:G (.mk P T hT n c B0 N X Q) K' m' e' (L'++[ow ⟨none,0⟩ ([]:List O)]) cf'):G (.mk P T hT n c B0 N X Q) K m e L cf:=by
 refine go hs ?_;refine chg (λ_:Unit=>m') (λ_=>e') (λ_=>L'++[ow ⟨none,0⟩ ([]:List O)]) (λB a w hm hA hS=>?_) (λ_=>sS _) (λ_=>k);obtain⟨⟨R,s1,s2⟩,s0⟩:=hS;refine⟨(),[],aj,aj,⟨⟨R,?_,λz hz=>?_⟩,s0⟩⟩
 ·rw[uD,sH];exact St.more s1 (eC.refl _ _) ⟨F0,⟨none,0,rfl,iT _,i4 _,.inl ⟨rfl,rfl,λ_ _ h=>h⟩⟩,λ_ _ h=>h.elim⟩
 ·rw[uD];rcases dE.1 hz with hz|hz
  ·grind
  ·simp at hz;subst hz;trivial
theorem G8{Z:Act->World->Prop}(O:Type)[aM O](kk:∀a w,oZ n c B0 m e (L++[ow ⟨none,0⟩ ([]:List O)]) a w->Z a w):∀a w,oZ n c B0 m e L a w->Z a w:=by
 intro a w ⟨B,hm,hA,hS⟩;refine kk a w ⟨B,hm,hA,?_⟩;obtain⟨⟨R,s1,s2⟩,s0⟩:=hS;refine⟨⟨R,?_,λz hz=>?_⟩,s0⟩
 ·rw[sH];exact St.more s1 (eC.refl _ _) ⟨F0,⟨none,0,rfl,iT _,i4 _,.inl ⟨rfl,rfl,λ_ _ h=>h⟩⟩,λ_ _ h=>h.elim⟩
 ·rcases dE.1 hz with hz|hz
  ·grind
  ·simp at hz;subst hz;trivial
end
def AC.sub(s:AC)(n a:Nat):AC:=⟨if s.c=a then s.a else s.a.map (·.add (a*n)),s.c-a⟩
theorem W6{l:List O}{s:AC}{a b:Nat}(h1:a<=b)(h2:b<=l.length):iU n a b (s.v k)=(s.sub n a).v ((l.take b).drop a).length:=by rw[yP h1 h2];rfl
section
variable {P:Program} {T:TT} {hT:ED P T} {n:Nat} {c:Ctx} {B0:Bl} {N:Act->World->Prop} {X:Nat->Act->World->Prop} {Q:Act->World->Prop} {K K':List Fr} {m m':Nat} {e e':SE} {L L' Lv:List Ch} {cf cf' cf1 cf2:uH} {o:Oper} {d:Nat}
theorem cpc[aM O](j:Nat){s:AC}{l:List O}(hs:RU (jE T n K cf m e L)=some (K',cf',m',e',L'))(hj:L'[j]?=some (ow s l))(k:l.length<=s.c->G (.mk P T hT n c B0 N X Q) K' m' e' L' cf'):G (.mk P T hT n c B0 N X Q) K m e L cf:=by refine go hs ?_;refine chg (λ_:PLift (l.length<=s.c)=>m') (λ_=>e') (λ_=>L') (λB a w hm hA hS=>?_) (λ_=>by simpa using sS (L:=L') []) (λh=>k h.down);obtain⟨⟨R,s1,s2⟩,s0⟩:=hS;obtain⟨F,hF⟩:=s1.chunk (ch:=eQ [s.v l.length] l) j (by simp[hj,lF]);obtain⟨ad,cp,h1,h2⟩:=MU (show aM.own w [s.v l.length] l F from hF);simp only[AC.v,Value.slice.injEq] at h1;exact⟨⟨aa⟩,[],aj,aj,⟨⟨R,aj,aj⟩,s0⟩⟩
section
variable {x y z u:Operand} {t el sz:Nat} {k1 k2 k3:IntKind} {i j p:Int} {O β:Type} [aM O] {A:Option β} {q:β} {s:AC} {l:List O} {b1 b2:Bool} {n1:Nat} {z1 z2:List SV} {kt:TK}
theorem aOD(hc:l.length<=s.c)(hs:opS (jE T n K cf m e L)=some (o,Lv,cf1,cf2,K',m',e',L'))(ho:(o.op,o.dst)=(.slice t x (some y) none none,some d))(ht:wU T t=some ⟨.sl el,b1,n1,z1⟩)(he:wU T el=some ⟨kt,b2,sz,z2⟩)(hx:iO e' x=some (.h s l.length))(hy:(iO e' y).bind qY=some (k1,i))(hF:need (0<=i/\i<=(l.length:Int)) A=some q)
  (kk:A=some q->(i.toNat<=l.length/\l.length<=l.length)->G (.mk P T hT n c B0 N X Q) K' m' ((d,.h (s.sub sz i.toNat) ((l.take l.length).drop i.toNat).length)::e') L' cf2):G (.mk P T hT n c B0 N X Q) K m e L cf:=by
 have hop:o.op=.slice t x (some y) none none:=cA Prod.fst ho;have hb:=(lX hF).1;have hb2:i.toNat<=l.length/\l.length<=l.length:=aa
 refine pu hs (cA Prod.snd ho) (λB a w hA hS=>⟨iU sz i.toNat l.length (s.v l.length),by grind[W6,fB,gV,bL],λ_ a hA'=>?_⟩) (kk (lX hF).2 hb2);obtain⟨h0,h1⟩:=hb;have h5:max i 0=i:=aa
 simp[execOp,hop,Instr.sliceAt,Instr.slice,run_underlying (EE ht hT),Instr.sliceBounds,hA'.eval (hdB hA hx),hA'.eval (wT hA hy),Instr.sliceBound,asIntOf,hT.size _ _ he,h0,h1,hc,h5,iU]
theorem aUD(hc:l.length<=s.c)(hs:opS (jE T n K cf m e L)=some (o,Lv,cf1,cf2,K',m',e',L'))(ho:(o.op,o.dst)=(.slice t x none (some z) none,some d))(ht:wU T t=some ⟨.sl el,b1,n1,z1⟩)(he:wU T el=some ⟨kt,b2,sz,z2⟩)(hx:iO e' x=some (.h s l.length))(hz:(iO e' z).bind qY=some (k2,j))(hF:need (0<=j/\j<=(l.length:Int)) A=some q)
  (kk:A=some q->(0<=j.toNat/\j.toNat<=l.length)->G (.mk P T hT n c B0 N X Q) K' m' ((d,.h (s.sub sz 0) ((l.take j.toNat).drop 0).length)::e') L' cf2):G (.mk P T hT n c B0 N X Q) K m e L cf:=by
 have hop:o.op=.slice t x none (some z) none:=cA Prod.fst ho;have hb:=(lX hF).1;have hb2:0<=j.toNat/\j.toNat<=l.length:=aa
 refine pu hs (cA Prod.snd ho) (λB a w hA hS=>⟨iU sz 0 j.toNat (s.v l.length),by grind[W6,fB,gV,bL],λ_ a hA'=>?_⟩) (kk (lX hF).2 hb2);obtain⟨h0,h1⟩:=hb;have h3:j<=(s.c:Int):=aa
 have h5:max j 0=j:=aa
 simp[execOp,hop,Instr.sliceAt,Instr.slice,run_underlying (EE ht hT),Instr.sliceBounds,hA'.eval (hdB hA hx),hA'.eval (wT hA hz),Instr.sliceBound,asIntOf,hT.size _ _ he,h0,h3,h5,iU]
theorem bKN(hc:l.length<=s.c)(hs:opS (jE T n K cf m e L)=some (o,Lv,cf1,cf2,K',m',e',L'))(ho:(o.op,o.dst)=(.slice t x none (some z) (some u),some d))(ht:wU T t=some ⟨.sl el,b1,n1,z1⟩)(he:wU T el=some ⟨kt,b2,sz,z2⟩)(hx:iO e' x=some (.h s l.length))(hz:(iO e' z).bind qY=some (k2,j))(hu:(iO e' u).bind qY=some (k3,p))(hF:need (0<=j/\j<=p/\p<=(l.length:Int)) A=some q)
  (kk:A=some q->(0<=j.toNat/\j.toNat<=p.toNat/\p.toNat<=l.length)->G (.mk P T hT n c B0 N X Q) K' m' ((d,.h ⟨(s.sub sz 0).a,p.toNat⟩ ((l.take j.toNat).drop 0).length)::e') L' cf2):G (.mk P T hT n c B0 N X Q) K m e L cf:=by
 have hop:o.op=.slice t x none (some z) (some u):=cA Prod.fst ho;have hb:=(lX hF).1;have hb2:0<=j.toNat/\j.toNat<=p.toNat/\p.toNat<=l.length:=aa
 have hl:=yP (l:=l) (a:=0) (b:=j.toNat) aa aa;refine pu hs (cA Prod.snd ho) (λB a w hA hS=>⟨AC.v ⟨(s.sub sz 0).a,p.toNat⟩ ((l.take j.toNat).drop 0).length,by simp[fB,gV,bL],λ_ a hA'=>?_⟩) (kk (lX hF).2 hb2);obtain⟨h0,h1,h2⟩:=hb;have h3:p<=(s.c:Int):=aa
 have h4:0<=p:=aa
 have h5:max j 0=j:=aa
 have h6:max p 0=p:=aa
 rw[hl];have hadd:s.a.map (λx=>x.add 0)=s.a:=by simp[Addr.add]
 by_cases hp:p=0
 ·subst hp;simp[execOp,hop,Instr.sliceAt,Instr.slice,run_underlying (EE ht hT),Instr.sliceBounds,hA'.eval (hdB hA hx),hA'.eval (wT hA hz),hA'.eval (wT hA hu),Instr.sliceBound,asIntOf,hT.size _ _ he,h0,h1,h3,h4,h5,h6,AC.sub,hadd]
 ·simp[execOp,hop,Instr.sliceAt,Instr.slice,run_underlying (EE ht hT),Instr.sliceBounds,hA'.eval (hdB hA hx),hA'.eval (wT hA hz),hA'.eval (wT hA hu),Instr.sliceBound,asIntOf,hT.size _ _ he,h0,h1,h3,h4,h5,h6,AC.sub,hadd]
end
end
section
variable {P:Program} {T:TT} {hT:ED P T} {n:Nat} {c:Ctx} {B0:Bl} {N:Act->World->Prop} {X:Nat->Act->World->Prop} {Q:Act->World->Prop} {K K':List Fr} {m m':Nat} {e e':SE} {L L' Lv:List Ch} {cf cf' cf1 cf2:uH} {o:Oper} {d:Nat}
theorem a7H[aM O]{R:List Fact}{a b:Nat}{s s':AC}{l l':List O}(hn:aM.n O=sz)(hj:L[j]?=some (ow s l))(hb:a<=b/\b<=l.length)(hl:(l.take b).drop a=l')(hs:∀w F,aM.own w [s.v l.length] l F->∃F',aM.own w [s'.v l'.length] l' F'/\∀b o,F' b o->F b o)(hS:kX c w B L):kX c w B (L.set j (ow s' l')):=by
 obtain⟨⟨R,s1,s2⟩,s0⟩:=hS;refine⟨⟨R,?_,λz hz=>?_⟩,s0⟩
 ·rw[LD];refine s1.aEQ j (by rw[AQ,hj];rfl) λF hF=>?_;obtain⟨F',h1,h2⟩:=hs w F hF;exact⟨F',F0,eC.refl _ _,λ_ _ h=>h.elim,h1,λb o h=>.inl (h2 b o h)⟩
 ·rcases qW hz with hz|hz
  ·grind
  ·subst hz;trivial
theorem aUE[aM O]{s:AC}{l l':List O}{a b:Nat}(hn:aM.n O=sz)(hb:a<=b/\b<=l.length)(hl:(l.take b).drop a=l'):∀w F,aM.own w [s.v l.length] l F->∃F',aM.own w [(s.sub sz a).v l'.length] l' F'/\∀b o,F' b o->F b o:=by intro w F h;obtain⟨F',h1,h2⟩:=aZX hn h hb.1 hb.2;grind[W6]
theorem a7I[aM O]{s:AC}{l l':List O}{b p:Nat}(hn:aM.n O=sz)(hb:0<=b/\b<=p/\p<=l.length)(hl:(l.take b).drop 0=l'):∀w F,aM.own w [s.v l.length] l F->∃F',aM.own w [AC.v ⟨(s.sub sz 0).a,p⟩ l'.length] l' F'/\∀b o,F' b o->F b o:=by
 intro w F h;obtain⟨F',h1,h2⟩:=a57 hn h hb.1 hb.2.1 hb.2.2;have hadd:s.a.map (λx=>x.add 0)=s.a:=by simp[Addr.add]
 have hln:=yP (l:=l) (a:=0) (b:=b) aa aa;rw[hl] at hln h1;refine⟨F',?_,h2⟩;simp_all[bB9,AC.sub]
theorem po[aM O](j a b:Nat){s:AC}{l l':List O}(hn:aM.n O=sz)(hs:RU (jE T n K cf m e L)=some (K',cf',m',e',L'))(hj:L'[j]?=some (ow s l))(hz:fO j cf'.wW=true)(hb:a<=b/\b<=l.length)(hl:(l.take b).drop a=l')
  (k:G (.mk P T hT n c B0 N X Q) K' m' e' (L'.set j (ow (s.sub sz a) l')) cf'):G (.mk P T hT n c B0 N X Q) K m e L cf:=by
 refine go hs (chg (λ_:Unit=>m') (λ_=>e') (λ_=>L'.set j (ow (s.sub sz a) l')) (λB a' w hm hA hS=>?_) (λ_=>EF hz) (λ_=>k));exact⟨(),[],aj,aj,by simpa using a7H (R:=[]) hn hj hb hl (aUE hn hb hl) hS⟩
theorem poR{Z:Act->World->Prop}[aM O](j a b:Nat){s:AC}{l l':List O}(hn:aM.n O=sz)(hj:L[j]?=some (ow s l))(hb:a<=b/\b<=l.length)(hl:(l.take b).drop a=l')
  (kk:∀a' w,oZ n c B0 m e (L.set j (ow (s.sub sz a) l')) a' w->Z a' w):∀a' w,oZ n c B0 m e L a' w->Z a' w:=by
 intro a' w ⟨B,hm,hA,hS⟩;exact kk a' w ⟨B,hm,hA,a7H (R:=[]) hn hj hb hl (aUE hn hb hl) hS⟩
theorem pmR{Z:Act->World->Prop}[aM O](j b p:Nat){s:AC}{l l':List O}(hn:aM.n O=sz)(hj:L[j]?=some (ow s l))(hb:0<=b/\b<=p/\p<=l.length)(hl:(l.take b).drop 0=l')
  (kk:∀a' w,oZ n c B0 m e (L.set j (ow ⟨(s.sub sz 0).a,p⟩ l')) a' w->Z a' w):∀a' w,oZ n c B0 m e L a' w->Z a' w:=by
 intro a' w ⟨B,hm,hA,hS⟩;exact kk a' w ⟨B,hm,hA,a7H (R:=[]) hn hj ⟨aa,aa⟩ hl (a7I hn hb hl) hS⟩
theorem aXQ{l xs:List O}{a n:Nat}(h:k<=n/\n<=l.length)(ha:a<=l.length):k<=n/\n<=(cR l a xs).length:=⟨h.1,by grind[eU]⟩
theorem aRP{l xs:List O}{a:Nat}(h:k<=a)(ha:a<=l.length):((cR l a xs).take k).drop 0=(l.take k).drop 0:=by grind[cR]
def AC.bCY(s:AC)(n a p:Nat):AC:=⟨if p=a then s.a else s.a.map (·.add (a*n)),p-a⟩
section
variable {x y z:Operand} {t el sz:Nat} {zv:Value} {k1 k2:IntKind} {i j:Int} {O β:Type} [aM O] {A:Option β} {q:β} {s:AC} {l:List O} {b1 b2:Bool} {n1:Nat} {z1 z2:List SV} {kt:TK}
theorem ap2[Flat O](p a b:Nat)(hb:a<=b/\b<=l.length)(hs:jE T n K cf m e L=.op o Lv cf1 cf2 K' m' e' L')(ho:(o.op,o.dst)=(.call {callee:=.builtin .append,args:=#[x,y],argTypes:=#[t,t]},some d))(ht:wU T t=some ⟨.sl el,b1,n1,z1⟩)(he:wU T el=some ⟨kt,b2,sz,z2⟩)(hn:aM.n O=sz)(hp:L'[p]?=some (ow s l))(hz:fO p cf1.wW=true)(hx:iO e' x=some (.h (s.sub sz 0) ((l.take a).drop 0).length))(hy:iO e' y=some (.h (s.sub sz b) ((l.take l.length).drop b).length))
  (k:(0<=a+(l.length-b)/\a+(l.length-b)<=(cR l a (l.drop b)).length)->G (.mk P T hT n c B0 N X Q) K' m' ((d,.h (s.sub sz 0) (((cR l a (l.drop b)).take (a+(l.length-b))).drop 0).length)::e') (L'.set p (ow s (cR l a (l.drop b)))) cf2):G (.mk P T hT n c B0 N X Q) K m e L cf:=by
 have hlen:(cR l a (l.drop b)).length=l.length:=eU aa;have hk:0<=a+(l.length-b)/\a+(l.length-b)<=(cR l a (l.drop b)).length:=aa
 refine gQ (g:=.mk P T hT n c B0 N X Q) ?_;rw[hs];intro hdn _ hE;refine hE Unit (λ_=>m') (λ_=>(d,.h (s.sub sz 0) (((cR l a (l.drop b)).take (a+(l.length-b))).drop 0).length)::e') (λ_=>L'.set p (ow s (cR l a (l.drop b)))) (λ_=>EF hz) (λB act w next Q' hm hA hS hnext=>?_) (λ_=>k hk);obtain⟨⟨R,s1,s2⟩,s0⟩:=hS;have hx2:ev (vE (WX (.mk P T hT n c B0 N X Q) cf1++B) e') x=some (iU sz 0 a (s.v l.length)):=by rw[hdB hA hx,W6 (i4 a) (lW hb.1 hb.2)]
 have hy2:ev (vE (WX (.mk P T hT n c B0 N X Q) cf1++B) e') y=some (iU sz b l.length (s.v l.length)):=by rw[hdB hA hy,W6 hb.2 (iT _)]
 have hop:o.op=.call {callee:=.builtin .append,args:=#[x,y],argTypes:=#[t,t]}:=cA Prod.fst ho;have hd:o.dst=some d:=cA Prod.snd ho;obtain⟨v,w',k1,rfl,k2⟩:=aXA p s1 (by rw[AQ,hp];rfl) hn hb.1 hb.2 (EE ht hT) (hT.size _ _ he) hop hx2 hy2;unfold Oper.wp;rw[k1 _ act hA.env,Oper.upon_value,hd];have hv:fB (WX (.mk P T hT n c B0 N X Q) cf1++B) (.h (s.sub sz 0) (((cR l a (l.drop b)).take (a+(l.length-b))).drop 0).length)=some (iU sz 0 (a+(l.length-b)) (s.v l.length)):=by grind[W6,fB,gV,bL]
 refine hnext () _ _ ⟨[],aj,by simpa using hA.of hv (hA.env.put (by grind[qI,vX]) _),?_⟩;rw[uD];refine⟨⟨R,?_,λz hz=>?_⟩,s0⟩
 ·rw[LD];show St c w' ((L'.map _).set p (eQ [s.v (cR l a (l.drop b)).length] _)) R;grind
 ·rcases qW hz with hz|hz
  ·grind
  ·subst hz;trivial
theorem a7J(p k':Nat)(hk:k'<=l.length){l0:List O}(h0:l0.length=k')(hs:opS (jE T n K cf m e L)=some (o,Lv,cf1,cf2,K',m',e',L'))(ho:(o.op,o.dst)=(.slice t x (some y) (some z) none,some d))(ht:wU T t=some ⟨.sl el,b1,n1,z1⟩)(he:wU T el=some ⟨kt,b2,sz,z2⟩)(hn:aM.n O=sz)(hp:Lv[p]?=some (ow s l))(hx:iO e' x=some (.h (s.sub sz 0) l0.length))(hy:(iO e' y).bind qY=some (k1,i))(hz:(iO e' z).bind qY=some (k2,j))(hF:need (0<=i/\i<=j/\j<=(l.length:Int)) A=some q)
  (kk:A=some q->(i.toNat<=j.toNat/\j.toNat<=l.length)->G (.mk P T hT n c B0 N X Q) K' m' ((d,.h (s.sub sz i.toNat) ((l.take j.toNat).drop i.toNat).length)::e') L' cf2):G (.mk P T hT n c B0 N X Q) K m e L cf:=by
 have hop:o.op=.slice t x (some y) (some z) none:=cA Prod.fst ho;have hb:=(lX hF).1;have hb2:i.toNat<=j.toNat/\j.toNat<=l.length:=aa
 refine pu hs (cA Prod.snd ho) (λB a w hA hS=>⟨iU sz i.toNat j.toNat (s.v l.length),by grind[W6,fB,gV,bL],?_⟩) (kk (lX hF).2 hb2);obtain⟨⟨R,s1,s2⟩,s0⟩:=hS;have hx2:ev (vE B e') x=some (iU sz 0 k' (s.v l.length)):=by rw[hdB hA hx,h0];rfl
 exact aXB p s1 (by rw[AQ,hp];rfl) hn (EE ht hT) (hT.size _ _ he) hb hop hx2 (wT hA hy) (wT hA hz)
theorem clr[Flat O](p a b:Nat)(zd:O)(hb:a<=b/\b<=l.length)(hinf:VB P el sz zv)(hzs:zv.cells.size=sz)(hzd:∀w,aM.rd F0 w zv.cells.toList zd)(hone:(zv.cells.toList.all λv=>v.oneCell')=true)(hs:jE T n K cf m e L=.op o Lv cf1 cf2 K' m' e' L')(ho:(o.op,o.dst)=(.call {callee:=.builtin .clear,args:=#[x],argTypes:=#[t]},none))(ht:wU T t=some ⟨.sl el,b1,n1,z1⟩)(hn:aM.n O=sz)(hp:L'[p]?=some (ow s l))(hz:fO p cf1.wW=true)(hx:iO e' x=some (.h (s.sub sz a) ((l.take b).drop a).length))
  (k:G (.mk P T hT n c B0 N X Q) K' m' e' (L'.set p (ow s (cR l a (List.replicate (b-a) zd)))) cf2):G (.mk P T hT n c B0 N X Q) K m e L cf:=by
 have hlen:(cR l a (List.replicate (b-a) zd)).length=l.length:=eU aa;refine gQ (g:=.mk P T hT n c B0 N X Q) ?_;rw[hs];intro hdn _ hE;refine hE Unit (λ_=>m') (λ_=>e') (λ_=>L'.set p (ow s (cR l a (List.replicate (b-a) zd)))) (λ_=>EF hz) (λB act w next Q' hm hA hS hnext=>?_) (λ_=>k);obtain⟨⟨R,s1,s2⟩,s0⟩:=hS;have hx2:ev (vE (WX (.mk P T hT n c B0 N X Q) cf1++B) e') x=some (iU sz a b (s.v l.length)):=by grind[hdB,W6]
 have hop:o.op=.call {callee:=.builtin .clear,args:=#[x],argTypes:=#[t]}:=cA Prod.fst ho;have hd:o.dst=none:=cA Prod.snd ho;obtain⟨v,w',k1,rfl,k2⟩:=a6C zd p s1 (by rw[AQ,hp];rfl) hn hb.1 hb.2 (EE ht hT) hinf hzs hzd (λv hv=>Z7.1 hone v hv) hop hx2;unfold Oper.wp;rw[k1 _ act hA.env,Oper.upon_value,hd];refine hnext () _ _ ⟨[],aj,by grind[Act.put],?_⟩;rw[uD];refine⟨⟨R,?_,λz hz=>?_⟩,s0⟩
 ·rw[LD];show St c w' ((L'.map _).set p (eQ [s.v (cR l a (List.replicate (b-a) zd)).length] _)) R;grind
 ·rcases qW hz with hz|hz
  ·grind
  ·subst hz;trivial
theorem aXR{u:Operand}{k3:IntKind}{pz:Int}(hc:l.length<=s.c)(hs:opS (jE T n K cf m e L)=some (o,Lv,cf1,cf2,K',m',e',L'))(ho:(o.op,o.dst)=(.slice t x (some y) (some z) (some u),some d))(ht:wU T t=some ⟨.sl el,b1,n1,z1⟩)(he:wU T el=some ⟨kt,b2,sz,z2⟩)(hx:iO e' x=some (.h s l.length))(hy:(iO e' y).bind qY=some (k1,i))(hz:(iO e' z).bind qY=some (k2,j))(hu:(iO e' u).bind qY=some (k3,pz))(hF:need (0<=i/\i<=j/\j<=pz/\pz<=(l.length:Int)) A=some q)
  (kk:A=some q->(i.toNat<=j.toNat/\j.toNat<=pz.toNat/\pz.toNat<=l.length)->G (.mk P T hT n c B0 N X Q) K' m' ((d,.h (s.bCY sz i.toNat pz.toNat) ((l.take j.toNat).drop i.toNat).length)::e') L' cf2):G (.mk P T hT n c B0 N X Q) K m e L cf:=by
 have hop:o.op=.slice t x (some y) (some z) (some u):=cA Prod.fst ho;have hb:=(lX hF).1;have hb2:i.toNat<=j.toNat/\j.toNat<=pz.toNat/\pz.toNat<=l.length:=aa
 have hl:=yP (l:=l) (a:=i.toNat) (b:=j.toNat) aa aa;refine pu hs (cA Prod.snd ho) (λB a w hA hS=>⟨AC.v (s.bCY sz i.toNat pz.toNat) ((l.take j.toNat).drop i.toNat).length,by simp[fB,gV,bL],λ_ a hA'=>?_⟩) (kk (lX hF).2 hb2);obtain⟨h0,h1,h2,h2'⟩:=hb;have h3:pz<=(s.c:Int):=aa
 have h4:0<=pz:=aa
 have h4':0<=j:=aa
 have h5:max j 0=j:=aa
 have h6:max pz 0=pz:=aa
 have h7:max i 0=i:=aa
 rw[hl];by_cases hp:pz.toNat=i.toNat
 ·have:pz=i:=aa
  subst this;simp[execOp,hop,Instr.sliceAt,Instr.slice,run_underlying (EE ht hT),Instr.sliceBounds,hA'.eval (hdB hA hx),hA'.eval (wT hA hy),hA'.eval (wT hA hz),hA'.eval (wT hA hu),Instr.sliceBound,asIntOf,hT.size _ _ he,h0,h1,h2,h3,h4,h4',h5,h6,h7,AC.bCY]
 ·have hp2:¬pz=i:=λh=>hp (by rw[h]);simp[execOp,hop,Instr.sliceAt,Instr.slice,run_underlying (EE ht hT),Instr.sliceBounds,hA'.eval (hdB hA hx),hA'.eval (wT hA hy),hA'.eval (wT hA hz),hA'.eval (wT hA hu),Instr.sliceBound,asIntOf,hT.size _ _ he,h0,h1,h2,h3,h4,h4',h5,h6,h7,hp,hp2,AC.bCY]
theorem bNB(hs:opS (jE T n K cf m e L)=some (o,Lv,cf1,cf2,K',m',e',L'))(ho:(o.op,o.dst)=(.binOp .shl t x y t2,some d))(hx:(iO e' x).bind qY=some (k1,i))(hy:(iO e' y).bind qY=some (k2,j))(hF:need (0<=j) A=some q)
  (kk:A=some q->G (.mk P T hT n c B0 N X Q) K' m' ((d,.i k1 (aJ5 k1 i j))::e') L' cf2):G (.mk P T hT n c B0 N X Q) K m e L cf:=
 pu hs (cA Prod.snd ho) (λB a w hA _=>⟨_,rfl,a5H (cA Prod.fst ho) (wT hA hx) (wT hA hy) (by grind[lX])⟩) (kk (lX hF).2)
theorem eqn{ln:Nat}(hs:opS (jE T n K cf m e L)=some (o,Lv,cf1,cf2,K',m',e',L'))(ho:(o.op,o.dst)=(.binOp .eql t x (.const (.slice none 0 0)) t2,some d))(ht:wU T t=some ⟨.sl el,b1,n1,z1⟩)(hx:iO e' x=some (.h s ln))
  (kt:s.a=none->G (.mk P T hT n c B0 N X Q) K' m' ((d,.l true)::e') L' cf2) (kf:G (.mk P T hT n c B0 N X Q) K' m' ((d,.l false)::e') L' cf2):G (.mk P T hT n c B0 N X Q) K m e L cf:=by
 cases hs':s.a with
 |none=>exact pu hs (cA Prod.snd ho) (λB a w hA _=>⟨_,rfl,aW8 (EE ht hT) ⟨ln,s.c,aj⟩ (cA Prod.fst ho) (hdB hA hx) rfl⟩) (kt hs')
 |some ad=>exact pu hs (cA Prod.snd ho) (λB a w hA _=>⟨_,rfl,aW9 (EE ht hT) ⟨ad,ln,s.c,aj⟩ (cA Prod.fst ho) (hdB hA hx) rfl⟩) kf
theorem cln{w:Ctx}{r:List O}(h:bI w s l)(hn:s.a=none)(hF:need (([]:List O).length+l.length<=1073741824) (some (([]:List O)++l))=some r):some ([]:List O)=some r:=by obtain⟨ad,cp,h1,h2,h3,h4⟩:=(show qN w.S0 w.w0 [s.v l.length] l from h);grind[need]
end
section
variable {x y:Operand} {t el sz:Nat} {zv:Value} {b1:Bool} {n1:Nat} {z1:List SV}
theorem W7[aM O](E:CO O)(is:List Nat)(q:O)(ye:E.ex)(hinf:VB P el sz zv)(q0_:jE T n K cf m e L=.op o Lv cf1 cf2 K' m' e' L'/\(o.op,o.dst)=(.buildSlice t 1 #[(0,x)],some d)/\wU T t=some ⟨.sl el,b1,n1,z1⟩/\aM.n O=sz/\Nat.ble 1 sz=true/\Nat.ble sz 16777216=true/\(iO e' x).map (λv=>nbL (nW v))=some (E.cs q ye)/\(iO e' x).map isCells=some true/\(E.cs q ye).length=sz/\(aU (bL []) (E.cs q ye)).isSome=true/\aU (λi=>L'[i]?) is=some (E.Lx q ye)/\dJ is=true/\(is.all λj=>fO j cf1.wW)=true)
  (k:∀s':AC,G (.mk P T hT n c B0 N X Q) K' m' ((d,.h s' [q].length)::e') (HT L' is++[ow s' [q]]) cf2):G (.mk P T hT n c B0 N X Q) K m e L cf:=by
 obtain⟨hs,ho,ht,hn,hm,hm2,hx,hxc,hle,hec,hi,ha,hz⟩:=q0_;obtain⟨ec,hec⟩:=aGF.1 hec;refine aRM (l:=[q]) (λs'=>HT L' is++[ow s' [q]]) hs (cA Prod.snd ho) (λ_=>TL _ hz) (λB a w hA hS=>?_) k;obtain⟨⟨R,s1,s2⟩,s0⟩:=hS;have hecl:ec.length=sz:=by grind[lM]
 cases hxv:iO e' x with
 |none=>grind
 |some xv=>
  rw[hxv] at hx hxc;simp at hx hxc;obtain⟨v,v1,v2⟩:=eD hA hxv;have hcell:aU (bL B) (nW xv)=some ec:=by rw[<-OW,hx];exact eV (λx v h=>by simpa using gA (B:=[]) B h) hec
  have hvc:v.cells.toList=ec:=RY v1 hcell;have p1:=s1.shift is ha (A':=[eQ ec q]) λF hF=>by rw[OZ hi,E.nb] at hF;exact Sep.one.2 ((E.pk hec w F).2 hF)
  have hlen:(blank (L'.map (lF B)) is).length=L'.length:=by rw[<-IJ];simp[aI4]
  obtain⟨v',w',k1,k2⟩:=bB0 (e:=vE B e') (o:=o) (ps:=[(0,x)]) (vs:=[v]) (cells:=ec) [q] p1 [L'.length] rfl ⟨[],by
    simp only[pick,aPN (U9 hlen),hlen,Nat.sub_self];grind,aj,⟨aj,rfl⟩⟩ hn (EE ht hT) hinf rfl hm aj (cA Prod.fst ho) (by simp[evs,v2]) (aKB (vs:=[v]) (ps:=[(0,x)]) rfl rfl aj (by simp[hvc]))
  have hb2:blank (blank (L'.map (lF B)) is++[eQ ec q]) [L'.length]=blank (L'.map (lF B)) is++[LN]:=by simp_all[blank]
  rw[hb2] at k2;obtain⟨s',rfl⟩:=aEY (v:=v') (l:=[q]) k2 (L'.length+1) aj;refine⟨s',w',k1,⟨⟨R,?_,λz hz=>?_⟩,s0⟩⟩
  ·have k3:=k2.sel ((List.range L'.length)++[L'.length+1]) ?_
   ·refine k3.imp ?_;rw[sH,IJ,aCP];refine jP.append ?_ ?_
    ·have:pick (blank (L'.map (lF B)) is++[LN]++[eQ [s'.v [q].length] [q]]) (List.range L'.length)=blank (L'.map (lF B)) is:=by
      have gen:∀(M M':List Chunk) (j:Nat),pick (M++M') ((List.range j))=(M++M').take j\/¬j<=(M++M').length:=by
       intro M M' j;by_cases hj:j<=(M++M').length
       ·left;induction j with
        |zero=>rfl
        |succ j ih=>
         grind[List.range_succ,aCP,pick,List.take_add_one]
       omega
      grind
     grind[jP.refl]
    simp_all[pick,lF,jP.refl]
   ·have gen:∀(j:Nat),dJ (List.range' j (L'.length-j)++[L'.length+1])=true:=by
     intro j;generalize hk:L'.length-j=k;induction k generalizing j with
     |zero=>rfl
     |succ k ih=>
      rw[List.range'_succ,D7];simp only[dJ,wS,Z7,a2K];grind[oW]
    have:=gen 0;simp_all[List.range_eq_range']
  ·rcases dE.1 hz with hz|hz
   ·rcases OY _ _ hz with hz|hz
    ·grind
    ·subst hz;trivial
   ·simp at hz;subst hz;trivial
theorem apN[aM O]{A:Option β}{q:β}{s s2:AC}{l xs:List O}(i j:Nat)(hinf:VB P el sz zv)(hs:jE T n K cf m e L=.op o Lv cf1 cf2 K' m' e' L')(ho:(o.op,o.dst)=(.call {callee:=.builtin .append,args:=#[x,y],argTypes:=#[t,t]},some d))(q0_:wU T t=some ⟨.sl el,b1,n1,z1⟩/\aM.n O=sz/\zv.cells.size=sz/\L'[i]?=some (ow s l)/\L'[j]?=some (ow s2 xs)/\dJ [i,j]=true/\([i,j].all λj=>fO j cf1.wW)=true/\iO e' x=some (.h s l.length)/\iO e' y=some (.h s2 xs.length))(hF:need (l.length+xs.length<=1073741824) A=some q)
  (k:A=some q->∀s':AC,G (.mk P T hT n c B0 N X Q) K' m' ((d,.h s' (l++xs).length)::e') (HT L' [i,j]++[ow s' (l++xs)]) cf2):G (.mk P T hT n c B0 N X Q) K m e L cf:=by
 obtain⟨ht,hn,hzs,hi,hj,ha,hz,hx,hy⟩:=q0_;refine aRM (l:=l++xs) (λs'=>HT L' [i,j]++[ow s' (l++xs)]) hs (cA Prod.snd ho) (λ_=>TL _ hz) (λB a w hA hS=>?_) (k (lX hF).2);obtain⟨⟨R,s1,s2'⟩,s0⟩:=hS;have hp:pick (L'.map (lF B)) [i,j]=[eQ [s.v l.length] l,eQ [s2.v xs.length] xs]:=by grind[pick,lF]
 obtain⟨v,w',k1,k2⟩:=bB1 [i,j] s1 ha hp hn (EE ht hT) hinf hzs (lX hF).1 (cA Prod.fst ho) (hdB hA hx) (hdB hA hy);have hlen:(blank (L'.map (lF B)) [i,j]).length=L'.length:=by rw[<-IJ];simp[aI4]
 obtain⟨s',rfl⟩:=aEY k2 L'.length (by rw[aPN (U9 hlen),hlen,Nat.sub_self];rfl);refine⟨s',w',k1,⟨⟨R,?_,λz hz=>?_⟩,s0⟩⟩
 ·rw[sH,IJ];exact k2
 ·rcases dE.1 hz with hz|hz
  ·rcases OY _ _ hz with hz|hz
   ·grind
   ·subst hz;trivial
  ·simp at hz;subst hz;trivial
end
theorem kb{b cb:Bool}(ss:List Nat)(hb:b=cb)(hs:RU (jE T n K cf m e L)=some (K',cf',m',e',L'))(ho:aU (D4 e') ss=some (ss.map λ_=>SV.b b))(k:G (.mk P T hT n c B0 N X Q) K' m' (ovr cb e' ss) L' cf'):G (.mk P T hT n c B0 N X Q) K m e L cf:=
 go hs (aXI (λa B hA=>aI0 hb ss ho hA) k)
def rhE(v:SV)(e:SE):List (Nat×Nat)->SE
 |[]=>e
 |(k,j)::r=>match D4 e k with
  |some (.g cs)=>(k,.g (ovw cs j [v]))::rhE v e r
  |some (.t cs)=>(k,.t (ovw cs j [v]))::rhE v e r
  |_=>rhE v e r
def rhL(v:SV)(L:List Ch):List (Nat×Nat)->List Ch
 |[]=>L
 |(k,j)::r=>match L[k]? with
  |some (.box n cs)=>rhL v (L.set k (.box n (ovw cs j [v]))) r
  |_=>rhL v L r
theorem aI5{B:Bl}{f:Bl->SV->Option Value}{u v:SV}(huv:∀B,f B u=f B v):∀{cs:List SV} {j:Nat},cs[j]?=some u->aU (f B) (ovw cs j [v])=aU (f B) cs
 |[],j,h=>by simp at h
 |x::cs,0,h=>by grind[aU,ovw,aRC]
 |x::cs,j + 1,h=>by show aU (f B) (x::ovw cs j [v])=_;simp only[aU,aI5 (B:=B) huv (show cs[j]?=some u by grind)]
theorem a7K{s:AC}{n0 n1:Nat}(hn:n0=n1){B:Bl}:∀{ps:List (Nat×Nat)} {k:Nat} {x:SV},(∀p∈ps,∃cs,(D4 e p.1=some (.g cs)\/D4 e p.1=some (.t cs))/\cs[p.2]?=some (.h s n0))->D4 (rhE (.h s n1) e ps) k=some x->∃y,D4 e k=some y/\fB B x=fB B y
 |[],k,x,_,h=>⟨x,h,rfl⟩
 |(k',j)::r,k,x,hp,h=>by
  have ih:=λh=>a7K hn (B:=B) (ps:=r) (k:=k) (x:=x) (λp hp'=>hp p (lE _ hp')) h;obtain⟨cs,h1,h2⟩:=hp (k',j) ae;have hc:∀B,bL B (.h s n0)=bL B (.h s n1):=λB=>by rw[hn]
  have hg:∀B,gV B (.h s n0)=gV B (.h s n1):=λB=>by rw[hn]
  rcases h1 with h1|h1
  ·simp only[rhE,h1,D4] at h;split at h
   ·rename_i hb;cases h;have:=oW hb;subst this;exact⟨_,h1,by simp only[fB,gV,aI5 (f:=bL) hc h2]⟩
   grind
  ·simp only[rhE,h1,D4] at h;split at h
   ·rename_i hb;cases h;have:=oW hb;subst this;exact⟨_,h1,by simp only[fB,aI5 (f:=gV) hg h2]⟩
   grind
theorem a0P{s:AC}{n0 n1:Nat}(hn:n0=n1){B:Bl}{w:World}{R:List Fact}:∀{ps:List (Nat×Nat)} {L:List Ch},(∀p∈ps,∃k cs,L[p.1]?=some (.box k cs)/\cs[p.2]?=some (.h s n0))->dJ (ps.map (·.1))=true->jP w (L.map (lF B)) ((rhL (.h s n1) L ps).map (lF B))/\((∀x∈L,roF B R x)->∀x∈rhL (.h s n1) L ps,roF B R x)
 |[],L,_,_=>⟨jP.refl _,λh=>h⟩
 |(i,j)::r,L,hp,ha=>by
  obtain⟨k,cs,h1,h2⟩:=hp (i,j) ae;have hc:∀B,bL B (.h s n0)=bL B (.h s n1):=λB=>by rw[hn]
  simp only[D9,dJ,wS] at ha;have ih:=a0P hn (B:=B) (w:=w) (R:=R) (ps:=r) (L:=L.set i (.box k (ovw cs j [.h s n1]))) (λp hp'=>by
   obtain⟨k',cs',h3,h4⟩:=hp p (lE _ hp');have hne:i≠p.1:=λhe=>by have:=Z7.1 ha.1 p.1 (List.mem_map_of_mem hp');simp_all
   exact⟨k',cs',aj,h4⟩) ha.2
  simp only[rhL,h1];refine⟨?_,λh=>ih.2 λx hx=>?_⟩
  ·have h5:jP w (L.map (lF B)) ((L.set i (.box k (ovw cs j [.h s n1]))).map (lF B)):=by rw[LD];exact jP.put (a:=TF B k cs) (b:=TF B k (ovw cs j [.h s n1])) i (by rw[AQ,h1];rfl) λF ⟨b,z,vs,q1,q2,q3⟩=>⟨b,z,vs,q1,by rw[aI5 (f:=bL) hc h2];exact q2,q3⟩
   have tr:∀{A B C:List Chunk},jP w A B->jP w B C->jP w A C:=by
    intro A B C h1;induction h1 generalizing C with
    |nil=>simp
    |cons h t ih=>intro h2;cases h2 with|cons h' t'=>exact .cons (λF hF=>h' F (h F hF)) (ih t')
   grind
  ·rcases qW hx with hx|hx
   ·exact h x hx
   ·subst hx;trivial
def atE(e:SE)(p:Nat×Nat):Option SV:=match D4 e p.1 with
 |some (.g cs)=>cs[p.2]?
 |some (.t cs)=>cs[p.2]?
 |_=>none
def atL(L:List Ch)(p:Nat×Nat):Option SV:=match L[p.1]? with
 |some (.box _ cs)=>cs[p.2]?
 |_=>none
theorem a7L{a:Act}(s:AC)(hn:n0=n1){ps qs:List (Nat×Nat)}(hp:aU (atE e) ps=some (ps.map λ_=>.h s n0))(hq:aU (atL L) qs=some (qs.map λ_=>.h s n0))(ha:dJ (qs.map (·.1))=true)(hA:gP n B e a)(hS:kX c w B L):gP n B (rhE (.h s n1) e ps) a/\kX c w B (rhL (.h s n1) L qs):=by
 have key:∀{γ:Type} {f:γ->Option SV} {ps:List γ},aU f ps=some (ps.map λ_=>.h s n0)->∀p∈ps,f p=some (.h s n0):=by
  intro γ f ps;induction ps with
  |nil=>simp
  |cons q ps ih=>
   grind[aU]
 refine⟨⟨hA.d,hA.size,λk x hk=>?_⟩,?_⟩
 ·obtain⟨y,h1,h2⟩:=a7K hn (B:=B) (λp hp'=>by
   have:=key hp p hp';unfold atE at this;grind) hk
  obtain⟨v,h3,h4⟩:=hA.get k y h1;grind
 ·obtain⟨⟨R,s1,s2⟩,s0⟩:=hS;obtain⟨h1,h2⟩:=a0P hn (B:=B) (w:=w) (R:=R) (L:=L) (λp hp'=>by
   have:=key hq p hp';unfold atL at this;split at this
   ·rename_i k cs hc;exact⟨k,cs,hc,this⟩
   grind) ha
  exact⟨⟨R,s1.imp h1,h2 s2⟩,s0⟩
theorem aI6{g:Gx}{cf:uH}{v:SV}:∀{qs:List (Nat×Nat)} {L M:List Ch},Frz g cf L M->((qs.map (·.1)).all λj=>fO j cf.wW)=true->Frz g cf L (rhL v M qs)
 |[],L,M,h,_=>h
 |(i,j)::r,L,M,h,hz=>by
  simp only[D9,aN8,wS] at hz;simp only[rhL];split
  ·exact aI6 (qs:=r) (aUB h hz.1) hz.2
  ·exact aI6 (qs:=r) h hz.2
theorem sD{Z:Act->World->Prop}(s:AC)(hn:n0=n1)(ps qs:List (Nat×Nat))(q0_:aU (atE e) ps=some (ps.map λ_=>.h s n0)/\aU (atL L) qs=some (qs.map λ_=>.h s n0)/\dJ (qs.map (·.1))=true)
  (kk:∀a w,oZ n c B0 m (rhE (.h s n1) e ps) (rhL (.h s n1) L qs) a w->Z a w):∀a w,oZ n c B0 m e L a w->Z a w:=by
 obtain⟨hp,hq,ha⟩:=q0_;intro a w ⟨B,hm,hA,hS⟩;obtain⟨h1,h2⟩:=a7L s hn hp hq ha hA hS;exact kk a w ⟨B,hm,h1,h2⟩
end
variable{s:AC}
section
variable {P:Program} {T:TT} {hT:ED P T} {n:Nat} {c:Ctx} {B0:Bl} {N:Act->World->Prop} {X:Nat->Act->World->Prop} {Q:Act->World->Prop} {K K':List Fr} {m m':Nat} {e e':SE} {L L' Lv:List Ch} {cf cf' cf1 cf2:uH} {o:Oper} {d:Nat}
section
variable {x:Operand} {t t2 el sz:Nat} {b1 b2 b3:Bool} {n1 n2 n3:Nat} {z1 z2 z3:List SV}
theorem qbo(p:Nat){l:List UInt8}(hs:opS (jE T n K cf m e L)=some (o,Lv,cf1,cf2,K',m',e',L'))(ho:(o.op,o.dst)=(.convert t t2 x,some d))(ht:wU T t=some ⟨.sl el,b1,n1,z1⟩)(he:wU T el=some ⟨.i .u8,b2,n2,z2⟩)(h2:wU T t2=some ⟨.s,b3,n3,z3⟩)(hp:Lv[p]?=some (ow s l))(hx:iO e' x=some (.h s l.length))
  (kk:G (.mk P T hT n c B0 N X Q) K' m' ((d,.s l)::e') L' cf2):G (.mk P T hT n c B0 N X Q) K m e L cf:=by
 refine pu hs (cA Prod.snd ho) (λB a w hA hS=>⟨_,rfl,?_⟩) kk;obtain⟨⟨R,s1,s2⟩,s0⟩:=hS;have hr:=s1.aZR (cs:=[s.v l.length]) (d:=l) p (by simp[hp,lF]);obtain⟨de,q1,q2⟩:=hT.und _ _ he;exact bHB hr (EE ht hT) aj (bKJ h2 hT) (cA Prod.fst ho) (hdB hA hx)
theorem bC1[aM O](E:CO O){q:O}{y:E.ex}(h:aU (bL []) (E.cs q y)=some ec)(hL:E.Lx q y=[])(w:World):aM.rd F0 w ec q:=by have:=(E.pk h w F0).2 (by rw[hL];exact λ_ _ h=>h);grind[aM.own_rd]
theorem lits{O:Type}[aM O](E:CO O)(y:E.ex){sz:Nat}{B:Bl}{a:Act}(hA:gP n B e a)(hL:∀q,E.Lx q y=[]):∀{ps:List (Nat×Operand)} {qs:List O},aU (λp=>(iO e p.2).map λv=>nbL (nW v)) ps=some (qs.map λq=>E.cs q y)->(qs.all λq=>Nat.beq (E.cs q y).length sz && (aU (bL []) (E.cs q y)).isSome)=true ->
  ∃vs cells,evs (vE B e) (ps.map (·.2))=some vs/\vs.length=ps.length/\(vs.all λv=>v.cells.size == sz)=true/\(vs.flatMap λv=>v.cells.toList)=cells/\aPQ sz cells qs
 |[],[],_,_=>⟨[],[],rfl,rfl,rfl,rfl,rfl⟩
 |[],q::qs,h,_=>by cases h
 |p::ps,[],h,_=>by grind[aU]
 |p::ps,q::qs,h,hc=>by
  simp only[aU,D9] at h;split at h
  ·cases h
  ·rename_i c0 h1;split at h
   ·cases h
   ·rename_i cs h2;simp only[Option.some.injEq,List.cons.injEq] at h;obtain⟨rfl,rfl⟩:=h;simp only[aN8,wS] at hc;obtain⟨⟨hl,hsome⟩,hc⟩:=hc;obtain⟨vs,cells,g1,g2,g3,g4,g5⟩:=lits E y hA hL h2 (by simpa using hc);obtain⟨ec,hec⟩:=aGF.1 hsome;cases hxv:iO e p.2 with
    |none=>rw[hxv] at h1;cases h1
    |some xv=>
     rw[hxv] at h1;simp at h1;obtain⟨v,v1,v2⟩:=eD hA hxv;have hcell:aU (bL B) (nW xv)=some ec:=by rw[<-OW,h1];exact eV (λx v h=>by simpa using gA (B:=[]) B h) hec
     have hvc:v.cells.toList=ec:=RY v1 hcell;have hecl:ec.length=sz:=by rw[lM hec];exact oW hl
     refine⟨v::vs,ec++cells,by simp[evs,v2,g1],by simp[g2],?_,by simp[hvc,g4],?_,?_⟩
     ·rw[aN8,g3,<-Array.length_toList,hvc,hecl];simp
     ·rw[List.take_append_of_le_length (U9 hecl.symm),<-hecl,List.take_length];exact bC1 E hec (hL q) _
     ·rw[List.drop_append_of_le_length (U9 hecl.symm),<-hecl,List.drop_length,OU,hecl];exact g5
theorem ltK[aM O][Flat O](E:CO O)(y:E.ex)(qs:List O){len:Nat}{ps:List (Nat×Operand)}{zv:Value}(hinf:VB P el sz zv)(q0_:jE T n K cf m e L=.op o Lv cf1 cf2 K' m' e' L'/\(o.op,o.dst)=(.buildSlice t len ⟨ps⟩,some d)/\wU T t=some ⟨.sl el,b1,n1,z1⟩/\aM.n O=sz/\qs.length=len/\Nat.ble 1 sz=true/\Nat.ble (len*sz) 16777216=true/\ps.map (·.1)=List.range' 0 len/\aU (λp=>(iO e' p.2).map λv=>nbL (nW v)) ps=some (qs.map λq=>E.cs q y)/\(qs.all λq=>Nat.beq (E.cs q y).length sz && (aU (bL []) (E.cs q y)).isSome)=true)(hL:∀q,E.Lx q y=[])
  (k:∀s':AC,G (.mk P T hT n c B0 N X Q) K' m' ((d,.h s' qs.length)::e') (L'++[ow s' qs]) cf2):G (.mk P T hT n c B0 N X Q) K m e L cf:=by
 obtain⟨hs,ho,ht,hn,hl,hm,hsm,hix,hev,hec⟩:=q0_;refine aRM (l:=qs) (λs'=>L'++[ow s' qs]) hs (cA Prod.snd ho) (λ_=>sS _) (λB a w hA hS=>?_) k;obtain⟨⟨R,s1,s2⟩,s0⟩:=hS;obtain⟨vs,cells,g1,g2,g3,g4,g5⟩:=lits E y (sz:=sz) hA hL hev hec;have hpl:ps.length=len:=by have:=cA List.length hix;grind
 obtain⟨v,w',k1,k2⟩:=a5S (e:=vE B e') (o:=o) (ps:=ps) (vs:=vs) (cells:=cells) qs s1 hn (EE ht hT) hinf hl hm hsm g5 (cA Prod.fst ho) g1 (aKB hix (by rw[g2,hpl]) g3 g4);obtain⟨s',rfl⟩:=aEY (v:=v) (l:=qs) k2 (L'.map (lF B)).length ae;refine⟨s',w',k1,⟨⟨R,by grind[lF],λz hz=>?_⟩,s0⟩⟩;rcases dE.1 hz with hz|hz
 ·grind
 ·simp at hz;subst hz;trivial
end
end
section
variable {P:Program} {T:TT} {hT:ED P T} {n:Nat} {c:Ctx} {B0:Bl} {N:Act->World->Prop} {X:Nat->Act->World->Prop} {Q:Act->World->Prop} {K K':List Fr} {m m':Nat} {e e':SE} {L L' Lv:List Ch} {cf cf' cf1 cf2:uH} {o:Oper} {d:Nat}
theorem un[aM O](j:Nat)(ks:List Nat)(ps qs:List (Nat×Nat)){l:List O}(q0_:L[j]?=some (.o (eQ [s.v n0] l))/\fO j cf.wW=true/\aU (D4 e) ks=some (ks.map λ_=>.h s n0)/\aU (atE (ovh (.h s l.length) e ks)) ps=some (ps.map λ_=>.h s n0)/\aU (atL (L.set j (ow s l))) qs=some (qs.map λ_=>.h s n0)/\(dJ (qs.map (·.1)) && (qs.map (·.1)).all λj=>fO j cf.wW)=true)
  (k:l.length=n0->G (.mk P T hT n c B0 N X Q) K m (rhE (.h s l.length) (ovh (.h s l.length) e ks) ps) (rhL (.h s l.length) (L.set j (ow s l)) qs) cf):G (.mk P T hT n c B0 N X Q) K m e L cf:=by
 obtain⟨hj,hz,hk,hp,hq,ha⟩:=q0_;rw[wS] at ha;refine chg (λ_:PLift (l.length=n0)=>m) (λ_=>rhE (.h s l.length) (ovh (.h s l.length) e ks) ps) (λ_=>rhL (.h s l.length) (L.set j (ow s l)) qs) (λB a w hm hA hS=>?_) (λ_=>aI6 (EF hz) ha.2) (λh=>k h.down);have hn:l.length=n0:=by obtain⟨⟨R,s1,s2⟩,s0⟩:=hS;obtain⟨F,hF⟩:=s1.chunk (ch:=eQ [s.v n0] l) j (by simp[hj,lF]);obtain⟨ad,cp,h1,h2⟩:=MU (show aM.own w [s.v n0] l F from hF);grind
 subst hn;have hS':kX c w B (L.set j (ow s l)):=by grind[aPO]
 obtain⟨h1,h2⟩:=a7L s rfl hp hq ha.1 (aRL ks hk hA) hS';exact⟨⟨rfl⟩,[],aj,aj,aj⟩
theorem rr(s:AC)(hn:n0=n1)(ks:List Nat)(ps qs:List (Nat×Nat))(hk:aU (D4 e) ks=some (ks.map λ_=>.h s n0))(hp:aU (atE (ovh (.h s n1) e ks)) ps=some (ps.map λ_=>.h s n0))(hq:aU (atL L) qs=some (qs.map λ_=>.h s n0))(ha:(dJ (qs.map (·.1)) && (qs.map (·.1)).all λj=>fO j cf.wW)=true)
  (k:G (.mk P T hT n c B0 N X Q) K m (rhE (.h s n1) (ovh (.h s n1) e ks) ps) (rhL (.h s n1) L qs) cf):G (.mk P T hT n c B0 N X Q) K m e L cf:=by
 rw[wS] at ha;subst hn;refine chg (λ_:Unit=>m) (λ_=>rhE (.h s n0) (ovh (.h s n0) e ks) ps) (λ_=>rhL (.h s n0) L qs) (λB a w hm hA hS=>?_) (λ_=>aI6 (by simpa using sS (L:=L) []) ha.2) (λ_=>k);obtain⟨h1,h2⟩:=a7L s rfl hp hq ha.1 (aRL ks hk hA) hS;simp_all
theorem cpy{d:Option Nat}{y:Operand}[aM O][Flat O]{s2:AC}{l xs:List O}{kt:TK}(p a:Nat)(hb:a<=l.length/\l.length<=l.length)(hsrc:∀{w},HS c w L'->bI (dQ w) s2 xs)(hs:jE T n K cf m e L=.op o Lv cf1 cf2 K' m' e' L')(ho:(o.op,o.dst)=(.call {callee:=.builtin .copy,args:=#[x,y],argTypes:=#[t,t2]},d))(ht:wU T t=some ⟨.sl el,b1,n1,z1⟩)(he:wU T el=some ⟨kt,b2,sz,z2⟩)(hn:aM.n O=sz)(hp:(L'[p]?,fO p cf1.wW)=(some (ow s l),true))(hx:iO e' x=some (.h (s.sub sz a) ((l.take l.length).drop a).length))(hy:iO e' y=some (.h s2 xs.length))
  (k:G (.mk P T hT n c B0 N X Q) K' m' (dse d (.i .i64 ((min xs.length (l.length-a):Nat):Int)) e') (L'.set p (ow s (cR l a xs))) cf2):G (.mk P T hT n c B0 N X Q) K m e L cf:=by
 have hp1:L'[p]?=some (ow s l):=cA Prod.fst hp;have hz:fO p cf1.wW=true:=cA Prod.snd hp;have hlen:(cR l a xs).length=l.length:=eU hb.1;refine gQ (g:=.mk P T hT n c B0 N X Q) ?_;rw[hs];intro hdn _ hE;refine hE Unit (λ_=>m') (λ_=>dse d (.i .i64 ((min xs.length (l.length-a):Nat):Int)) e') (λ_=>L'.set p (ow s (cR l a xs))) (λ_=>EF hz) (λB act w next Q' hm hA hS hnext=>?_) (λ_=>k);have hr:bI (dQ w) s2 xs:=hsrc ⟨_,hS⟩;obtain⟨⟨R,s1,s2'⟩,s0⟩:=hS;have hx2:ev (vE (WX (.mk P T hT n c B0 N X Q) cf1++B) e') x=some (iU sz a l.length (s.v l.length)):=by grind[hdB,W6]
 have hop:o.op=.call {callee:=.builtin .copy,args:=#[x,y],argTypes:=#[t,t2]}:=cA Prod.fst ho;have hd:o.dst=d:=cA Prod.snd ho;obtain⟨v,w',k1,rfl,k2⟩:=aZZ p s1 (by rw[AQ,hp1];rfl) hr hn hb.1 (EE ht hT) (hT.size _ _ he) hop hx2 (hdB hA hy);unfold Oper.wp;rw[k1 _ act hA.env,Oper.upon_value,hd];have hS2:kX c w' (WX (.mk P T hT n c B0 N X Q) cf1++B) (L'.set p (ow s (cR l a xs))):=by
  refine⟨⟨R,?_,λz hz=>?_⟩,s0⟩
  ·rw[LD];show St c w' ((L'.map _).set p (eQ [s.v (cR l a xs).length] _)) R;grind
  ·rcases qW hz with hz|hz
   ·grind
   ·subst hz;trivial
 cases d with
 |none=>exact hnext () _ _ ⟨[],aj,by grind[Act.put,dse],aj⟩
 |some d=>exact hnext () _ _ ⟨[],aj,by simpa[dse] using hA.of (by simp[fB,gV,bL]) (hA.env.put (by grind[qI,vX]) _),aj⟩
theorem cp0{d:Option Nat}{y:Operand}[aM O][Flat O]{s2:AC}{l xs:List O}{kt:TK}(p:Nat)(hsrc:∀{w},HS c w L'->bI (dQ w) s2 xs)(hs:jE T n K cf m e L=.op o Lv cf1 cf2 K' m' e' L')(ho:(o.op,o.dst)=(.call {callee:=.builtin .copy,args:=#[x,y],argTypes:=#[t,t2]},d))(ht:wU T t=some ⟨.sl el,b1,n1,z1⟩)(he:wU T el=some ⟨kt,b2,sz,z2⟩)(hn:aM.n O=sz)(hp:(L'[p]?,fO p cf1.wW)=(some (ow s l),true))(hx:iO e' x=some (.h s l.length))(hy:iO e' y=some (.h s2 xs.length))
  (k:G (.mk P T hT n c B0 N X Q) K' m' (dse d (.i .i64 ((min xs.length (l.length-0):Nat):Int)) e') (L'.set p (ow s (cR l 0 xs))) cf2):G (.mk P T hT n c B0 N X Q) K m e L cf:=by
 have hp1:L'[p]?=some (ow s l):=cA Prod.fst hp;have hz:fO p cf1.wW=true:=cA Prod.snd hp;have hlen:(cR l 0 xs).length=l.length:=eU (i4 _);refine gQ (g:=.mk P T hT n c B0 N X Q) ?_;rw[hs];intro hdn _ hE;refine hE Unit (λ_=>m') (λ_=>dse d (.i .i64 ((min xs.length (l.length-0):Nat):Int)) e') (λ_=>L'.set p (ow s (cR l 0 xs))) (λ_=>EF hz) (λB act w next Q' hm hA hS hnext=>?_) (λ_=>k);have hr:bI (dQ w) s2 xs:=hsrc ⟨_,hS⟩;obtain⟨⟨R,s1,s2'⟩,s0⟩:=hS;have hop:o.op=.call {callee:=.builtin .copy,args:=#[x,y],argTypes:=#[t,t2]}:=cA Prod.fst ho;have hd:o.dst=d:=cA Prod.snd ho;obtain⟨v,w',k1,rfl,k2⟩:=a59 p s1 (by rw[AQ,hp1];rfl) hr hn (EE ht hT) (hT.size _ _ he) hop (hdB hA hx) (hdB hA hy);unfold Oper.wp;rw[k1 _ act hA.env,Oper.upon_value,hd];have hS2:kX c w' (WX (.mk P T hT n c B0 N X Q) cf1++B) (L'.set p (ow s (cR l 0 xs))):=by
  refine⟨⟨R,?_,λz hz=>?_⟩,s0⟩
  ·rw[LD];show St c w' ((L'.map _).set p (eQ [s.v (cR l 0 xs).length] _)) R;grind
  ·rcases qW hz with hz|hz
   ·grind
   ·subst hz;trivial
 cases d with
 |none=>exact hnext () _ _ ⟨[],aj,by grind[Act.put,dse],aj⟩
 |some d=>exact hnext () _ _ ⟨[],aj,by simpa[dse] using hA.of (by simp[fB,gV,bL]) (hA.env.put (by grind[qI,vX]) _),aj⟩
theorem fR{Z:Act->World->Prop}(q0_:a2Z e=some e1/\a21 L=some L1)(kk:∀a w,oZ n c B0 m e1 L1 a w->Z a w):∀a w,oZ n c B0 m e L a w->Z a w:=by obtain⟨h1,h2⟩:=q0_;grind[aIX,aIY]
end
def swN(i j n:Nat):Nat:=match Nat.beq n i with
 |true=>j
 |false=>match Nat.beq n j with
  |true=>i
  |false=>n
def swC(i j:Nat):SV->SV
 |.p n o=>.p (swN i j n) o
 |x=>x
def a27(i j:Nat):List SV->List SV
 |[]=>[]
 |x::r=>swC i j x::a27 i j r
def swG(i j:Nat):SV->SV
 |.g cs=>.g (a27 i j cs)
 |x=>swC i j x
def bC2(i j:Nat):List SV->List SV
 |[]=>[]
 |x::r=>swG i j x::bC2 i j r
def swF(i j:Nat):List Nat->List Nat
 |[]=>[]
 |n::r=>swN i j n::swF i j r
def swT(i j:Nat):SV->SV
 |.t cs=>.t (bC2 i j cs)
 |.f f ns=>.f f (swF i j ns)
 |x=>swG i j x
def swE(i j:Nat):SE->SE
 |[]=>[]
 |(k,x)::r=>(k,swT i j x)::swE i j r
def swL(i j:Nat):List Ch->List Ch
 |[]=>[]
 |x::r=>(match x with
  |.box n cs=>.box (swN i j n) (a27 i j cs)
  |.ro n cs=>.ro (swN i j n) (a27 i j cs)
  |.w n b z=>.w (swN i j n) b z
  |y=>y)::swL i j r
section
variable {B B':Bl} {i j:Nat}
theorem a7M(h:∀n,B'[swN i j n]?=B[n]?)(x:SV):bL B' (swC i j x)=bL B x:=by cases x<;>first|rfl|grind[swC,bL]
theorem aI7(h:∀n,B'[swN i j n]?=B[n]?):∀cs:List SV,aU (bL B') (a27 i j cs)=aU (bL B) cs
 |[]=>rfl
 |x::r=>by simp only[a27,aU,a7M h,aI7 h r]
theorem aXS(h:∀n,B'[swN i j n]?=B[n]?)(x:SV):gV B' (swG i j x)=gV B x:=by
 cases x with
 |g cs=>grind[swG,gV,aI7]
 |p n o=>exact a7M h (.p n o)
 |_=>rfl
theorem a0Q(h:∀n,B'[swN i j n]?=B[n]?):∀cs:List SV,aU (gV B') (bC2 i j cs)=aU (gV B) cs
 |[]=>rfl
 |x::r=>by simp only[bC2,aU,aXS h,a0Q h r]
theorem a7N(h:∀n,B'[swN i j n]?=B[n]?):∀cs:List Nat,aU (WC B') (swF i j cs)=aU (WC B) cs
 |[]=>rfl
 |x::r=>by simp only[swF,aU,WC,h];rw[show aU (WC B') (swF i j r)=aU (WC B) r from a7N h r]
theorem bHX(h:∀n,B'[swN i j n]?=B[n]?)(x:SV):fB B' (swT i j x)=fB B x:=by
 cases x with
 |t cs=>grind[swT,fB,a0Q]
 |f f ns=>grind[swT,fB,a7N]
 |g cs=>exact aXS h (.g cs)
 |p n o=>exact aXS h (.p n o)
 |_=>rfl
theorem a7O{k:Nat}{x:SV}:∀{e:SE},D4 (swE i j e) k=some x->∃y,D4 e k=some y/\x=swT i j y
 |[],h=>by cases h
 |(k',y)::r,h=>by
  simp only[swE,D4] at h ⊢;split at h
  ·grind
  ·rename_i hb;exact a7O h
theorem a0R(h:∀n,B'[swN i j n]?=B[n]?){w:World}{R:List Fact}:∀(L:List Ch),jP w (L.map (lF B)) ((swL i j L).map (lF B'))/\((∀x∈L,roF B R x)->∀x∈swL i j L,roF B' R x)
 |[]=>⟨.nil,λ_ x hx=>by cases hx⟩
 |x::L=>by
  obtain⟨h1,h2⟩:=a0R h (w:=w) (R:=R) L;refine⟨.cons (λF hF=>?_) h1,λhr y hy=>?_⟩
  ·cases x with
   |box n cs=>
    obtain⟨b,z,vs,k1,k2,k3⟩:=hF;exact⟨b,z,vs,aj,by grind[aI7],k3⟩
   |_=>exact hF
  ·rcases j3.1 hy with hy|hy
   ·have hx:=hr x ae;cases x with
    |box n cs=>subst hy;trivial
    |ro n cs=>
     obtain⟨b,z,vs,k1,k2,k3⟩:=hx;subst hy;exact⟨b,z,vs,aj,by grind[aI7],k3⟩
    |w n b z=>subst hy;show B'[swN i j n]?=_;rw[h];exact hx
    |o c=>subst hy;trivial
    |no=>subst hy;trivial
    |f f=>subst hy;exact hx
   grind
end
theorem bKS{i:Nat}(hi:i<B.length)(hj:j<B.length):∃B':Bl,B'.length=B.length/\(∀n,B'[swN i j n]?=B[n]?):=by
 refine⟨(B.set i B[j]).set j B[i],ae,λn=>?_⟩;unfold swN;cases h1:Nat.beq n i with
 |true=>
  simp_all
 |false=>
  have h1:n≠i:=λh=>by simp_all
  cases h2:Nat.beq n j with
  |true=>
   simp_all
  |false=>
   have h2:n≠j:=λh=>by simp_all
   grind
section
variable {n:Nat} {c:Ctx} {B0:Bl} {m:Nat} {e:SE} {L:List Ch}
theorem swR{Z:Act->World->Prop}(i j:Nat)(h:(Nat.ble B0.length i && (Nat.ble B0.length j && (Nat.blt i m && Nat.blt j m)))=true)
  (kk:∀a w,oZ n c B0 m (swE i j e) (swL i j L) a w->Z a w):∀a w,oZ n c B0 m e L a w->Z a w:=by
 simp only[wS,Nat.ble_eq,vX] at h;obtain⟨h1,h2,h3,h4⟩:=h;intro a w ⟨B,hm,hA,hS⟩;refine kk a w ?_;rw[D8] at hm;obtain⟨B',hl,hB⟩:=bKS (B:=B) (i:=i-B0.length) (j:=j-B0.length) aa aa;have key:∀n,(B0++B')[swN i j n]?=(B0++B)[n]?:=by
  intro n;have hsw:∀n,n<B0.length->swN i j n=n:=λn hn=>by grind[swN,oW]
  have hge:∀n,B0.length<=n->swN i j n=B0.length+swN (i-B0.length) (j-B0.length) (n-B0.length):=λn hn=>by
   have q1:Nat.beq (n-B0.length) (i-B0.length)=Nat.beq n i:=by rw[HP];(simp_all;omega)
   have q2:Nat.beq (n-B0.length) (j-B0.length)=Nat.beq n j:=by rw[HP];(simp_all;omega)
   grind[swN]
  grind[Nat.add_sub_cancel_left]
 refine⟨B',aj,⟨hA.d,hA.size,λk x hk=>?_⟩,?_⟩
 ·obtain⟨y,g1,rfl⟩:=a7O hk;obtain⟨v,g2,g3⟩:=hA.get k y g1;grind[bHX]
 ·obtain⟨⟨R,s1,s2⟩,s0⟩:=hS;obtain⟨g1,g2⟩:=a0R key (w:=w) (R:=R) L;exact⟨⟨R,s1.imp g1,g2 s2⟩,s0⟩
theorem pnR{Z:Act->World->Prop}[aM O](j:Nat){l:List O}(hl:l.length=n0)(hj:L[j]?=some (ow s l))
  (kk:∀a w,oZ n c B0 m e (L.set j (.o (eQ [s.v n0] l))) a w->Z a w):∀a w,oZ n c B0 m e L a w->Z a w:=by
 grind[aPO]
end
theorem fG{P:Program}{T:TT}{hT:ED P T}{N:Act->World->Prop}{X:Nat->Act->World->Prop}{Q:Act->World->Prop}{K:List Fr}(h1:a2Z e=some e1)(h2:a21 L=some L1)(k:G (.mk P T hT n c B0 N X Q) K m e1 L1 cf):G (.mk P T hT n c B0 N X Q) K m e L cf:=by grind[aIX,aIY]
def fc1:SV->Option SV
 |.i k x=>some (.i k x)
 |.y b=>some (.y b)
 |.b c=>some (.b c)
 |.l c=>some (.l c)
 |.s l=>some (.s l)
 |.p n o=>some (.p n o)
 |.h s n=>some (.h s n)
 |.e s n i o=>some (.e s n i o)
 |.k x=>some (.k x)
 |.g cs=>some (.g cs)
 |.t cs=>some (.t cs)
 |.f f cs=>some (.f f cs)
 |.u=>some .u
def fcs:List SV->Option (List SV)
 |[]=>some []
 |x::r=>match fc1 x with
  |some y=>match fcs r with
   |some s=>some (y::s)
   |none=>none
  |none=>none
def fc2:SV->Option SV
 |.g cs=>match fcs cs with
  |some ds=>some (.g ds)
  |none=>none
 |x=>fc1 x
def fgs:List SV->Option (List SV)
 |[]=>some []
 |x::r=>match fc2 x with
  |some y=>match fgs r with
   |some s=>some (y::s)
   |none=>none
  |none=>none
def fc3:SV->Option SV
 |.t cs=>match fgs cs with
  |some ds=>some (.t ds)
  |none=>none
 |x=>fc2 x
def fdE:SE->Option SE
 |[]=>some []
 |(k,v)::r=>match fc3 v with
  |some y=>match fdE r with
   |some s=>some ((k,y)::s)
   |none=>none
  |none=>none
def fdL:List Ch->Option (List Ch)
 |[]=>some []
 |x::r=>match fdL r with
  |some s=>match x with
   |.box n cs=>match fcs cs with
    |some ds=>some (.box n ds::s)
    |none=>none
   |.ro n cs=>match fcs cs with
    |some ds=>some (.ro n ds::s)
    |none=>none
   |y=>some (y::s)
  |none=>none
theorem a7P{x y:SV}(h:fc1 x=some y):y=x:=by cases x<;>simp only[fc1] at h<;>cases h<;>rfl
theorem aXT:∀{l r:List SV},fcs l=some r->r=l
 |[],r,h=>by cases h;rfl
 |x::l,r,h=>by
  simp only[fcs] at h;split at h
  ·rename_i y hy;split at h
   ·rename_i s hs;cases h;rw[a7P hy,aXT hs]
   ·cases h
  ·cases h
theorem a7Q{x y:SV}(h:fc2 x=some y):y=x:=by
 cases x with
 |g cs=>
  grind[fc2,aXT]
 |_=>exact a7P h
theorem a7R:∀{l r:List SV},fgs l=some r->r=l
 |[],r,h=>by cases h;rfl
 |x::l,r,h=>by
  simp only[fgs] at h;split at h
  ·rename_i y hy;split at h
   ·rename_i s hs;cases h;rw[a7Q hy,a7R hs]
   ·cases h
  ·cases h
theorem bHZ{x y:SV}(h:fc3 x=some y):y=x:=by
 cases x with
 |t cs=>
  grind[fc3,a7R]
 |_=>exact a7Q h
theorem a7S:∀{e r:SE},fdE e=some r->r=e
 |[],r,h=>by cases h;rfl
 |(k,v)::l,r,h=>by
  simp only[fdE] at h;split at h
  ·rename_i y hy;split at h
   ·rename_i s hs;cases h;rw[bHZ hy,a7S hs]
   ·cases h
  ·cases h
theorem a7T:∀{e r:List Ch},fdL e=some r->r=e
 |[],r,h=>by cases h;rfl
 |x::l,r,h=>by
  simp only[fdL] at h;split at h
  ·rename_i s hs;have:=a7T hs;grind[aXT]
  ·cases h
theorem fD{Z:Act->World->Prop}(h1:fdE e=some e1)(h2:fdL L=some L1)(kk:∀a w,oZ n c B0 m e1 L1 a w->Z a w):∀a w,oZ n c B0 m e L a w->Z a w:=by grind[a7S,a7T]
universe u
theorem Q{O:Sort u}{a:O}:a=a:=Eq.refl a
theorem Q2{a:Ta}{b:Tb}:a=a/\b=b:=⟨rfl,rfl⟩
theorem Q3{a:Ta}{b:Tb}{c:Tc}:a=a/\b=b/\c=c:=⟨rfl,rfl,rfl⟩
theorem Q4{a:Ta}{b:Tb}{c:Tc}{d:Td}:a=a/\b=b/\c=c/\d=d:=⟨rfl,rfl,rfl,rfl⟩
theorem Q5{a:Ta}{b:Tb}{c:Tc}{d:Td}{e:Te}:a=a/\b=b/\c=c/\d=d/\e=e:=⟨rfl,rfl,rfl,rfl,rfl⟩
theorem Q6{a:Ta}{b:Tb}{c:Tc}{d:Td}{e:Te}{f:Tf}:a=a/\b=b/\c=c/\d=d/\e=e/\f=f:=⟨rfl,rfl,rfl,rfl,rfl,rfl⟩
theorem Q7{a:Ta}{b:Tb}{c:Tc}{d:Td}{e:Te}{f:Tf}{g:Tg}:a=a/\b=b/\c=c/\d=d/\e=e/\f=f/\g=g:=⟨rfl,rfl,rfl,rfl,rfl,rfl,rfl⟩
theorem Q8{a:Ta}{b:Tb}{c:Tc}{d:Td}{e:Te}{f:Tf}{g:Tg}{h:Th}:a=a/\b=b/\c=c/\d=d/\e=e/\f=f/\g=g/\h=h:=⟨rfl,rfl,rfl,rfl,rfl,rfl,rfl,rfl⟩
theorem Q9{a:Ta}{b:Tb}{c:Tc}{d:Td}{e:Te}{f:Tf}{g:Tg}{h:Th}{i:Ti}:a=a/\b=b/\c=c/\d=d/\e=e/\f=f/\g=g/\h=h/\i=i:=⟨rfl,rfl,rfl,rfl,rfl,rfl,rfl,rfl,rfl⟩
theorem Q10{a:Ta}{b:Tb}{c:Tc}{d:Td}{e:Te}{f:Tf}{g:Tg}{h:Th}{i:Ti}{Tj:Sort _}{j:Tj}:a=a/\b=b/\c=c/\d=d/\e=e/\f=f/\g=g/\h=h/\i=i/\j=j:=⟨rfl,rfl,rfl,rfl,rfl,rfl,rfl,rfl,rfl,rfl⟩
theorem W8{a:Ta}{b:Tb}{c:Tc}{d:Td}{e:Te}{f:Tf}{g:Tg}{h:Th}{i:Ti}{Tj:Sort _}{j:Tj}{Tk:Sort _}{k:Tk}{Tl:Sort _}{l:Tl}{Tm:Sort _}{m:Tm}:a=a/\b=b/\c=c/\d=d/\e=e/\f=f/\g=g/\h=h/\i=i/\j=j/\k=k/\l=l/\m=m:=⟨rfl,rfl,rfl,rfl,rfl,rfl,rfl,rfl,rfl,rfl,rfl,rfl,rfl⟩
def W{ρ:Type}(C:Prop)(r:ρ)(F:Option ρ):Prop:=F=some r->C
theorem wm{r:ρ}{F F':Option ρ}(h:F'=F)(k:W C r F):W C r F':=h ▸ k
theorem wi{r:ρ}{F:Option ρ}(h:F=some r)(k:W C r F):C:=k h
def VS(P:Program)(c:Ctx)(f:FuncId){ρ ex:Type}(F:Option ρ)(xs:List SV)(B0:Bl)(L0:List Ch)(sv:ρ->ex->SV)(Lf:ρ->ex->List Ch):Prop:=∀r,F=some r->FnS P f c xs B0 L0 sv Lf r
abbrev V0(P:Program)(c:Ctx)(f:FuncId){ρ:Type}(F:Option ρ)(xs:List SV)(sv:ρ->SV):Prop:=VS P c f F xs [] [] (λr (_:Unit)=>sv r) (λ_ _=>[])
theorem VS.r{P:Program}{f:FuncId}{F:Option ρ}{L0:List Ch}{sv:ρ->ex->SV}{Lf:ρ->ex->List Ch}(h:VS P c f F xs B0 L0 sv Lf){r:ρ}(hF:F=some r):FnS P f c xs B0 L0 sv Lf r:=h r hF
def QR(P:Program)(fn:Func){rs:List ResultVar}(_:fn.results=rs.toArray)(c:Ctx)(B0:Bl){ρ ex:Type}(sv:ρ->ex->SV)(Lf:ρ->ex->List Ch)(r:ρ):Act->World->Prop:=QS P fn c B0 sv Lf r
def a7U(T:TT)(rs:List ResultVar)(is:List Nat)(b0:Nat)(L2:List Ch):Stop->Option (SV×List Ch)
 |.ret m e L=>match aRA T e L rs with
  |some x=>match yQ b0 (nbS x) with
   |true=>match Y8 b0 m e L is b0 [] L2 with
    |some ([],L3)=>some (nbS x,L3)
    |_=>none
   |false=>none
  |none=>none
 |_=>none
def a28(is:List Nat)(b0 mj:Nat)(ej:SE)(Lj:List Ch):Stop->Option (SE×List Ch)
 |.fin m e L=>Y8 b0 m e L is mj ej Lj
 |_=>none
def exQ(is:List Nat)(id b0 mj:Nat)(ej:SE)(Lj:List Ch):Stop->Option (SE×List Ch)
 |.ex i m e L=>match Nat.beq i id with
  |true=>Y8 b0 m e L is mj ej Lj
  |false=>none
 |_=>none
def bKT:Stop->Stop
 |.fin m e L=>.ret m e L
 |_=>.stuck
def ixT(T:TT)(t n:Nat):Bool:=match wU T t with
 |some ⟨.sl el,_,_,_⟩=>match wU T el with
  |some ⟨_,_,sz,_⟩=>Nat.beq n sz
  |none=>false
 |_=>false
section
variable {P:Program} {T:TT} {hT:ED P T} {n:Nat} {c:Ctx} {B0:Bl} {N:Act->World->Prop} {X:Nat->Act->World->Prop} {Q:Act->World->Prop} {K K':List Fr} {m m':Nat} {e e':SE} {L L' Lv:List Ch} {cf cf' cf1 cf2:uH} {o:Oper}
theorem enW(hT:ED P T){f:FuncId}{fn:Func}{cd:Code}{xs:List SV}{L0:List Ch}{ρ ex:Type}{sv:ρ->ex->SV}{Lf:ρ->ex->List Ch}{F:Option ρ}{rs:List ResultVar}(hc:∀args w,(callFunc f args).run P w=.ok (.enter f args) w)(hf:P.funcs[f]?=some fn)(hr:fn.results=rs.toArray)(q0_:fn.body=some cd/\fn.ntmps=n)
  (k:∀{r},W (G (.mk P T hT n c B0 (QR P fn hr c B0 sv Lf r) (λ_ _ _=>False) (QR P fn hr c B0 sv Lf r)) [] B0.length (aPY 0 xs) L0 (.c cd)) r F) (hl:Nat.ble xs.length n=true:=by exact rfl):VS P c f F xs B0 L0 sv Lf:=
 let ⟨hb,hm⟩:=q0_;λ_ hF=>en n hc hf hT hb hm hl (k hF)
theorem a0S{is:List Nat}{b0:Nat}{L2 L3:List Ch}{s:SV}{st:Stop}(h:a7U T rs is b0 L2 st=some (s,L3)):∃m' e' L' x,st=.ret m' e' L'/\aRA T e' L' rs=some x/\nbS x=s/\yQ b0 s=true/\Y8 b0 m' e' L' is b0 [] L2=some ([],L3):=by unfold a7U at h;grind
theorem jY{sv:ρ->ex->SV}{Lf:ρ->ex->List Ch}{r r':ρ}{hr:fn.results=rs.toArray}{zz:Option ρ}(y:ex)(is:List Nat)(q0_:zz=some r'/\a7U T rs is B0.length (Lf r' y) (jE T n K cf m e L)=some (sv r' y,Lf r' y)):W (G (.mk P T hT n c B0 N X (QR P fn hr c B0 sv Lf r)) K m e L cf) r zz:=let ⟨hz,h⟩:=q0_;λhF=>by obtain⟨_,_,_,_,h1,h2,h3,h4,h5⟩:=a0S h;exact rt y is hF hz h1 hr h2 h3 h4 h5
theorem dP{sv:ρ->Unit->SV}{Lf:ρ->Unit->List Ch}{r r':ρ}{hr:fn.results=rs.toArray}{zz:Option ρ}(q0_:zz=some r'/\a7U T rs [] B0.length (Lf r' ()) (jE T n K cf m e L)=some (sv r' (),Lf r' ())):W (G (.mk P T hT n c B0 N X (QR P fn hr c B0 sv Lf r)) K m e L cf) r zz:=let ⟨hz,h⟩:=q0_;jY () [] ⟨hz,h⟩
theorem G9{sv:ρ->ex->SV}{Lf:ρ->ex->List Ch}{r r':ρ}{hr:fn.results=rs.toArray}{zz:Option ρ}(y:ex)(is:List Nat)(hz:zz=some r')(h:a7U T rs is B0.length (Lf r' y) (bKT (jE T n K cf m e L))=some (sv r' y,Lf r' y)):W (G (.mk P T hT n c B0 (QR P fn hr c B0 sv Lf r) X Q) K m e L cf) r zz:=λhF=>by obtain⟨m',e',L',_,h1,h2,h3,h4,h5⟩:=a0S h;refine rf y is hF hz (m':=m') (e':=e') (L':=L') ?_ hr h2 h3 h4 h5;unfold bKT at h1;grind
theorem a0T{is:List Nat}{b0:Nat}{ej e3:SE}{Lj L3:List Ch}{st:Stop}(h:a28 is b0 mj ej Lj st=some (e3,L3)):∃m' e' L',st=.fin m' e' L'/\Y8 b0 m' e' L' is mj ej Lj=some (e3,L3):=by unfold a28 at h;grind
theorem qK{eq:π->Prop}{ej:π->υ->SE}{Lj:π->υ->List Ch}{p:π}{q:O}{zz:Option O}(u:υ)(is:List Nat)(q0_:(zz=some q)=eq p/\a28 is B0.length mj (ej p u) (Lj p u) (jE T n K cf m e L)=some (ej p u,Lj p u)):W (G (.mk P T hT n c B0 (JP n c B0 eq mj ej Lj) X Q) K m e L cf) q zz:=let ⟨hz,h⟩:=q0_;λhF=>by obtain⟨_,_,_,h1,h2⟩:=a0T h;exact jn u is (hz ▸ hF) h1 h2
theorem cB{eq:π->Prop}{ej:π->Unit->SE}{Lj:π->Unit->List Ch}{p:π}{q:O}{zz:Option O}(is:List Nat)(q0_:(zz=some q)=eq p/\a28 is B0.length mj (ej p ()) (Lj p ()) (jE T n K cf m e L)=some (ej p (),Lj p ())):W (G (.mk P T hT n c B0 (JP n c B0 eq mj ej Lj) X Q) K m e L cf) q zz:=let ⟨hz,h⟩:=q0_;qK () is ⟨hz,h⟩
theorem nxW{o:Step σ ρ}{el:σ->υ->SE}{Ll:σ->υ->List Ch}{s:σ}(u:υ)(is:List Nat)(h:a28 is B0.length mj (el s u) (Ll s u) (jE T n K cf m e L)=some (el s u,Ll s u)):W (G (.mk P T hT n c B0 (NxP n c B0 o mj el Ll) X Q) K m e L cf) o (some (Step.next s)):=λhF=>by obtain⟨_,_,_,h1,h2⟩:=a0T h;exact nx u is hF h1 h2
theorem KM{o:Step σ ρ}{el:σ->Unit->SE}{Ll:σ->Unit->List Ch}{s:σ}(is:List Nat)(h:a28 is B0.length mj (el s ()) (Ll s ()) (jE T n K cf m e L)=some (el s (),Ll s ())):W (G (.mk P T hT n c B0 (NxP n c B0 o mj el Ll) X Q) K m e L cf) o (some (Step.next s)):=nxW () is h
def BkR(n:Nat)(c:Ctx)(B0:Bl){β ρ σ υ:Type}{o:Step σ ρ}{ro:ρ}(_:∀p,o=.stop p->p=ro)(enc:β->ρ)(m:Nat)(ej:β->υ->SE)(Lj:β->υ->List Ch)(id:Nat)(X:Nat->Act->World->Prop):Nat->Act->World->Prop:=BkP n c B0 ro enc m ej Lj id X
theorem bkW{o:Step σ ρ}{ro:ρ}{enc:β->ρ}{ej:β->υ->SE}{Lj:β->υ->List Ch}{b:β}{hr:∀p,o=.stop p->p=ro}(u:υ)(is:List Nat)(h:exQ is id B0.length mj (ej b u) (Lj b u) (jE T n K cf m e L)=some (ej b u,Lj b u)):W (G (.mk P T hT n c B0 N (BkR n c B0 hr enc mj ej Lj id X) Q) K m e L cf) o (some (Step.stop (enc b))):=λhF=>by
 unfold exQ at h;split at h
 ·rename_i h0;split at h
  ·rename_i hb;rw[oW hb] at h0;exact bk u is hF hr h0 h
  ·cases h
 ·cases h
theorem IK{o:Step σ ρ}{ro:ρ}{enc:β->ρ}{ej:β->Unit->SE}{Lj:β->Unit->List Ch}{b:β}{hr:∀p,o=.stop p->p=ro}(is:List Nat)(h:exQ is id B0.length mj (ej b ()) (Lj b ()) (jE T n K cf m e L)=some (ej b (),Lj b ())):W (G (.mk P T hT n c B0 N (BkR n c B0 hr enc mj ej Lj id X) Q) K m e L cf) o (some (Step.stop (enc b))):=bkW () is h
theorem O1{o:Step σ ρ}{p ro:ρ}{F:ρ->Option O}{q:O}(hr:∀p,o=.stop p->p=ro)(hF:F ro=some q)(k:W C q (F p)):W C o (some (Step.stop p)):=λh=>k (re h rfl hr hF)
section
variable {b:Bool} {O:Type} {A B':Option O} {q:O}
theorem bY{o:Operand}{x:Code}(ss:List Nat)(q0_:jE T n K cf m e L=.cond o b x y K' m' e' L'/\aU (D4 e') ss=some (ss.map λ_=>SV.b b))
  (k1:W (G (.mk P T hT n c B0 N X Q) K' m' (ovr true e' ss) L' (.c x)) q A) (k2:W (G (.mk P T hT n c B0 N X Q) K' m' (ovr false e' ss) L' (.c y)) q B'):W (G (.mk P T hT n c B0 N X Q) K m e L cf) q (if b=true then A else B'):=let ⟨hs,ho⟩:=q0_;λhF=>cs ss hs ho hF k1 k2
theorem bNF{o:Operand}{x:Code}(ss:List Nat)(hs:jE T n K cf m e L=.cond o b x y K' m' e' L')(ho:aU (D4 e') ss=some (ss.map λ_=>SV.b b))
  (k1:b=true->W (G (.mk P T hT n c B0 N X Q) K' m' (ovr true e' ss) L' (.c x)) q A) (k2:b=false->W (G (.mk P T hT n c B0 N X Q) K' m' (ovr false e' ss) L' (.c y)) q B'):W (G (.mk P T hT n c B0 N X Q) K m e L cf) q (if b=true then A else B'):=λhF=>csK ss hs ho hF k1 k2
theorem gG(ss:List Nat)(q0_:jE T n K cf m e L=.case b cf' K' m' e' L'/\aU (D4 e') ss=some (ss.map λ_=>SV.b b))
  (k1:W (G (.mk P T hT n c B0 N X Q) K' m' (ovr true e' ss) L' cf') q A) (k2:W (G (.mk P T hT n c B0 N X Q) K' m' (ovr false e' ss) L' cf') q B'):W (G (.mk P T hT n c B0 N X Q) K m e L cf) q (if b=true then A else B'):=let ⟨hs,ho⟩:=q0_;λhF=>ca ss hs ho hF k1 k2
end
section
variable {O β:Type} {fo:Option O} {kf:O->Option β} {q:β} {d:Nat} {f:FuncId} {xs:List SV}
theorem c0{sv:O->SV}(hs:jE T n K cf m e L=.call o (some d) f xs cf1 cf2 K' m' e' L')
  (hc:∀{w},HS c w L'->V0 P (dQ w) f fo xs sv) (k:∀x,W (G (.mk P T hT n c B0 N X Q) K' m' ((d,sv x)::e') L' cf2) q (kf x)):W (G (.mk P T hT n c B0 N X Q) K m e L cf) q (fo.bind kf):=λhF=>cl0 hs (λh _ hx=>hc h _ hx) hF λx _ h=>k x h
theorem c1{sv:O->ex->SV}{Lf:O->ex->List Ch}(hs:jE T n K cf m e L=.call o (some d) f xs cf1 cf2 K' m' e' L')
  (hc:∀{w},HS c w L'->VS P (dQ w) f fo xs [] [] sv Lf) (k:∀x,∀y:ex,W (G (.mk P T hT n c B0 N X Q) K' m' ((d,sv x y)::e') (L'++Lf x y) cf2) q (kf x)) (hn:∀x y,noF (Lf x y)=true:=by exact λ_ _=>rfl):W (G (.mk P T hT n c B0 N X Q) K m e L cf) q (fo.bind kf):=λhF=>cl hs hn (λh _ hx=>hc h _ hx) hF λx _ h y=>k x y h
theorem yR{kf:O->Option β}{q:β}{iR:aM O}(C:CZ O){d:Nat}{ls:List O}(hs:jE T n K cf m e L=.idx o d t s ls.length i Lv cf1 cf2 K' m' e' L')(h1:bI c s ls)(ht:ixT T t (aM.n O)=true)
  (k:∀x,∀y:C.ex,C.sub c.S0 c.w0 x y->W (G (.mk P T hT n c B0 N X Q) K' (m'+1) ((d,.p m' 0)::e') (L'++[.ro m' (C.cs x y)]) (cf2.ext [.ro m' (C.cs x y)])) q (kf x)):W (G (.mk P T hT n c B0 N X Q) K m e L cf) q ((idx ls i).bind kf):=λhF=>by
 unfold ixT at ht;split at ht
 ·rename_i h2;split at ht
  ·rename_i h3;exact ix C hs h1 hF h2 h3 (oW ht) λx _ h y hy=>k x y hy h
  ·cases ht
 ·cases ht
theorem ixI{kf:Int->Option β}{q:β}{d:Nat}{ls:List Int}(hs:jE T n K cf m e L=.idx o d t s ls.length i Lv cf1 cf2 K' m' e' L')(h1:bI c s ls)(ht:ixT T t 1=true)
  (k:∀x,W (G (.mk P T hT n c B0 N X Q) K' (m'+1) ((d,.p m' 0)::e') (L'++[.ro m' [.i .i64 x]]) (cf2.ext [.ro m' [.i .i64 x]])) q (kf x)):W (G (.mk P T hT n c B0 N X Q) K m e L cf) q ((idx ls i).bind kf):=yR cI hs h1 ht λx _ _=>k x
theorem jZ(hm:P.follows .mixedOrders=true){ops:Array Oper}{zz:Option β}(is:List Nat)(hs:jE T n K cf m e L=.rgn id ops K' m' e' L')
  (k:∀{B1},W (G (.mk P T hT n c B0 N X Q) K' m' e' L' (.d B1 ops (List.replicate ops.size false) is (kl L' is) (kl L' is))) q zz) (hf:(aTW ops && (okL m' (kl L' is) && (dJ is && is.all λj=>Nat.blt j L'.length)))=true:=by kernel_rfl):W (G (.mk P T hT n c B0 N X Q) K m e L cf) q zz:=λhF=>dr is hs hm hf λ_=>k hF
theorem eE{zz:Option β}(j mj:Nat)(Fj:π->Option β)(ks:List Nat)(ej:π->υ->SE)(is:List Nat)(Lj:π->υ->List Ch)(hs:RU (jE T n K cf m e L)=some (K',cf',m',e',L'))
  (k1:W (G (.mk P T hT n c B0 (JP n c B0 (λp=>Fj p=some q) mj (λp u=>ej p u++kp e' ks) (λp u=>Lj p u++kl L' is)) (XK (.mk P T hT n c B0 N X Q) (K'.drop j)) Q) (K'.take j) m' e' L' cf') q zz)
  (k2:∀p u,W (G (.mk P T hT n c B0 N X Q) (K'.drop j) mj (ej p u++kp e' ks) (Lj p u++kl L' is) .n) q (Fj p)):W (G (.mk P T hT n c B0 N X Q) K m e L cf) q zz:=λhF=>cut j mj (λp=>Fj p=some q) ks ej is Lj hs (k1 hF) λp u h=>k2 p u h
theorem fX{zz:Option β}(j mj:Nat)(Fj:Bool->Option β)(ks:List Nat)(v:Nat)(is:List Nat)(hs:RU (jE T n K cf m e L)=some (K',cf',m',e',L'))
  (k1:W (G (.mk P T hT n c B0 (JP n c B0 (λp=>Fj p=some q) mj (λp (_:Unit)=>[(v,.b p)]++kp e' ks) (λ_ _=>[]++kl L' is)) (XK (.mk P T hT n c B0 N X Q) (K'.drop j)) Q) (K'.take j) m' e' L' cf') q zz)
  (k2:∀p,W (G (.mk P T hT n c B0 N X Q) (K'.drop j) mj ([(v,.b p)]++kp e' ks) ([]++kl L' is) .n) q (Fj p)):W (G (.mk P T hT n c B0 N X Q) K m e L cf) q zz:=eE j mj Fj ks (λp (_:Unit)=>[(v,.b p)]) is (λ_ _=>[]) hs k1 λp _=>k2 p
theorem OH{γ ω:Type}{fb:σ->Option (Step σ ρ)}{s0:σ}{gk:ρ->Option β}(u0:υ)(ks:List Nat)(el:σ->υ->SE)(is0 is:List Nat)(Ll:σ->υ->List Ch)(enc:γ->ρ)(kb:List Nat)(ej:γ->ω->SE)(ib:List Nat)(Lj:γ->ω->List Ch)
  (hs:jE T n K cf m e L=.loop id y K' m' e' L')
  (h0:Y8 B0.length m' e' L' is0 m' (el s0 u0++kp e' ks) (Ll s0 u0++kl L' is)=some (el s0 u0++kp e' ks,Ll s0 u0++kl L' is))
  (k1:∀{ro o},gk ro=some q->∀s u,(hr:∀p,o=.stop p->p=ro)->W (G (.mk P T hT n c B0 (NxP n c B0 o m' (λs u=>el s u++kp e' ks) (λs u=>Ll s u++kl L' is)) (BkR n c B0 hr enc m' (λb u=>ej b u++kp e' kb) (λb u=>Lj b u++kl L' ib) id (XK (.mk P T hT n c B0 N X Q) K')) Q) [] m' (el s u++kp e' ks) (Ll s u++kl L' is) (.c y)) o (fb s))
  (k2:∀b u,W (G (.mk P T hT n c B0 N X Q) K' m' (ej b u++kp e' kb) (Lj b u++kl L' ib) .n) q (gk (enc b))):W (G (.mk P T hT n c B0 N X Q) K m e L cf) q ((loop fb s0).bind gk):=λhF=>
 lp u0 ks el is0 is Ll enc kb ej ib Lj hs hF h0 (λro h1 s u o h2 h3=>k1 h1 s u h3 h2) λb u h=>k2 b u h
theorem WD{fb:Int->Option (Step Int ρ)}{s0:Int}{gk:ρ->Option β}(v:Nat)(ks:List Nat)(is:List Nat)(enc:Unit->ρ)(kb:List Nat)(ib:List Nat)
  (hs:jE T n K cf m e L=.loop id y K' m' e' L')
  (h0:Y8 B0.length m' e' L' is m' ([(v,.i .i64 s0)]++kp e' ks) ([]++kl L' is)=some ([(v,.i .i64 s0)]++kp e' ks,[]++kl L' is))
  (k1:∀{ro o},gk ro=some q->∀s,(hr:∀p,o=.stop p->p=ro)->W (G (.mk P T hT n c B0 (NxP n c B0 o m' (λs (_:Unit)=>[(v,.i .i64 s)]++kp e' ks) (λ_ _=>[]++kl L' is)) (BkR n c B0 hr enc m' (λ_ (_:Unit)=>[]++kp e' kb) (λ_ _=>[]++kl L' ib) id (XK (.mk P T hT n c B0 N X Q) K')) Q) [] m' ([(v,.i .i64 s)]++kp e' ks) ([]++kl L' is) (.c y)) o (fb s))
  (k2:W (G (.mk P T hT n c B0 N X Q) K' m' ([]++kp e' kb) ([]++kl L' ib) .n) q (gk (enc ()))):W (G (.mk P T hT n c B0 N X Q) K m e L cf) q ((loop fb s0).bind gk):=
 OH () ks (λs (_:Unit)=>[(v,.i .i64 s)]) is is (λ_ _=>[]) enc kb (λ_ (_:Unit)=>[]) ib (λ_ _=>[]) hs h0 (λh s _ hr=>k1 h s hr) λ_ _=>k2
theorem lrW{fb:σ->Option (Step σ ρ)}{s0:σ}{gk:ρ->Option β}(u0:υ)(ks:List Nat)(el:σ->υ->SE)(is0 is:List Nat)(Ll:σ->υ->List Ch)
  (hs:jE T n K cf m e L=.loop id y K' m' e' L')
  (h0:Y8 B0.length m' e' L' is0 m' (el s0 u0++kp e' ks) (Ll s0 u0++kl L' is)=some (el s0 u0++kp e' ks,Ll s0 u0++kl L' is))
  (k1:∀{ro o},gk ro=some q->∀s u,(hr:∀p,o=.stop p->p=ro)->W (G (.mk P T hT n c B0 (NxP n c B0 o m' (λs u=>el s u++kp e' ks) (λs u=>Ll s u++kl L' is)) (BkP n c B0 ro (λb:Empty=>nomatch b) m' (λ(b:Empty) (_:Unit)=>nomatch b) (λb _=>nomatch b) id (XK (.mk P T hT n c B0 N X Q) K')) Q) [] m' (el s u++kp e' ks) (Ll s u++kl L' is) (.c y)) o (fb s)):W (G (.mk P T hT n c B0 N X Q) K m e L cf) q ((loop fb s0).bind gk):=λhF=>
 lr u0 ks el is0 is Ll hs hF h0 λro h1 s u o h2 h3=>k1 h1 s u h3 h2
theorem sC{kf:O->Option β}{q:β}[aM O](E:CO O)(j:Nat){t:TypeId}{ls:List O}(q0_:jE T n K cf m e L=.idx o d t s ls.length i Lv cf1 cf2 K' m' e' L'/\L'[j]?=some (ow s ls)/\fO j cf1.wW=true)
  (k:∀x,idx ls i=some x->∀y:E.ex,Shp s ls.length->W (G (.mk P T hT n c B0 N X Q) K' (m'+1) e' (L'.set j .no++([.o (sI (s.v ls.length) ls i.toNat),.box m' (E.cs x y),wOf O m' s ls.length i.toNat]++E.Lx x y)) (cf1.ext [wOf O m' s ls.length i.toNat])) q (kf x)):W (G (.mk P T hT n c B0 N X Q) K m e L cf) q ((idx ls i).bind kf):=let ⟨hs,hj,hz⟩:=q0_;λhF=>oe E j hs hj hz hF λx h1 h2 y h3=>k x h1 y h3 h2
end
section
variable {O β ex:Type} {fo:Option O} {kf:O->Option β} {q:β} {d:Option Nat} {f:FuncId} {xs xs0:List SV} {M:List Ch} {sv:O->ex->SV} {Lr:O->ex->List Ch}
theorem LO(is:List Nat)
  (q0_:cpS (jE T n K cf m e L)=some (o,d,f,xs,cf1,cf2,K',m',e',L')/\aU (λi=>L'[i]?) is=some M/\aU (rnP [] 0) xs=some xs0/\(JO M && (dJ is && is.all λj=>fO j cf1.wW))=true)
  (hc:∀{U:Ctx},HG c U L' is->VS P U f fo xs0 [] M sv Lr)
  (k:∀x,∀y:ex,W (G (.mk P T hT n c B0 N X Q) K' m' (dse d (sv x y) e') (HT L' is++Lr x y) cf2) q (kf x)) (hn:∀x y,(JO (Lr x y) && yQ 0 (sv x y))=true:=by exact λ_ _=>rfl):W (G (.mk P T hT n c B0 N X Q) K m e L cf) q (fo.bind kf):=let ⟨hs,hi,hx,hk⟩:=q0_;λhF=>
 cw0 is hs hi hx hk hn (λh _ hx=>hc h _ hx) hF λx _ h y=>k x y h
theorem eY{c1:List SV}{a1:O->ex->List SV}(i1 n1 o1 k1:Nat)(is:List Nat)
  (q0_:cpS (jE T n K cf m e L)=some (o,d,f,xs,cf1,cf2,K',m',e',L')/\aKO L' [(i1,n1,o1,k1)]=some [c1]/\aU (λi=>L'[i]?) is=some M/\aU (rnP [(i1,n1,o1,k1)] 0) xs=some xs0/\(JO M && ([c1].all (yQ.okC 0) && (dJ (i1::is) && (i1::is).all λj=>fO j cf1.wW)))=true)
  (hc:∀{U:Ctx},HG c U L' (i1::is)->∀{b1:Nat×Nat},VS P U f fo xs0 [b1] (.box 0 c1::M) sv (λx y=>.box 0 (a1 x y)::Lr x y))
  (k:∀x,∀y:ex,W (G (.mk P T hT n c B0 N X Q) K' m' (dse d (sv x y) e') (OG L' (HT L' (i1::is)++Lr x y) [(i1,n1,o1,k1)] [a1 x y]) cf2) q (kf x)) (hn:∀x y,(aCO [(i1,n1,o1,k1)] [a1 x y] && ([a1 x y].all (yQ.okC 0) && (JO (Lr x y) && yQ 0 (sv x y))))=true:=by exact λ_ _=>rfl):W (G (.mk P T hT n c B0 N X Q) K m e L cf) q (fo.bind kf):=let ⟨hs,hb,hi,hx,hk⟩:=q0_;λhF=>
 cw1 i1 n1 o1 k1 is hs hb hi hx hk hn (λh _ _ hx=>hc h _ hx) hF λx _ h y=>k x y h
theorem aRQ{c1:List SV}{a1 a2:O->ex->List SV}(i1 n1 o1 k1:Nat)(i2 n2 o2 k2:Nat)(is:List Nat)
  (hs:cpS (jE T n K cf m e L)=some (o,d,f,xs,cf1,cf2,K',m',e',L')) (hb:aKO L' [(i1,n1,o1,k1),(i2,n2,o2,k2)]=some [c1,c2]) (hi:aU (λi=>L'[i]?) is=some M) (hx:aU (rnP [(i1,n1,o1,k1),(i2,n2,o2,k2)] 0) xs=some xs0)
  (hk:(JO M && ([c1,c2].all (yQ.okC 0) && (dJ (i1::i2::is) && (i1::i2::is).all λj=>fO j cf1.wW)))=true)
  (hc:∀{U:Ctx},HG c U L' (i1::i2::is)->∀{b1 b2:Nat×Nat},VS P U f fo xs0 [b1,b2] (.box 0 c1::.box 1 c2::M) sv (λx y=>.box 0 (a1 x y)::.box 1 (a2 x y)::Lr x y))
  (k:∀x,∀y:ex,W (G (.mk P T hT n c B0 N X Q) K' m' (dse d (sv x y) e') (OG L' (HT L' (i1::i2::is)++Lr x y) [(i1,n1,o1,k1),(i2,n2,o2,k2)] [a1 x y,a2 x y]) cf2) q (kf x)) (hn:∀x y,(aCO [(i1,n1,o1,k1),(i2,n2,o2,k2)] [a1 x y,a2 x y] && ([a1 x y,a2 x y].all (yQ.okC 0) && (JO (Lr x y) && yQ 0 (sv x y))))=true:=by exact λ_ _=>rfl):W (G (.mk P T hT n c B0 N X Q) K m e L cf) q (fo.bind kf):=λhF=>
 cw2 i1 n1 o1 k1 i2 n2 o2 k2 is hs hb hi hx hk hn (λh _ _ _ hx=>hc h _ hx) hF λx _ h y=>k x y h
theorem bNG{c1 c3:List SV}{a1 a2 a3:O->ex->List SV}(i1 n1 o1 k1:Nat)(i2 n2 o2 k2:Nat)(i3 n3 o3 k3:Nat)(is:List Nat)
  (hs:cpS (jE T n K cf m e L)=some (o,d,f,xs,cf1,cf2,K',m',e',L')) (hb:aKO L' [(i1,n1,o1,k1),(i2,n2,o2,k2),(i3,n3,o3,k3)]=some [c1,c2,c3]) (hi:aU (λi=>L'[i]?) is=some M) (hx:aU (rnP [(i1,n1,o1,k1),(i2,n2,o2,k2),(i3,n3,o3,k3)] 0) xs=some xs0)
  (hk:(JO M && ([c1,c2,c3].all (yQ.okC 0) && (dJ (i1::i2::i3::is) && (i1::i2::i3::is).all λj=>fO j cf1.wW)))=true)
  (hc:∀{U:Ctx},HG c U L' (i1::i2::i3::is)->∀{b1 b2 b3:Nat×Nat},VS P U f fo xs0 [b1,b2,b3] (.box 0 c1::.box 1 c2::.box 2 c3::M) sv (λx y=>.box 0 (a1 x y)::.box 1 (a2 x y)::.box 2 (a3 x y)::Lr x y))
  (k:∀x,∀y:ex,W (G (.mk P T hT n c B0 N X Q) K' m' (dse d (sv x y) e') (OG L' (HT L' (i1::i2::i3::is)++Lr x y) [(i1,n1,o1,k1),(i2,n2,o2,k2),(i3,n3,o3,k3)] [a1 x y,a2 x y,a3 x y]) cf2) q (kf x)) (hn:∀x y,(aCO [(i1,n1,o1,k1),(i2,n2,o2,k2),(i3,n3,o3,k3)] [a1 x y,a2 x y,a3 x y] && ([a1 x y,a2 x y,a3 x y].all (yQ.okC 0) && (JO (Lr x y) && yQ 0 (sv x y))))=true:=by exact λ_ _=>rfl):W (G (.mk P T hT n c B0 N X Q) K m e L cf) q (fo.bind kf):=λhF=>
 cw3 i1 n1 o1 k1 i2 n2 o2 k2 i3 n3 o3 k3 is hs hb hi hx hk hn (λh _ _ _ _ hx=>hc h _ hx) hF λx _ h y=>k x y h
end
theorem aA6{iR:aM O}{C:CZ O}{sr:β->SV}{p:O->Option β}(hc:∀args w,(callFunc g args).run P w=.ok (.enter g args) w)(hn:∀{U:Ctx} {x y},C.sub U.S0 U.w0 x y->V0 P U g (p x) [C.sv x y] sr):WQ P (dQ w) C sr g [] p:=fu1 hc (by intro U x y h q hq;exact hn h _ hq)
theorem aGX{iR:aM O}{C:CZ O}{sr:β->SV}{cs:List (Nat×List SV)}{p:O->Option β}(hc:∀args w,(callFunc g args).run P w=.ok (.enter g args) w)(hB:∀w1,eC F0 w w1->kX (dQ w1) w1 Bs (roL 0 cs))(hl:aU (fB Bs) (a64 0 cs)=some (OF Bs))(hn:∀{w1 x y},eC F0 w w1->C.sub (Y5 w1) w1 x y->VS P (dQ w1) g (p x) (C.sv x y::a64 0 cs) Bs (roL 0 cs) (λr (_:Unit)=>sr r) (λ_ _=>[]))(hz:∀q,yQ 0 (sr q)=true:=by exact λ_=>rfl):WQ P (dQ w) C sr g (OF Bs) p:=fk1 hc hB hl hz (by intro w1 x y h h' q hq;exact hn h h' _ hq)
section
variable {O β:Type} {fo:Option O} {kf:O->Option β} {q:β} {d:Nat} {f g:FuncId} {xs:List SV} {sv:O->SV}
theorem aKR{c1:List SV}(is:List Nat)(hs:jE T n K cf m e L=.callp o (some d) f xs cf1 cf2 K' m' e' L')(hk:kl L' is=[.ro n1 c1])(ho:(aOC [(n1,c1)] && okA xs.dropLast)=true)(hx:xs=xs.dropLast++[.f g [n1]])
  (hc:∀{w},HS c w L'->∀{b1:Nat×Nat},(∀w1,eC F0 w w1->kX (dQ w1) w1 [b1] [.ro 0 c1])->V0 P (dQ w) f fo (xs.dropLast++[.k (.func (.func g) #[] (OF [b1]).toArray)]) sv)
  (k:∀x,W (G (.mk P T hT n c B0 N X Q) K' m' ((d,sv x)::e') L' cf2) q (kf x)):W (G (.mk P T hT n c B0 N X Q) K m e L cf) q (fo.bind kf):=λhF=>
 bM6 is hs hk ho hx (λh _ h2 _ hx=>hc h h2 _ hx) hF λx _ h=>k x h
theorem bNH{n2:Nat}{c1:List SV}(is:List Nat)(hs:jE T n K cf m e L=.callp o (some d) f xs cf1 cf2 K' m' e' L')(hk:kl L' is=[.ro n1 c1,.ro n2 c2])(ho:(aOC [(n1,c1),(n2,c2)] && okA xs.dropLast)=true)(hx:xs=xs.dropLast++[.f g [n1,n2]])
  (hc:∀{w},HS c w L'->∀{b1 b2:Nat×Nat},(∀w1,eC F0 w w1->kX (dQ w1) w1 [b1,b2] [.ro 0 c1,.ro 1 c2])->V0 P (dQ w) f fo (xs.dropLast++[.k (.func (.func g) #[] (OF [b1,b2]).toArray)]) sv)
  (k:∀x,W (G (.mk P T hT n c B0 N X Q) K' m' ((d,sv x)::e') L' cf2) q (kf x)):W (G (.mk P T hT n c B0 N X Q) K m e L cf) q (fo.bind kf):=λhF=>
 bM7 is hs hk ho hx (λh _ _ h2 _ hx=>hc h h2 _ hx) hF λx _ h=>k x h
end
end
def pV(y:Nat×Nat):Value:=.pointer (some ⟨y.1,y.2,none⟩)
section
variable {P:Program} {T:TT} {hT:ED P T} {n:Nat} {c:Ctx} {B0:Bl} {N:Act->World->Prop} {X:Nat->Act->World->Prop} {Q:Act->World->Prop} {K K':List Fr} {m m':Nat} {e e':SE} {L L':List Ch} {cf cf1 cf2:uH} {o:Oper}
abbrev VP(P:Program)(c:Ctx)(f:FuncId){ρ:Type}(F:Option ρ)(xs:List SV)(cs:ρ->List SV):Prop:=VS P c f F xs [] [] (λ_ (y:Nat×Nat)=>.k (pV y)) (λr y=>[.o (TF [y] 0 (cs r))])
theorem rtP{r r':ρ}{hr:fn.results=[ResultVar.tmp t].toArray}{zz:Option ρ}{cs:ρ->List SV}(is:List Nat)(hz:zz=some r')(hs:jE T n K cf m e L=.ret m' e' L')(hL:Y8 0 m' e' L' is 1 [(t,.p 0 0)] [.box 0 (cs r')]=some ([(t,.p 0 0)],[.box 0 (cs r')]))(ho:yQ.okC 0 (cs r')=true):W (G (.mk P T hT n c [] N X (QR P fn hr c [] (λ_ (y:Nat×Nat)=>.k (pV y)) (λr y=>[.o (TF [y] 0 (cs r))]) r)) K m e L cf) r zz:=λhF=>by
 subst hz;cases hF;refine gQ (g:=.mk P T hT n c [] N X _) ?_;rw[hs];intro a w hr';obtain⟨B,hm,hA,hS⟩:=oZ.Y8 hr' is hL;have hB:∃y,B=[y]:=by
  cases B with
  |nil=>simp at hm
  |cons y B=>grind
 obtain⟨y,rfl⟩:=hB;have hS:kX c w [y] [.box 0 (cs r)]:=hS;have hA:gP n [y] [(t,.p 0 0)] a:=hA;have hv:aRA T [(t,.p 0 0)] [.box 0 (cs r)] [ResultVar.tmp t]=some (.p 0 0):=by simp[aRA,a6H,D4]
 obtain⟨v,h1,h2⟩:=aI2 hr hT hA hS hv;have hv':v=pV y:=by simp only[fB,gV,bL,List.getElem?_cons_zero] at h1;cases h1;rfl
 subst hv';refine⟨hA.d,_,h2,y,by grind[fB,gV,bL,Value.oneCell'],?_⟩;obtain⟨⟨R,s1,s2⟩,s0⟩:=hS;exact⟨⟨R,s1.imp (.cons (λF h=>h) .nil),λx hx=>by rcases j3.1 hx with rfl|hx<;>first|trivial|simp at hx⟩,s0⟩
theorem cP{fo:Option O}{kf:O->Option β}{q:β}{d:Nat}{f:FuncId}{cs:O->List SV}(hs:jE T n K cf m e L=.call o (some d) f xs cf1 cf2 K' m' e' L')
  (hc:∀{w},HS c w L'->VP P (dQ w) f fo xs cs) (k:∀x,W (G (.mk P T hT n c B0 N X Q) K' (m'+1) ((d,.p m' 0)::e') (L'++[.box m' (cs x)]) cf2) q (kf x)) (hk:∀x,yQ.okC 0 (cs x)=true:=by exact λ_=>rfl):W (G (.mk P T hT n c B0 N X Q) K m e L cf) q (fo.bind kf):=λhF=>by
 refine gQ (g:=.mk P T hT n c B0 N X Q) ?_;rw[hs];intro fo' args ats ho hd hf ⟨ys,hys,hxs⟩ hA0 hdn hE;subst hxs;cases hfo:fo with
 |none=>grind
 |some x=>
  rw[hfo] at hF;refine hE Unit (λ_=>m'+1) (λ_=>(d,.p m' 0)::e') (λ_=>L'++[.box m' (cs x)]) (λ_=>sS _) (λB a w next Q' hm hA hS hnext=>?_) (λ_=>k x hF);obtain⟨hcall,hrun⟩:=hc ⟨_,hS⟩ x hfo;obtain⟨vs,h1,h2⟩:=aAD hA hys;obtain⟨v,h3,h4⟩:=eD hA hf;simp[fB,aU] at h3;subst h3;have h5:=hrun vs (aCN hA0 (by rw[OX];exact h1)) (aRH w);have h6:=RZ (w:=w) hcall ho h4 h2;unfold Oper.wp;rw[h6 _ a hA.env,Oper.upon_enter];refine Calls.mono h5 λen w' ⟨v,hv,y,g1,g2⟩=>?_;subst hv;rw[hd];have hv':v=pV y:=by grind[fB,gV,bL]
  subst hv';have hb:∀{F:cC},(TF [y] 0 (cs x)).P w' F->(TF ((WX (.mk P T hT n c B0 N X Q) cf1++B)++[y]) m' (cs x)).P w' F:=λ⟨b,z,us,k1,k2,k3⟩=>by
   simp only[List.getElem?_cons_zero,Option.some.injEq] at k1;refine⟨y.1,y.2,us,?_,?_,aj⟩
   ·grind
   ·simpa using eV (λx v h=>by simpa using gA (B:=[]) (WX (.mk P T hT n c B0 N X Q) cf1++B++[y]) h) (BT (hk x) k2)
  have g3:fB ((WX (.mk P T hT n c B0 N X Q) cf1++B)++[y]) (.p m' 0)=some (pV y):=by grind[fB,gV,bL,pV]
  refine hnext () _ _ ⟨[y],aj,hA.ext g3 (hA.env.put (by grind[qI,vX]) _),?_⟩;obtain⟨⟨R,s1,s2⟩,s0⟩:=(hS.after (L2:=[.o (TF [y] 0 (cs x))]) rfl g2).app [y];refine⟨⟨R,s1.imp ?_,λz hz=>?_⟩,s0⟩
  ·rw[sH,sH];exact jP.append (jP.refl _) (.cons (λF h=>hb h) .nil)
  ·rcases dE.1 hz with hz|hz
   ·grind
   ·rcases j3.1 hz with rfl|hz<;>first|trivial|simp at hz
def bH0(b:Bool)(off sz:Nat)(cs:List SV):Option SV:=match b with
 |true=>some (.g ((cs.drop off).take sz))
 |false=>match cs[off]? with
  |some x=>match x with
   |.g _=>none
   |.t _=>none
   |.f _ _=>none
   |.u=>none
   |y=>some y
  |none=>none
theorem bNI{F0:Option O}{q:O}{ix d:Nat}{b:Bool}{k:TK}{z cs:List SV}{Fs:Array Field}{F:Field}{r:SV}{Lv:List Ch}(hu:P.underlying t=some (.struct Fs))(hf:Fs[ix]?=some F)(hl:wU T F.type=some ⟨k,b,sz,z⟩)(hs:opS (jE T n K cf m e L)=some (o,Lv,cf1,cf2,K',m',e',L'))(ho:(o.op,o.dst)=(.field t x ix,some d))(hx:iO e' x=some (.g cs))(hr:bH0 b F.offset sz cs=some r)(hz:(!b || Nat.ble (F.offset+sz) cs.length)=true)
  (kk:W (G (.mk P T hT n c B0 N X Q) K' m' ((d,r)::e') L' cf2) q F0):W (G (.mk P T hT n c B0 N X Q) K m e L cf) q F0:=λhF=>
 pu hs (cA Prod.snd ho) (λB a w hA _=>by
  obtain⟨v,h1,h2⟩:=eD hA hx;simp only[fB,gV] at h1;split at h1
  case h_2=>cases h1
  rename_i vs hv;cases h1;have hlen:=lM hv;have h0:o.op=.field t x ix:=cA Prod.fst ho;have hag:=hT.agg _ _ hl;have hsz:=hT.size _ _ hl;cases b with
  |true=>
   have hz':=RO (by simpa using hz);simp only[bH0] at hr;cases hr;refine⟨.agg ((vs.drop F.offset).take sz).toArray,by grind[fB,gV,RX,RW],λ_ a hA=>?_⟩;have e:vs.toArray.extract F.offset (F.offset+sz)=((vs.drop F.offset).take sz).toArray:=ae
   simp[execOp,h0,hA.eval h2,Instr.field,run_underlying hu,hf,part,asAgg,hag,hsz,e]
  |false=>
   simp only[bH0] at hr;split at hr
   case h_2=>cases hr
   rename_i y hy;obtain⟨u,h4,h5⟩:=RV hv hy;have hr':r=y:=aj
   subst hr';refine⟨u,aZ2 h4,λ_ a hA=>?_⟩;simp[execOp,h0,hA.eval h2,Instr.field,run_underlying hu,hf,part,asAgg,hag,h5]) (kk hF)
end
section
variable {n:Nat} {c:Ctx} {B0:Bl} {m:Nat} {e:SE} {L:List Ch}
def kf(L xs:List Ch)(k:Nat):List Nat->List Ch
 |[]=>[]
 |i::is=>match Nat.blt i k with
  |true=>match L[i]? with
   |some x=>x::kf L xs k is
   |none=>kf L xs k is
  |false=>match xs[i-k]? with
   |some x=>x::kf L xs k is
   |none=>kf L xs k is
end
open Go Go.RowKit
theorem aUG{W:World}{B:Nat}{v:Value}{cs:Array Value}{t:TypeId}{f:Nat×Nat}(h:W.heap[B]?=some (.cells cs t f)):W.setCell ⟨B,j,none⟩ v=W.putObj B (.cells (cs.setIfInBounds j v) t f):=by unfold World.setCell World.putObj;obtain⟨hlt,he⟩:=aGS.1 h;congr 1;grind
theorem aOF{w':World}(h:Below w.heap.size w w'):eC F0 w w' where
 os:=h.os
 tape:=h.tape
 output:=h.output
 size:=h.size
 block:=λb hb _=>h.block b hb
 cell:=λb o hb _=>World.cell?_of_block (h.block b hb)
 wW:=λb o hb=>World.frozen?_of_block (h.block b hb)
 stay:=λb o hs=>by rw[World.cell?_of_block (a:=⟨b,o,none⟩) (h.block b (jH hs))];exact hs
end Go.Gv
end
noncomputable section
namespace Go.Gv
variable{U:Ctx}{g:FuncId}{c3 xs:List SV}{vs:List Value}{n1 n2 n3:Nat}{P:Program}{O β:Type}{w:World}{F:cC}
section
variable {P:Program} {T:TT} {hT:ED P T} {n:Nat} {c:Ctx} {B0:Bl} {N:Act->World->Prop} {X:Nat->Act->World->Prop} {Q:Act->World->Prop} {K K':List Fr} {m m':Nat} {e e':SE} {L L' Lv:List Ch} {cf cf' cf1 cf2:uH} {o:Oper}
theorem aUH{O β:Type}{f:O->Option β}:∀{xs ys:List O} {vs:List β},aU f (xs++ys)=some vs->∃v1 v2,aU f xs=some v1/\aU f ys=some v2/\vs=v1++v2
 |[],ys,vs,h=>⟨[],vs,rfl,h,rfl⟩
 |x::xs,ys,vs,h=>by
  simp only[D7,aU] at h;split at h
  ·cases h
  ·rename_i h1;split at h
   ·cases h
   ·rename_i h2;cases h;obtain⟨v1,v2,q1,q2,rfl⟩:=aUH h2;grind[aU]
theorem aUI{O β:Type}{f:O->Option β}:∀{xs ys:List O} {v1 v2:List β},aU f xs=some v1->aU f ys=some v2->aU f (xs++ys)=some (v1++v2)
 |[],ys,v1,v2,h1,h2=>by cases h1;exact h2
 |x::xs,ys,v1,v2,h1,h2=>by
  simp only[aU] at h1;split at h1
  ·cases h1
  ·rename_i g1;split at h1
   ·cases h1
   ·rename_i g2;cases h1;simp[aU,g1,aUI g2 h2]
theorem bKU{iR:aM O}{C:CZ O}{sr:β->SV}{b1:Nat×Nat}{c1:List SV}{p:O->Option β}(hc:∀args w,(callFunc g args).run P w=.ok (.enter g args) w)(hB:∀w1,eC U.W U.w0 w1->kX (dQ w1) w1 [b1] [.ro 0 c1])
  (hn:∀{w1 x y},C.sub (Y5 w1) w1 x y->VS P (dQ w1) g (p x) [C.sv x y,.p 0 0] [b1] [.ro 0 c1] (λr (_:Unit)=>sr r) (λ_ _=>[])) (hz:∀q,yQ 0 (sr q)=true:=by exact λ_=>rfl):WQ P U C sr g (OF [b1]) p:=
 ⟨hc,λw1 hk x y hy q hq v hv=>by
  have hv':fB [b1] (C.sv x y)=some v:=by simpa using vZ (B:=[]) [b1] hv
  have hl:fB [b1] (.p 0 0)=some (.pointer (some ⟨b1.1,b1.2,none⟩)):=by simp[fB,gV,bL]
  refine Calls.mono ((hn hy _ hq).run (v::OF [b1]) (by grind[aU,OF]) (hB w1 hk)) λen w' ⟨v',h1,y',h2,h3⟩=>⟨v',h1,?_,?_⟩
  ·grind[aP0]
  ·simpa using aCK (m:=0) h3 rfl⟩
theorem bKV{ex:Type}{fo:Option O}{kf:O->Option β}{q:β}{d:Option Nat}{f:FuncId}{xs0:List SV}{M:List Ch}{sv:O->ex->SV}{Lr:O->ex->List Ch}{c1:List SV}(jc:Nat)(is:List Nat)
  (hs:cpS (jE T n K cf m e L)=some (o,d,f,xs,cf1,cf2,K',m',e',L')) (hro:L'[jc]?=some (.ro n1 c1)) (hi:aU (λi=>L'[i]?) is=some M) (hxl:xs=xs.dropLast++[.f g [n1]]) (hx:aU (rnP [] 0) xs.dropLast=some xs0)
  (hk:(yQ.okC 0 c1 && (JO M && (dJ is && is.all λj=>fO j cf1.wW)))=true)
  (hc:∀{U:Ctx},HG c U L' is->∀{b1:Nat×Nat},(∀w1,eC U.W U.w0 w1->kX (dQ w1) w1 [b1] [.ro 0 c1])->VS P U f fo (xs0++[.k (.func (.func g) #[] (OF [b1]).toArray)]) [] M sv Lr)
  (k:∀x,∀y:ex,W (G (.mk P T hT n c B0 N X Q) K' m' (dse d (sv x y) e') (HT L' is++Lr x y) cf2) q (kf x)) (hn:∀x y,(JO (Lr x y) && yQ 0 (sv x y))=true:=by exact λ_ _=>rfl):W (G (.mk P T hT n c B0 N X Q) K m e L cf) q (fo.bind kf):=λhF=>by
 refine gQ (g:=.mk P T hT n c B0 N X Q) (a7G hs ?_);intro fo' args ats ho hd hf ⟨ys,hys,hxs⟩ hdn hE;simp only[wS] at hk hn;obtain⟨hk1,hkM,hka,hkz⟩:=hk;cases hfo:fo with
 |none=>grind
 |some x=>
  rw[hfo] at hF;refine hE ex (λ_=>m') (λy=>dse d (sv x y) e') (λy=>HT L' is++Lr x y) (λy=>TL _ hkz) (λB a w next Q' hm hA hS hnext=>?_) (λy=>k x y hF);generalize hBB:WX (.mk P T hT n c B0 N X Q) cf1++B=BB at hm hA hS hnext;obtain⟨⟨R,s1,s2⟩,s0⟩:=hS;have f1:=s1.front is hka;rw[OZ hi] at f1;obtain⟨U,k1,k2,k3,k4,k5,k6,k7⟩:=f1.bF0 s0;subst k1;have hHG:HG c U L' is:=by
   refine⟨λ{O} _ {s d} h=>k4 (fRd [s.v d.length] d) h,λ{O} _ {s d} i hi hj=>?_,λ{O} _ {s d} i hi=>k5 _ (s2 _ (EA hi))⟩;have:(blank (L'.map (lF BB)) is)[i]?=some (eQ [s.v d.length] d):=by rw[aES (aEZ hj),AQ,hi];rfl
   exact k6 _ (EA this) (fRd [s.v d.length] d) λw F h=>aM.own_rd h
  obtain⟨b,z,vs1,g1,g2,g3⟩:=s2 _ (EA hro);have hc0:=BT hk1 g2;rw[List.take_zero] at hc0;have hB:∀w1,eC U.W U.w0 w1->kX (dQ w1) w1 [(b,z)] [.ro 0 c1]:=λw1 hkp=>by have h1:=k5 _ g3;have h2:(fAt b z vs1).P U.S0 w1:=(fAt b z vs1).agree h1 λb' o' hS=>hkp.cell b' o' (k2 b' o' hS) λhw=>k3.apart b' o' hw hS;have h3:(fAt b z vs1).P (Y5 w1) w1:=(fAt b z vs1).mono h2 λb' o' hS=>HE (k2 b' o' hS) hkp.size;have h4:St (dQ w1) w1 [] [fAt b z vs1]:=St.enter aj;refine⟨⟨[fAt b z vs1],St.more (ch:=LN) h4 (eC.refl _ _) ⟨F0,λ_ _ h=>h,λ_ _ h=>h.elim⟩,λx hx=>?_⟩,λ_ _ h=>h⟩;simp at hx;subst hx;exact⟨b,z,vs1,ae,eV (λx v h=>by simpa using gA (B:=[]) _ h) hc0,ae⟩
  obtain⟨hcall,hrun⟩:=hc hHG hB x hfo;obtain⟨vs,h1,h2⟩:=aAD hA hys;obtain⟨v,h3,h4⟩:=eD hA hf;simp[fB,aU] at h3;subst h3;have h1':aU (fB BB) xs=some vs:=by grind[OX]
  have hvs:aU (fB []) (xs0++[.k (.func (.func g) #[] (OF [(b,z)]).toArray)])=some vs:=by rw[hxl] at h1';obtain⟨va,vb,q1,q2,rfl⟩:=aUH h1';have q3:=aRO (Bs:=[]) (ps:=[]) (ds:=[]) (pv:=[]) (L:=L') (B:=BB) trivial (λi=>by simp[blP]) hx q1;simp only[aU,fB,gV,WC,g1] at q2;cases q2;exact aUI q3 (by simp[aU,fB,gV,bL,OF];rfl)
  have hst:kX U U.w0 [] M:=by
   refine⟨⟨[],?_,λx hx=>?_⟩,k2⟩
   ·rw[WZ (B':=BB) hkM];exact k3
   ·exact W5 hkM x hx
  have h5:=hrun vs hvs hst;have h6:=RZ (w:=U.w0) hcall ho h4 h2;unfold Oper.wp;rw[h6 _ a hA.env,Oper.upon_enter];refine Calls.mono h5 λen w' ⟨v,hv,y,g1,g2⟩=>?_;subst hv;obtain⟨n3,n4⟩:=hn x y;have g3:=vZ BB (aP0 n4 g1);rw[OU] at g3;obtain⟨⟨R',t1,t2⟩,t0⟩:=g2;have t3:St U w' ((Lr x y).map (lF BB)) R':=by grind[WZ]
  have t4:=k7 w' _ R' t3;have t6:kX c w' BB (HT L' is++Lr x y):=by
   refine⟨⟨R,?_,λz hz=>?_⟩,s0⟩
   ·rw[sH,IJ];exact t4.rot
   ·rcases dE.1 hz with hz|hz
    ·rcases OY _ _ hz with hz|hz
     ·grind
     ·subst hz;trivial
    grind[W5]
  rw[hd];cases d with
  |none=>exact hnext y _ _ ⟨[],aj,by grind[dse,Act.put],aj⟩
  |some d=>exact hnext y _ _ ⟨[],aj,by simpa[dse] using hA.of g3 (hA.env.put (by grind[qI,vX]) v),aj⟩
end
def D5(l:List Int):List Int:=l.foldl (λa x=>if a.getLast?=some x then a else a++[x]) []
theorem aE2(l:List Int)(x:Int):D5 (l++[x])=if(D5 l).getLast?=some x then D5 l else D5 l++[x]:=by grind[D5]
theorem a29:∀(l:List Int),(D5 l).getLast?=l.getLast?:=by
 intro l;rcases Z8 l with rfl|⟨l,x,rfl⟩
 ·rfl
 grind[aE2]
theorem bC3(l:List Int):(D5 l).length<=l.length:=by
 suffices h:∀(l a:List Int),(l.foldl (λa x=>if a.getLast?=some x then a else a++[x]) a).length<=a.length+l.length by have:=h l [];rw[List.length_nil,aCB] at this;exact this
 intro l;induction l with
 |nil=>simp
 |cons x l ih=>
  grind
def slices_Compact_int(s:List Int):Option (List Int):=some (D5 s)
theorem a0U(l:List Int):Lib.compact l=D5 l:=by
 have h:∀m,m<=l.length->Lib.compactUpTo l.toArray m=D5 (l.take m):=by
  intro m;induction m with
  |zero=>intro _;rfl
  |succ m ih=>
   intro hm;have hm':m<l.length:=hm;rw[Lib.compactUpTo_succ,ih aa,JN hm',aE2,a29];have e1:l.toArray[m]! = l[m]:=by simp[hm']
   have key:(Lib.keeps l.toArray m=true)↔¬(l.take m).getLast?=some l[m]:=by
    cases m with
    |zero=>simp[Lib.keeps]
    |succ k=>
     have e2:l.toArray[k]! = l[k]:=aj
     rw[JN (by omega:k<l.length),List.getLast?_concat];simp only[Lib.keeps,decide_eq_true_eq,e1,Nat.add_sub_cancel,e2];grind
   grind
 have:=h l.length (iT _);rw[List.take_length] at this;exact this
open Go.Sort in
theorem aUJ{b off q:Nat}{d0 d:Array Int}(h0:Holds (Value.int .i64) w b off d0)(hs:d.size=d0.size):eC (eO b off d.size) w (putRow (Value.int .i64) (Sort.ahead w q) b off d):=by
 have hc:∀b' o,b'<w.heap.size->¬eO b off d.size b' o->(putRow (Value.int .i64) (Sort.ahead w q) b off d).cell? ⟨b',o,none⟩=w.cell? ⟨b',o,none⟩:=λb' o _ hn=>by
  rw[cell?_putRow_other _ _ _ _ _ _ (by
   by_cases e:b'=b
   ·right;by_cases h1:o<off
    ·grind
    ·right;by_cases h2:o<off+d.size
     ·exact absurd ⟨e,aa,h2⟩ hn
     grind
   grind)]
  rfl
 refine⟨rfl,rfl,rfl,ae,λb' hb hn=>?_,hc,λb' o _=>ae,λb' o h=>?_⟩
 ·show(w.heap.modify b _)[b']? = _;rw[Array.getElem?_modify];split
  ·rename_i e;subst e;have hz:d.size=0:=by
    rcases Nat.eq_zero_or_pos d.size with h|h
    ·exact h
    ·exact absurd ⟨rfl,iT _,aa⟩ (hn off)
   cases hh:w.heap[b]? with
   |none=>rfl
   |some o=>
    cases o with
    |cells c e fr=>
     simp only[Option.map_some,onCells];have:putCells (Value.int .i64) off d c=c:=by apply Array.ext_getElem?;intro k;simp only[putCells,Array.getElem?_mapIdx,hz];grind
     rw[this]
    |_=>rfl
  ·rfl
 ·by_cases hn:eO b off d.size b' o
  ·obtain⟨rfl,h1,h2⟩:=hn;have:=cell?_putRow (Value.int .i64) (Sort.ahead w q) b' off d0 d h0 hs (o-off) aa;grind
  grind[jH]
open Go.Proofs in
theorem bNJ{ρ:_}(Ly:Lays2.n20 P ρ)(hcall:∀args w,(callFunc (ρ.f 20) args).run P w=.ok (.enter (ρ.f 20) args) w){s:List Int}{s1:AC}:VS P U (ρ.f 20) (slices_Compact_int s) [.h s1 s.length] [] [ow s1 s] (λr (y:AC)=>.h y r.length) (λr y=>[ow y r]):=λr hr=>by
 cases hr;refine⟨hcall,λvs hv hS=>?_⟩;simp[aU,fB,gV,bL] at hv;subst hv;obtain⟨⟨R,h1,h2⟩,h0⟩:=hS;have h1:St U U.w0 [eQ [s1.v s.length] s] R:=by grind[lF]
 obtain⟨F,hF⟩:=h1.chunk 0 rfl;have hF:aM.own U.w0 [s1.v s.length] s F:=hF;obtain⟨a,cp,he,hl1,hl2,hrest⟩:=(show AS U.w0 _ s F from hF);obtain⟨sa,sc⟩:=s1;simp only[AC.v,List.cons.injEq,Value.slice.injEq,and_true,true_and] at he;obtain⟨rfl,rfl⟩:=he;rcases hrest with ⟨rfl,rfl,hno⟩|⟨b,off,Fs,rfl,hrow,hel,hdj,hdr,hFF⟩
 ·have hs:s=[]:=uF aa;subst hs;refine(Any.slices_Compact_int_empty Ly none 0 U.w0).mono ?_;rintro e w' ⟨rfl,rfl⟩;exact⟨_,rfl,⟨none,0⟩,by grind[fB,gV,bL,D5],⟨R,by grind[D5],λx hx=>by simp at hx;subst hx;trivial⟩,h0⟩
 ·have hn:aM.n Int=1:=rfl;have hH:Sort.Holds (Value.int .i64) U.w0 b off s.toArray:=λj hj=>by
   have hj':j<s.length:=aa
   obtain⟨ec,c1,c2⟩:=hel j hj';have c3:ec=[Value.int .i64 s[j]]:=(show _=_/\_ from c2).1;have:=c1 0 (.int .i64 s[j]) (by rw[c3];rfl);rw[hn,Nat.mul_one,U8] at this;refine⟨aj,(hrow (off+j) ⟨rfl,aa,aj⟩).2⟩
  have hlen:(Lib.compact s).length<=s.length:=by grind[a0U,bC3]
  refine(Any.slices_Compact_int Ly b off sc s U.w0 hH (lW hl1 (lW hl2 ai)) hl1).mono ?_;rintro e w' ⟨rfl,q,rfl⟩;rw[a0U] at hlen ⊢;have hsz:(D5 s++List.replicate (s.length-(D5 s).length) 0).toArray.size=s.toArray.size:=ah
  have hsa:s.toArray.size=s.length:=ae
  have hK:=aUJ (q:=q) hH hsz;refine⟨_,rfl,⟨some ⟨b,off,none⟩,sc⟩,by grind[fB,gV,bL],⟨R,?_,by simp[roF]⟩,h0⟩;have:=h1.aEQ (w':=Sort.putRow (Value.int .i64) (Sort.ahead U.w0 q) b off (D5 s++List.replicate (s.length-(D5 s).length) 0).toArray) (ch':=eQ [(⟨some ⟨b,off,none⟩,sc⟩ : AC).v (D5 s).length] (D5 s)) 0 rfl λF2 hF2=>by
   have hF2:aM.own U.w0 [_] s F2:=hF2;obtain⟨a',cp',he',_,_,hrest'⟩:=(show AS U.w0 _ s F2 from hF2);simp only[AC.v,List.cons.injEq,Value.slice.injEq,and_true,true_and] at he';obtain⟨rfl,rfl⟩:=he';rcases hrest' with ⟨h,_⟩|⟨b',off',Fs',h,hrow',hel',hdj',hdr',hFF'⟩
   ·cases h
   ·cases h;have hemp:∀i (hi:i<s.length) b' o,¬Fs' i b' o:=λi hi b' o h=>by obtain⟨ec,_,c2⟩:=hel' i hi;exact(show _/\∀b o,¬Fs' i b o from c2).2 b' o h
    refine⟨eO b off (sc*1),eO b off (D5 s++List.replicate (s.length-(D5 s).length) 0).toArray.size,hK,λb' o h=>(hFF' b' o).2 (.inl ?_),?_,λb' o h=>.inl ((hFF' b' o).2 (.inl h))⟩
    ·obtain⟨h3,h4,h5⟩:=h;exact⟨h3,h4,aj⟩
    ·refine⟨_,sc,rfl,aa,hl2,.inr ⟨b,off,λ_=>F0,rfl,λo ho=>?_,λi hi=>?_,λ_ _ _ _ _ _ _ h _=>h,λ_ _ _ _ h _=>h,λb' o=>by simp[F0,hn]⟩⟩
     ·have:=hrow' o ho;exact⟨hK.stay b o this.1,(hK.wW b o (jH this.1)).trans this.2⟩
     ·refine⟨[.int .i64 (D5 s)[i]],λj v hj=>?_,rfl,λ_ _ h=>h⟩;have hj0:j=0:=aj
      subst hj0;simp at hj;subst hj;rw[hn,Nat.mul_one,U8];have:=Sort.cell?_putRow (Value.int .i64) (Sort.ahead U.w0 q) b off s.toArray (D5 s++List.replicate (s.length-(D5 s).length) 0).toArray hH hsz i aa;grind
  grind[lF]
theorem fkP{iR:aM O}{C:CZ O}{sr:β->SV}{Bs:Bl}{L0:List Ch}{cap:List Value}{p:O->Option β}(hc:∀args w,(callFunc g args).run P w=.ok (.enter g args) w)(hB:∀w1,eC F0 w w1->kX (dQ w1) w1 Bs L0)(hl:aU (fB Bs) xs=some cap)
  (hn:∀{w1 x y},eC F0 w w1->C.sub (Y5 w1) w1 x y->VS P (dQ w1) g (p x) (C.sv x y::xs) Bs L0 (λr (_:Unit)=>sr r) (λ_ _=>[])) (hz:∀q,yQ 0 (sr q)=true:=by exact λ_=>rfl):WQ P (dQ w) C sr g cap p:=
 ⟨hc,λw1 hk x y hy q hq v hv=>by
  have hv':fB Bs (C.sv x y)=some v:=by simpa using vZ (B:=[]) Bs hv
  refine Calls.mono ((hn hk hy q hq).run (v::cap) (by grind[aU]) (hB w1 hk)) λen w' ⟨v',h1,y',h2,h3⟩=>⟨v',h1,?_,?_⟩
  ·grind[aP0]
  ·simpa using aCK (m:=0) h3 rfl⟩
theorem bC4{c:Ctx}{B:Bl}{L:List Ch}{c1:List SV}{b1 b2:Nat×Nat}(hS:kX c w B L)(h1:Ch.ro n1 c1∈L)(h2:Ch.ro n2 [.p n3 0]∈L)(h3:Ch.ro n3 c3∈L)(o1:yQ.okC 0 c1=true)(o3:yQ.okC 0 c3=true)(g1:B[n1]?=some b1)(g2:B[n2]?=some b2) :
  ∃b3:Nat×Nat,∀w1,eC F0 w w1->kX (dQ w1) w1 [b1,b2,b3] [.ro 0 c1,.ro 1 [.p 2 0],.ro 2 c3]:=by
 obtain⟨⟨R,s1,s2⟩,s0⟩:=hS;obtain⟨p1,z1,v1,e1,m1,f1⟩:=s2 _ h1;obtain⟨p2,z2,v2,e2,m2,f2⟩:=s2 _ h2;obtain⟨p3,z3,v3,e3,m3,f3⟩:=s2 _ h3;rw[g1] at e1;cases e1;rw[g2] at e2;cases e2;simp only[aU,bL,e3] at m2;cases m2;have q1:=BT o1 m1;have q3:=BT o3 m3;rw[List.take_zero] at q1 q3;refine⟨(p3,z3),λw1 hkp=>?_⟩;have fct:∀f∈R,f.P (Y5 w1) w1:=λf hf=>by obtain⟨i,hi⟩:=aGC hf;exact bFQ (s1.fact i hi) hkp
 refine⟨⟨[fAt p1 z1 v1,fAt p2 z2 [.pointer (some ⟨p3,z3+0,none⟩)],fAt p3 z3 v3],?_,?_⟩,λ_ _ h=>h⟩
 ·have h4:St (dQ w1) w1 [] [fAt p1 z1 v1,fAt p2 z2 [.pointer (some ⟨p3,z3+0,none⟩)],fAt p3 z3 v3]:=St.enter (by
   grind)
  have more:∀{M:List Chunk} {R:List Fact},St (dQ w1) w1 M R->St (dQ w1) w1 (M++[LN]) R:=λh=>St.more (ch:=LN) h (eC.refl _ _) ⟨F0,λ_ _ h=>h,λ_ _ h=>h.elim⟩;exact more (more (more h4))
 ·intro x hx;simp only[j3,aZQ,or_false] at hx;rcases hx with rfl|rfl|rfl
  ·exact⟨p1,z1,v1,rfl,eV (λx v h=>by simpa using gA (B:=[]) [(p1,z1),(p2,z2),(p3,z3)] h) q1,ae⟩
  ·exact⟨p2,z2,_,rfl,rfl,ae⟩
  ·exact⟨p3,z3,v3,rfl,eV (λx v h=>by simpa using gA (B:=[]) [(p1,z1),(p2,z2),(p3,z3)] h) q3,ae⟩
section
variable {P:Program} {T:TT} {hT:ED P T} {n:Nat} {c:Ctx} {B0:Bl} {N:Act->World->Prop} {X:Nat->Act->World->Prop} {Q:Act->World->Prop} {K K':List Fr} {m m':Nat} {e e':SE} {L L':List Ch} {cf cf1 cf2:uH} {o:Oper} {Lv:List Ch} {d:Nat}
theorem bNK{fo:Option O}{kf:O->Option β}{q:β}{f:FuncId}{sv:O->SV}{c1:List SV}(is:List Nat)(hs:jE T n K cf m e L=.callp o (some d) f xs cf1 cf2 K' m' e' L')(hk:kl (shr [n3] L') is=[.ro n1 c1,.ro n2 [.p n3 0],.ro n3 c3])(ho:((yQ.okC 0 c1 && yQ.okC 0 c3) && okA xs.dropLast)=true)(hx:xs=xs.dropLast++[.f g [n1,n2]])
  (hc:∀{w},HS c w L'->∀{b1 b2 b3:Nat×Nat},(∀w1,eC F0 w w1->kX (dQ w1) w1 [b1,b2,b3] [.ro 0 c1,.ro 1 [.p 2 0],.ro 2 c3])->∀{x},fo=some x->Fn0 P f (dQ w) (xs.dropLast++[.k (.func (.func g) #[] (OF [b1,b2]).toArray)]) sv x) (hF:fo.bind kf=some q)
  (k:∀x,fo=some x->kf x=some q->G (.mk P T hT n c B0 N X Q) K' m' ((d,sv x)::e') L' cf2):G (.mk P T hT n c B0 N X Q) K m e L cf:=by
 refine gQ (g:=.mk P T hT n c B0 N X Q) ?_;rw[hs];intro fo' args ats ho' hd hf ⟨ys,hys,hxs⟩ hdn hE;rw[wS] at ho;cases hfo:fo with
 |none=>grind
 |some x=>
  rw[hfo] at hF;refine hE Unit (λ_=>m') (λ_=>(d,sv x)::e') (λ_=>L') (λ_=>by simpa using sS (L:=L') []) (λB a w next Q' hm hA hS hnext=>?_) (λ_=>k x hfo hF);obtain⟨vs,h1,h2⟩:=aAD hA hys;obtain⟨v,h3,h4⟩:=eD hA hf;simp[fB,aU] at h3;subst h3;rw[<-OX,hxs] at h1;rw[hx] at h1;have split:∀{qs:List SV} {b:SV} {vs:List Value} {B:Bl},aU (fB B) (qs++[b])=some vs->∃us v,aU (fB B) qs=some us/\fB B b=some v/\vs=us++[v]:=by
   intro qs;induction qs with
   |nil=>
    grind[aU]
   |cons a qs ih=>
    intro b vs B h;simp only[D7,aU] at h;grind[aU]
  obtain⟨us,fv,g1,g2,rfl⟩:=split h1;simp only[fB] at g2;split at g2
  ·rename_i cap hcap;cases g2;obtain⟨Bs,b1,b2,b3⟩:=a65 (cs:=[(n1,c1),(n2,[.p n3 0])]) hcap;subst b1;obtain⟨d1,d2,rfl⟩:∃d1 d2,Bs=[d1,d2]:=by
    match Bs,b2 with
    |[d1,d2],_=>simp
   have hmem:∀x∈[Ch.ro n1 c1,.ro n2 [.p n3 0],.ro n3 c3],x∈shr [n3] L':=λx hx=>aKH (is:=is) aj;rw[wS] at ho;obtain⟨q1,y1,y2⟩:=b3 0 n1 c1 rfl;obtain⟨q2,y3,y4⟩:=b3 1 n2 _ rfl;simp at y1 y3;subst y1 y3;obtain⟨d3,hst⟩:=bC4 (n3:=n3) (c1:=c1) (c3:=c3) (aRJ [n3] [] L' hS) (hmem (.ro n1 c1) ae) (hmem (.ro n2 [.p n3 0]) ae) (hmem (.ro n3 c3) ae) ho.1.1 ho.1.2 y2 y4;obtain⟨hcall,hrun⟩:=hc ⟨_,hS⟩ hst hfo;have join:∀{qs:List SV} {us:List Value} {b:SV} {v:Value},aU (fB []) qs=some us->fB [] b=some v->aU (fB []) (qs++[b])=some (us++[v]):=by
    intro qs;induction qs with
    |nil=>grind[aU]
    |cons a qs ih=>
     intro us b v h hb;simp only[aU] at h;split at h
     ·cases h
     ·rename_i u hu;split at h
      ·cases h
      ·rename_i us' hus;cases h;simp[aU,hu,ih hus hb]
   have h5:=hrun (us++[.func (.func g) #[] (OF [d1,d2]).toArray]) (join (aCN ho.2 g1) (by simp[fB,gV,bL,Value.oneCell'])) (aRH w);have h6:=RZ (w:=w) hcall ho' h4 h2;unfold Oper.wp;rw[h6 _ a hA.env,Oper.upon_enter];refine Calls.mono h5 λen w' ⟨v,hv,y,e1,e2⟩=>?_;subst hv;rw[hd];have g3:=vZ (WX (.mk P T hT n c B0 N X Q) cf1++B) e1;exact hnext () _ _ ⟨[],aj,by simpa using hA.of aj (hA.env.put (by grind[qI,vX]) v),by simpa using hS.after (L2:=[]) rfl e2⟩
  ·cases g2
theorem clP{fo:Option O}{kf:O->Option β}{q:β}{f:FuncId}{sv:O->SV}{c1:List SV}(is:List Nat)(hs:jE T n K cf m e L=.callp o (some d) f xs cf1 cf2 K' m' e' L')(hk:kl (shr [n3] L') is=[.ro n1 c1,.ro n2 [.p n3 0],.ro n3 c3])(ho:((yQ.okC 0 c1 && yQ.okC 0 c3) && okA xs.dropLast)=true)(hx:xs=xs.dropLast++[.f g [n1,n2]])
  (hc:∀{w},HS c w L'->∀{b1 b2 b3:Nat×Nat},(∀w1,eC F0 w w1->kX (dQ w1) w1 [b1,b2,b3] [.ro 0 c1,.ro 1 [.p 2 0],.ro 2 c3])->V0 P (dQ w) f fo (xs.dropLast++[.k (.func (.func g) #[] (OF [b1,b2]).toArray)]) sv)
  (k:∀x,W (G (.mk P T hT n c B0 N X Q) K' m' ((d,sv x)::e') L' cf2) q (kf x)):W (G (.mk P T hT n c B0 N X Q) K m e L cf) q (fo.bind kf):=λhF=>
 bNK is hs hk ho hx (λh _ _ _ h2 _ hx=>hc h h2 _ hx) hF λx _ h=>k x h
def noD:uH->Bool
 |.d _ _ _ _ _ _=>false
 |.o _ _ _ _ _ _ _=>false
 |_=>true
theorem shS(ns:List Nat){cf':uH}(hs:RU (jE T n K cf m e L)=some (K',cf',m',e',L'))(hf:noD cf'=true)(k:G (.mk P T hT n c B0 N X Q) K' m' e' (shr ns L') cf'):G (.mk P T hT n c B0 N X Q) K m e L cf:=by
 refine go hs (chg (λ_:Unit=>m') (λ_=>e') (λ_=>shr ns L') (λB a w hm hA hS=>⟨(),[],aj,aj,by simpa using aRJ ns [] L' hS⟩) (λ_=>?_) (λ_=>k));cases cf' with
 |d _ _ _ _ _ _=>cases hf
 |o _ _ _ _ _ _ _=>cases hf
 |_=>trivial
end
abbrev R2:=Raw×Raw
variable{us:List R2}
def prs:List Value->List R2
 |a::b::r=>(⟨a⟩,⟨b⟩)::prs r
 |_=>[]
theorem TO:∀{n:Nat} {cs:List Value},cs.length=n*2->(prs cs).length=n
 |0,cs,h=>by have:cs=[]:=uF aa;rw[this];rfl
 |n + 1,cs,h=>by
  match cs,h with
  |a::b::r,h=>simp only[prs,HD] at *;rw[TO (n:=n) aa]
  |[_],h=>grind
  |[],h=>simp at h
theorem aI8:∀{n:Nat} {cs ds:List Value},cs.length=n*2->prs (cs++ds)=prs cs++prs ds
 |0,cs,ds,h=>by have:cs=[]:=uF aa;rw[this];rfl
 |n + 1,cs,ds,h=>by
  match cs,h with
  |a::b::r,h=>simp only[prs,D7,HD] at *;rw[aI8 (n:=n) aa]
  |[_],h=>grind
  |[],h=>simp at h
theorem a0V{a b:Value}(ha:a.oneCell'=true)(hb:b.oneCell'=true):aM.own w [a,b] ((⟨a⟩,⟨b⟩):R2) F0:=
 ⟨[a],[b],F0,F0,rfl,⟨⟨rfl,ha⟩,λ_ _ h=>h⟩,⟨⟨rfl,hb⟩,λ_ _ h=>h⟩,λ_ _ h=>h.elim,λ_ _=>by simp[F0]⟩
theorem bC5{cs:List Value}{u:R2}(h:aM.own w cs u F):cs=[u.1.v,u.2.v]/\∀b o,¬F b o:=by obtain⟨c1,c2,F1,F2,e,h1,h2,_,hF⟩:=h;refine⟨by rw[e,h1.1.1,h2.1.1];rfl,λb o p=>((hF b o).1 p).elim (h1.2 b o) (h2.2 b o)⟩
section
variable {O:Type} [aM O] (hn:aM.n O=2) {w:World}
include hn
theorem a0W:∀{l:List O} {cs:List Value} {F:cC},cK w cs l F->cK w cs (prs cs) F0
 |[],cs,F,h=>by rw[h.1];exact⟨rfl,λ_ _ h=>h⟩
 |x::r,cs,F,⟨c1,c2,F1,F2,e,h1,h2,hd,hF⟩=>by
  have a:=aM.lL (aM.own_rd h1);have o:=aM.rd_one (aM.own_rd h1);rw[hn] at a
  match c1,a,o with
  |[u,v],_,o=>
   subst e;exact⟨[u,v],c2,F0,F0,rfl,a0V (o u ae) (o v ae),a0W h2,λ_ _ h=>h.elim,λ_ _=>by simp[F0]⟩
theorem aRR{l:List O}{cs:List Value}(h:cK w cs l F):cs.length=l.length*2:=by rw[h.length,hn]
omit hn in
theorem aP1:∀{us:List R2} {cs:List Value} {F:cC},cK w cs us F->us=prs cs/\∀b o,¬F b o
 |[],cs,F,h=>by rw[h.1];exact⟨rfl,h.2⟩
 |u::r,cs,F,⟨c1,c2,F1,F2,e,h1,h2,hd,hF⟩=>by obtain⟨e1,f1⟩:=bC5 h1;obtain⟨e2,f2⟩:=aP1 h2;simp_all[prs]
theorem a7V{s:Value}{l:List O}{cs:List Value}{G Fe:cC}(h:aM.own w [s] us G)(ho:cK w cs l Fe)(hu:us=prs cs)(hd:G.EC Fe):aM.own w [s] l (λb o=>G b o\/Fe b o):=by
 have hcl:=aRR hn ho;have hp:=TO hcl;rw[<-hu] at hp;obtain⟨a,c,e,h1,h2,h3⟩:=mR.1 h;refine mR.2 ⟨a,c,by rw[e,hp],aa,h2,?_⟩;rcases h3 with ⟨rfl,rfl,k⟩|⟨b,off,cc,Ge,rfl,hr,hc,ho',hdj,hFF⟩
 ·have hl:l=[]:=uF aa;subst hl;exact .inl ⟨rfl,rfl,λb o p=>p.elim (k b o) (ho.2 b o)⟩
 ·obtain⟨q1,q2⟩:=aP1 ho';have hcc:cc.length=us.length*2:=ho'.length;have e2:cc=cs:=by
   have hj:∀{n:Nat} {x y:List Value},x.length=n*2->y.length=n*2->prs x=prs y->x=y:=by
    intro n;induction n with
    |zero=>simp
    |succ n ih=>
     intro x y hx hy hxy
     match x,y,hx,hy,hxy with
     |a::b::r,a'::b'::r',hx,hy,hxy=>
      grind[prs]
     |[],_,hx,_,_=>simp at hx
     |[_],_,hx,_,_=>grind
     |_::_::_,[],_,hy,_=>simp at hy
     |_::_::_,[_],_,hy,_=>grind
   grind
  subst e2;have hG:∀b' o,G b' o↔eO b off (c*2) b' o:=λb' o=>by rw[hFF];exact⟨λq=>q.elim id λq=>(q2 b' o q).elim,.inl⟩
  refine .inr ⟨b,off,cc,Fe,rfl,by rw[hn];exact hr,hc,ho,λb' o p q=>hd b' o ((hG b' o).2 aj) p,λb' o=>by rw[hG,hn]⟩
def cIn(cs:List Value)(l:List O):Chunk:=⟨λw F=>cK w cs l F,λh hk hd=>cK.keep hk h hd,λh hf=>cK.lt h hf⟩
end
def bKW{O:Type}(l:List O)(i j:Int):Option (List O):=need (0<=i/\i<=j/\j<=(l.length:Int)) (some (l.take i.toNat++l.drop j.toNat))
def zR2:R2:=(⟨.bool false⟩,⟨.slice none 0 0⟩)
theorem bH1:aM.rd F0 w [.bool false,.slice none 0 0] zR2:=⟨[_],[_],rfl,⟨rfl,rfl⟩,⟨rfl,rfl⟩⟩
theorem bC6{l:List O}{a b:Nat}(hab:a<=b)(hb:b<=l.length):((cR l a (l.drop b)).take (a+(l.length-b))).drop 0=l.take a++l.drop b:=by
 have h1:(l.take a).length=a:=aj
 have h2:(l.drop b).length=l.length-b:=ae
 unfold cR;rw[U5,aB9 (l:=l.drop b) aa,<-oV,show a+(l.length-b)=(l.take a++l.drop b).length by grind];grind
theorem aUK{p:Prop}[Decidable p]{k:Option O}(h:p):need p k=k:=aN h
def a7W(s:List R2)(i j:Int):Option (List R2):=
 need (0<=(i:Int)/\(i:Int)<=(j:Int)/\(j:Int)<=((s.length:Int):Int)/\((s.length:Int):Int)<=(s.length:Int)) ((if i == j then some s else need (0<=(i:Int)/\(i:Int)<=(s.length:Int)) (need (0<=(j:Int)/\(j:Int)<=(s.length:Int)) (need (i.toNat<=j.toNat) (need (0<=(((((cR s i.toNat (s.drop j.toNat)).take (i.toNat+(s.length-j.toNat))).drop 0).length:Int):Int)/\(((((cR s i.toNat (s.drop j.toNat)).take (i.toNat+(s.length-j.toNat))).drop 0).length:Int):Int)<=((s.length:Int):Int)/\((s.length:Int):Int)<=((cR s i.toNat (s.drop j.toNat)).length:Int)) (some (((cR s i.toNat (s.drop j.toNat)).take (i.toNat+(s.length-j.toNat))).drop 0)))))))
theorem bC7{i j:Int}(h:0<=i/\i<=j/\j<=(us.length:Int)):a7W us i j=some (us.take i.toNat++us.drop j.toNat):=by
 unfold a7W;rw[aUK aa];by_cases e:i=j
 ·simp_all
 ·rw[aP aj,aUK aa,aUK aa,aUK aa,bC6 aa aa,aUK];grind[eU]
theorem a7X[aM O](hn:aM.n O=2){s:Value}{l:List O}{ec:List Value}(hl:ec.length=2)(ho:∀v∈ec,v.oneCell'=true)(h:Sep w [sI s l 0,WO (WB s) (VA (aM.n O) 0 s) ec] F) :
  ∃c2,c2.length=(l.drop 1).length*2/\l.length=(l.drop 1).length+1/\∀F,Sep w [sI s l 0,WO (WB s) (VA (aM.n O) 0 s) ec] F->∃G Fe,aM.own w [s] (prs (ec++c2)) G/\cK w c2 (l.drop 1) Fe/\G.EC Fe/\∀b o,F b o↔G b o\/Fe b o:=by
 obtain⟨G1,G2,⟨a,c,b,off,c1,c2,F1,F3,e,h1,h2,hk,rfl,hr,k1,k3,o1,o3,d1,d2,d3,hG1⟩,_,_,_⟩:=h;have hc2:=aRR hn o3;have hdl:(l.drop 1).length=l.length-1:=ae
 have hdl':(l.drop (0+1)).length=l.length-1:=ae
 refine⟨c2,hc2,aa,λF h=>?_⟩;obtain⟨G1',G2',⟨a',c',b',off',c1',c2',F1',F3',e',h1',h2',hk',e3,hr',k1',k3',o1',o3',d1',d2',d3',hG1'⟩,hAt,dG,hF⟩:=h;rw[e] at e';cases e';cases e3;have hcc:c2'=c2:=aAZ k3' k3 (by grind[aRR]);subst hcc;have hAt:(WO (WB s) (VA (aM.n O) 0 s) ec).P w G2':=Sep.one.1 hAt;obtain⟨k2,hz,hH⟩:=hAt;subst e;simp only[WB,VA,Nat.zero_mul,U8,hl] at k2 hz hH;have hF1:∀b o,¬F1' b o:=by have:l.take 0=[]:=rfl;rw[this] at o1';exact o1'.2
 rw[hn] at hr' k3' d3' hG1';have hp:(prs (ec++c2')).length=l.length:=by rw[aI8 (n:=1) aa,D8,TO (n:=1) aa,TO hc2];omega
 have hraw:cK w (ec++c2') (prs (ec++c2')) F0:=by
  match ec,hl,ho with
  |[u,v],_,ho=>exact⟨[u,v],c2',F0,F0,rfl,a0V (ho u ae) (ho v ae),a0W hn o3',λ_ _ h=>h.elim,λ_ _=>by simp[F0]⟩
 refine⟨eO b off (c*2),F3',mR.2 ⟨_,c,by rw[hp],aa,h2',.inr ⟨b,off,ec++c2',F0,rfl,λo p=>?_,?_,hraw,λ_ _ h=>h.elim,λ_ _=>?_⟩⟩,o3',λb o p q=>d3' b o q p,λb' o=>?_⟩
 ·by_cases q:eO b off 2 b o
  ·refine⟨?_,hz o q⟩;obtain⟨_,q1,q2⟩:=q;have:=k2 (o-off) _ (iS aa);simp_all
  ·exact hr' o p aa
 ·grind[TD]
 ·exact⟨.inl,λq=>q.elim id λq=>q.elim⟩
 grind[eO]
theorem aP2{B:Bl}:∀{cs:List SV} {vs:List Value},aU (bL B) cs=some vs->∀v∈vs,v.oneCell'=true
 |[],vs,h,v,hv=>by cases h;simp at hv
 |x::r,vs,h,v,hv=>by
  simp only[aU] at h;split at h
  ·cases h
  ·rename_i y hy;split at h
   ·cases h
   ·rename_i ys hys;cases h;rcases j3.1 hv with rfl|hv
    ·exact aKD hy
    ·exact aP2 hys v hv
section
variable {P:Program} {T:TT} {hT:ED P T} {n:Nat} {c:Ctx} {B0:Bl} {N:Act->World->Prop} {X:Nat->Act->World->Prop} {Q:Act->World->Prop} {K K':List Fr} {m m':Nat} {e e':SE} {L L':List Ch} {cf cf' cf1 cf2:uH} {o:Oper} {Lv:List Ch} {d:Nat}
theorem hzR[aM O](hn:aM.n O=2){s:AC}{l:List O}{nb n0:Nat}{cs:List SV}(h h2 hv:Nat)(hs:RU (jE T n K cf m e L)=some (K',cf',m',e',L'))(hh:L'[h]?=some (.o (sI (s.v l.length) l 0)))(hb:L'[h2]?=some (.box nb cs))(hw:L'[hv]?=some (wOf O nb s n0 0))(hl:cs.length=2)(ha:dJ [h,h2]=true)(hz:([h,h2].all λj=>fO j cf'.wW)=true)
  (k:∀(us:List R2) (c2:List Value),us.length=l.length->us.drop 1=prs c2->l.length=(l.drop 1).length+1->G (.mk P T hT n c B0 N X Q) K' m' e' (HT L' [h,h2]++[ow s us,.o (cIn c2 (l.drop 1))]) cf'):G (.mk P T hT n c B0 N X Q) K m e L cf:=by
 refine go hs (chg (ι:={p:List R2×List Value // p.1.length=l.length/\p.1.drop 1=prs p.2/\l.length=(l.drop 1).length+1}) (λ_=>m') (λ_=>e') (λp=>HT L' [h,h2]++[ow s p.1.1,.o (cIn p.1.2 (l.drop 1))]) (λB a w hm hA hS=>?_) (λ_=>TL _ hz) (λp=>k p.1.1 p.1.2 p.2.1 p.2.2.1 p.2.2.2));obtain⟨⟨R,s1,s2⟩,s0⟩:=hS;have f1:=s1.front [h,h2] ha;rw[OZ (M:=[.o (sI (s.v l.length) l 0),.box nb cs]) (by grind[aU])] at f1;obtain⟨F,S,hsep,_⟩:=f1.sep;obtain⟨Fa,Fb,hab,_⟩:=Sep.append.1 hsep;have hB:=s2 _ (EA hw);simp only[roF] at hB;obtain⟨G1,G2,g1,g2,g3,g4⟩:=hab;have g2:(TF B nb cs).P w G2:=Sep.one.1 g2;obtain⟨b,z,vs,q1,q2,q3⟩:=g2;rw[hB] at q1;cases q1;have hlv:vs.length=2:=by grind[lM]
 have e1:WB (s.v n0)=WB (s.v l.length):=bF3 s _ _;have e2:VA (aM.n O) 0 (s.v n0)=VA (aM.n O) 0 (s.v l.length):=bF4 s _ _ _ _;rw[e1,e2] at q3;obtain⟨c2,z1,z2,z3⟩:=a7X hn hlv (aP2 q2) (F:=Fa) ⟨G1,G2,g1,Sep.one.2 q3,g3,g4⟩;have hpl:(prs (vs++c2)).length=l.length:=by rw[aI8 (n:=1) aa,D8,TO (n:=1) aa,TO z1];omega
 have hpd:(prs (vs++c2)).drop 1=prs c2:=by rw[aI8 (n:=1) aa];exact List.drop_left' (TO (n:=1) aa)
 refine⟨⟨(prs (vs++c2),c2),hpl,hpd,z2⟩,[],aj,aj,⟨⟨R,?_,λx hx=>?_⟩,s0⟩⟩
 ·rw[uD,sH,IJ];have:=s1.shift [h,h2] ha (A':=[eQ [s.v (prs (vs++c2)).length] (prs (vs++c2)),cIn c2 (l.drop 1)]) (λF hF=>by
   rw[OZ (M:=[.o (sI (s.v l.length) l 0),.box nb cs]) (by grind[aU])] at hF;obtain⟨G1,G2,g1,g2,g3,g4⟩:=hF;have g2:(TF B nb cs).P w G2:=Sep.one.1 g2;obtain⟨b',z',vs',q1',q2',q3'⟩:=g2;rw[hB] at q1';cases q1';rw[q2] at q2';cases q2';rw[e1,e2] at q3';obtain⟨G,Fe,a1,a2,a3,a4⟩:=z3 F ⟨G1,G2,g1,Sep.one.2 q3',g3,g4⟩;rw[hpl];exact⟨G,Fe,a1,Sep.one.2 a2,a3,a4⟩)
  exact this
 ·rw[uD];rcases dE.1 hx with hx|hx
  ·rcases OY _ _ hx with hx|hx
   ·grind
   ·subst hx;trivial
  ·simp only[j3,aZQ,or_false] at hx;rcases hx with rfl|rfl<;>trivial
theorem joR[aM O](hn:aM.n O=2){s:AC}{l:List O}{cs:List Value}(i j:Nat)(hi:L[i]?=some (ow s us))(hj:L[j]?=some (.o (cIn cs l)))(hu:us=prs cs)(ha:dJ [i,j]=true)(hz:([i,j].all λj=>fO j cf.wW)=true)(hl:us.length=l.length)
  (k:G (.mk P T hT n c B0 N X Q) K m e (HT L [i,j]++[ow s l]) cf):G (.mk P T hT n c B0 N X Q) K m e L cf:=by
 refine chg (λ_:Unit=>m) (λ_=>e) (λ_=>HT L [i,j]++[ow s l]) (λB a w hm hA hS=>?_) (λ_=>TL _ hz) (λ_=>k);obtain⟨⟨R,s1,s2⟩,s0⟩:=hS;refine⟨(),[],aj,aj,⟨⟨R,?_,λx hx=>?_⟩,s0⟩⟩
 ·rw[uD,sH,IJ];exact s1.shift [i,j] ha (A':=[eQ [s.v l.length] l]) (λF hF=>by
   rw[OZ (M:=[ow s us,.o (cIn cs l)]) (by grind[aU])] at hF;obtain⟨G1,G2,g1,g2,g3,g4⟩:=hF;have g2:cK w cs l G2:=Sep.one.1 g2;have g1:aM.own w [s.v us.length] us G1:=g1;rw[hl] at g1;have:=a7V hn g1 g2 hu g3;exact Sep.one.2 (by
    have e:F=λb o=>G1 b o\/G2 b o:=aj
    rw[e];exact this))
 ·rw[uD];rcases dE.1 hx with hx|hx
  ·rcases OY _ _ hx with hx|hx
   ·grind
   ·subst hx;trivial
  ·simp only[j3,aZQ,or_false] at hx;subst hx;trivial
theorem dlW[aM O](hn:aM.n O=2){f:FuncId}{kf:List O->Option β}{q:β}{s:AC}{l:List O}{c2:List Value}(i j:Nat)
  (hs:cpS (jE T n K cf m e L)=some (o,some d,f,[.h s l.length,.i .i64 0,.i .i64 1],cf1,cf2,K',m',e',L')) (hi:L'[i]?=some (ow s us)) (hj:(HT L' [i]++[ow s us])[j]?=some (.o (cIn c2 (l.drop 1)))) (hz:fO i cf1.wW=true) (ha:dJ [L'.length,j]=true) (hz2:([L'.length,j].all λj=>fO j cf2.wW)=true)
  (hu:us.length=l.length) (hd:us.drop 1=prs c2) (hl:l.length=(l.drop 1).length+1)
  (H:∀{U:Ctx} {us:List R2},VS P U f (a7W us 0 1) [.h s us.length,.i .i64 0,.i .i64 1] [] [ow s us] (λ(r:List R2) (y:AC)=>.h y r.length) (λr y=>[ow y r]))
  (k:∀y:AC,W (G (.mk P T hT n c B0 N X Q) K' m' ((d,.h y (l.drop 1).length)::e') (HT (HT L' [i]++[ow y (us.drop 1)]) [L'.length,j]++[ow y (l.drop 1)]) cf2) q (kf (l.drop 1))):W (G (.mk P T hT n c B0 N X Q) K m e L cf) q ((bKW l 0 1).bind kf):=λhF=>by
 have hlen:(HT L' [i]).length=L'.length:=by simp[HT]
 have hdl:∀{x},bKW l 0 1=some x->x=l.drop 1:=λh=>by obtain⟨_,h⟩:=lX h;grind
 refine cw0 (sv:=λ(r:List O) (y:AC)=>.h y r.length) (Lr:=λ_ y=>[ow y (us.drop 1)]) (M:=[ow s us]) (xs0:=[.h s l.length,.i .i64 0,.i .i64 1]) [i] hs (by simp[aU,hi]) rfl (by grind[JO,dJ]) (λ_ _=>rfl) (λ{U} _ {x} hx=>?_) hF (λx h1 h2 y=>?_)
 ·have hr:a7W us 0 1=some (us.drop 1):=by grind[bC7]
  have h:=H (U:=U) (us:=us) _ hr;rw[hu] at h;refine⟨h.call,λvs hvs hst=>Calls.mono (h.run vs hvs hst) λen w' hE=>?_⟩;grind
 ·obtain rfl:=hdl h1;refine joR hn L'.length j aj ?_ hd ha hz2 (by simp[hu]) (k y h2);have hjl:j<L'.length:=by
   have h3:j<(HT L' [i]++[ow s us]).length:=(AP.1 hj).1;have h4:j≠L'.length:=by intro e;subst e;simp[dJ,fO] at ha
   grind
  grind
end
open Go.Lib Go.Proofs
theorem wX(w:World)(dT sT ty elem:TypeId)(k b o dLen dCap:Nat)(a:Addr)(sLen sCap m:Nat)(cs:List Value)
  (hu:P.underlying dT=some (.slice elem)) (hs:(P.info? elem).map (·.size)=some k) (hm:Nat.min sLen dLen=m) (hn:cs.length=m*k)
  (hsrc:∀j v,cs[j]?=some v->w.cell? (a.add j)=some v) (hc:∀j,j<cs.length->(w.cell? ⟨b,o+j,none⟩).isSome=true) (hf:∀j,j<cs.length->w.frozen? ⟨b,o+j,none⟩=false) (h1:∀v∈cs,v.oneCell'=true) :
  (Builtin.copy_ #[dT,sT] ty #[.slice (some ⟨b,o,none⟩) dLen dCap,.slice (some a) sLen sCap]).run P w=.ok (goInt m) (w.setCells b o cs):=by
 have hl:=run_loadCells_list (P:=P) w a cs hsrc;have hst:=run_storeCells_cells (P:=P) b o cs 0 w aa aa h1;subst hm;cases hq:P.info? elem with
 |none=>grind
 |some i=>
  simp_all[Builtin.copy_,run_underlying,Builtin.lenOf,Builtin.firstCells,sizeOf,typeInfo]
theorem AU(b o0 m:Nat):∀(vs:List Value) (o:Nat) (w:World),o0<=o->o+vs.length<=o0+m->eC (eO b o0 m) w (w.setCells b o vs)
 |[],_,w,_,_=>eC.refl _ _
 |v::r,o,w,h1,h2=>by simp only[HD] at h2;rw[World.setCells];exact(eC.setCell _ w ⟨b,o,none⟩ v ⟨rfl,h1,aj⟩ rfl).trans (AU b o0 m r (o+1) _ aa aa) λ_ _ _ h=>h
theorem aGJ{w1:World}(b:Nat)(hb:w.heap.size<=b){o:Nat}(h:eC F0 w w1):eC F0 w (w1.setCells b o vs):=
 h.trans ((AU b o vs.length vs o w1 (iT _) (iT _)).mono (G:=eO b o vs.length) λ_ _ _ h=>h) (F:=F0) λb' o' hlt hr=>by obtain⟨rfl,_⟩:=hr;omega
theorem EG{b o:Nat}(h:∀j,j<vs.length->(w.cell? ⟨b,o+j,none⟩).isSome=true):aY (w.setCells b o vs) b o vs:=λj v hj=>by grind[World.cell?_setCells_in]
theorem vJ{b o o':Nat}{cs:List Value}(h:aY w b o' cs)(hd:o'+cs.length<=o\/o+vs.length<=o'):aY (w.setCells b o vs) b o' cs:=λj v hj=>by have hl:=(AP.1 hj).1;rw[World.cell?_setCells_out b vs o w ⟨b,o'+j,none⟩ (λ_ _=>aj)];exact h j v hj
theorem R0{b o:Nat}{cs ds:List Value}(h:aY w b o cs)(k:aY w b (o+cs.length) ds):aY w b o (cs++ds):=λj v hj=>by
 by_cases hl:j<cs.length
 ·rw[List.getElem?_append_left hl] at hj;exact h j v hj
 ·rw[aPN aa] at hj;have:=k _ v hj;grind
theorem aXU{b o n:Nat}{cs:List Value}(h:aY w b o cs):aY w b o (cs.take n):=λj v hj=>by
 rw[aB7] at hj;split at hj
 ·exact h j v hj
 ·cases hj
theorem aCQ{b o n o':Nat}(h:Row w b o n)(ho:o<=o'/\o'+vs.length<=o+n):Row (w.setCells b o' vs) b o n:=λq hq=>by obtain⟨_,h2,h3⟩:=hq;refine⟨Go.Proofs.isSome_setCells b vs o' w (λj hj=>(h (o'+j) ⟨rfl,aa,aa⟩).1) q (h q ⟨rfl,h2,h3⟩).1,?_⟩;rw[World.frozen?_setCells];exact(h q ⟨rfl,h2,h3⟩).2
def bNL(w:World)(k n:Nat)(ad:Option Addr)(c:Nat)(ccs:List Value)(e:Ending)(w':World):Prop:=
 ∃b o c',e=.returned (.slice (some ⟨b,o,none⟩) (n+1) c')/\n+1<=c'/\c'<=maxLen/\aY w' b o ccs/\Row w' b o (c'*k) /\
  ((ad=some ⟨b,o,none⟩/\c'=c/\eC (eO b o (c*k)) w w')\/(w.heap.size<=b/\eC F0 w w'))
def bNM(P:Program)(f k:Nat):Prop:=∀(b off n c i vb:Nat) (cs vs:List Value) (w:World),i<n->n+1<=c->c<=9223372036854775807->vb≠b->cs.length=n*k->vs.length=k ->
  aY w b off cs->(∀j,j<c*k->(w.cell? ⟨b,off+j,none⟩).isSome=true)->(∀j,j<c*k->w.frozen? ⟨b,off+j,none⟩=false) ->
  aY w vb 0 vs->(∀v∈cs,v.oneCell'=true)->(∀v∈vs,v.oneCell'=true) ->
  ∀(tA tB:TypeId) (kA kB:Nat),w.shape? vb=some (tA,kA)->w.shape? b=some (tB,kB)->kB≠0->w.frozen? ⟨vb,0,none⟩=false->w.frozen? ⟨vb,kA,none⟩=false ->
  Calls P f #[.slice (some ⟨b,off,none⟩) n c,.int .i64 i,.slice (some ⟨vb,0,none⟩) 1 1] w λe w'=>
   e=.returned (.slice (some ⟨b,off,none⟩) (n+1) c)/\w'=(w.drew.setCells b (off+(i+1)*k) (cs.drop (i*k))).setCells b (off+i*k) vs
def bNN(P:Program)(f k:Nat):Prop:=∀(b off n c vb:Nat) (vs:List Value) (w:World),n+1<=c->c<=9223372036854775807->vs.length=k ->
  (∀j,j<c*k->(w.cell? ⟨b,off+j,none⟩).isSome=true)->(∀j,j<c*k->w.frozen? ⟨b,off+j,none⟩=false)->aY w vb 0 vs->(∀v∈vs,v.oneCell'=true) ->
  Calls P f #[.slice (some ⟨b,off,none⟩) n c,.int .i64 n,.slice (some ⟨vb,0,none⟩) 1 1] w λe w'=>
   e=.returned (.slice (some ⟨b,off,none⟩) (n+1) c)/\w'=w.setCells b (off+n*k) vs
def bNO(P:Program)(f k el:Nat)(z:Value):Prop:=∀(base:Option Addr) (n c vb:Nat) (cs vs:List Value) (w:World),n<=c->c<n+1->n+1<=1073741824->cs.length=n*k->vs.length=k->(base=none->n=0) ->
  (∀a,base=some a->∀j v,cs[j]?=some v->w.cell? (a.add j)=some v)->aY w vb 0 vs->(∀v∈vs,v.oneCell'=true) ->
  Calls P f #[.slice base n c,.int .i64 n,.slice (some ⟨vb,0,none⟩) 1 1] w λe w'=>
   e=.returned (.slice (some ⟨w.heap.size,0,none⟩) (n+1) (grownCap w (n+1) c el)) /\
   w'=w.drew.alloc (.cells ((cs++vs).toArray++Builtin.zeroCells z.cells (grownCap w (n+1) c el-(n+1))) el)
def bNP(P:Program)(f k el:Nat)(z:Value):Prop:=∀(b off n c i vb:Nat) (cs vs:List Value) (w:World),i<n->n<=c->c<n+1->n+1<=1073741824->cs.length=n*k->vs.length=k ->
  aY w b off cs->aY w vb 0 vs->(∀v∈cs,v.oneCell'=true)->(∀v∈vs,v.oneCell'=true) ->
  Calls P f #[.slice (some ⟨b,off,none⟩) n c,.int .i64 i,.slice (some ⟨vb,0,none⟩) 1 1] w λe w'=>
   e=.returned (.slice (some ⟨w.heap.size,0,none⟩) (n+1) (grownCap w (n+1) c el)) /\
   w'=(((w.alloc (.cells ((cs.take (i*k)).toArray++Builtin.zeroCells z.cells (n+1-i)++Builtin.zeroCells z.cells (grownCap w (n+1) c el-(n+1))) el)).drew.setCells w.heap.size (i*k) vs).drew).setCells w.heap.size ((i+1)*k) (cs.drop (i*k))
def bKX(P:Program)(f k:Nat):Prop:=∀(ad:Option Addr) (n c i vb:Nat) (cs vs:List Value) (w:World),i<=n->n<=c->c<=maxLen->n+1<=1073741824->cs.length=n*k->vs.length=k ->
  aY w vb 0 vs->(∀v∈cs,v.oneCell'=true)->(∀v∈vs,v.oneCell'=true)->(∀o,w.frozen? ⟨vb,o,none⟩=false) ->
  ((ad=none/\c=0)\/∃b off,ad=some ⟨b,off,none⟩/\Row w b off (c*k)/\aY w b off cs/\(0<c->vb≠b)) ->
  Calls P f #[.slice ad n c,.int .i64 i,.slice (some ⟨vb,0,none⟩) 1 1] w (bNL w k n ad c (cs.take (i*k)++vs++cs.drop (i*k)))
theorem aUL{b o:Nat}(h:(w.cell? ⟨b,o,none⟩).isSome=true):∃t k,w.shape? b=some (t,k)/\k≠0:=by grind[World.cell?,World.shape?]
theorem a0X{f k el:Nat}{z:Value}(hk:0<k)(hz:z.cells.size=k)(hS:bNM P f k)(hR:bNN P f k)(hE:bNO P f k el z)(hG:bNP P f k el z):bKX P f k:=by
 intro ad n c i vb cs vs w hi hnc hcm hb hcl hvl hvs h1c h1v hfz hrow;have hgc:n+1<=grownCap w (n+1) c el:=grownCap_ge _ _ _ _;have hgm:grownCap w (n+1) c el<=maxLen:=grownCap_le_maxLen w (n+1) c el (by grind[maxLen]);have hnk:(n+1)*k=n*k+k:=aj
 by_cases hin:i=n
 ·subst hin;have e1:cs.take (i*k)=cs:=aj
  have e2:cs.drop (i*k)=[]:=aj
  rw[e1,e2,uD];by_cases hroom:i+1<=c
  ·rcases hrow with ⟨_,h0⟩|⟨b,off,rfl,hr,hc,_⟩
   ·omega
   have hck:(i+1)*k<=c*k:=uG _ hroom;refine(hR b off i c vb vs w hroom hcm hvl (λj hj=>(hr _ ⟨rfl,aa,aa⟩).1) (λj hj=>(hr _ ⟨rfl,aa,aa⟩).2) hvs h1v).mono ?_;rintro e w' ⟨rfl,rfl⟩;refine⟨b,off,c,rfl,hroom,hcm,R0 (vJ hc (.inl aa)) (by rw[hcl];exact EG λj hj=>(hr _ ⟨rfl,aa,aa⟩).1),aCQ hr ⟨aa,aa⟩,.inl ⟨rfl,rfl,AU b off _ vs _ w aa aa⟩⟩
  ·refine(hE ad i c vb cs vs w hnc aa hb hcl hvl (λh=>?_) (λa ha=>?_) hvs h1v).mono ?_
   ·grind
   ·rcases hrow with ⟨h0,_⟩|⟨b,off,h1,hr,hc,_⟩
    ·grind
    ·rw[ha] at h1;cases h1;intro j v hj;rw[Addr.add_lit];exact hc j v hj
   rintro e w' ⟨rfl,rfl⟩;have hsz:((cs++vs).toArray++Builtin.zeroCells z.cells (grownCap w (i+1) c el-(i+1))).size=grownCap w (i+1) c el*k:=by rw[Array.size_append,size_zeroCells,hz,aJ4,D8,hcl,hvl,Nat.sub_mul,hnk];have:(i+1)*k<=grownCap w (i+1) c el*k:=uG _ hgc;omega
   refine⟨w.heap.size,0,_,rfl,hgc,hgm,λj v hj=>?_,λo ho=>⟨?_,World.frozen?_alloc_at (w:=w.drew) _ _ w.heap.size o rfl⟩,.inr ⟨iT _,(eC.drew F0 w).trans (eC.alloc _ _ _) λ_ _ _ h=>h⟩⟩
   ·rw[aCB,World.cell?_alloc_at (w:=w.drew) _ _ w.heap.size j rfl];grind
   ·obtain⟨_,_,h3⟩:=ho;rw[World.cell?_alloc_at (w:=w.drew) _ _ w.heap.size o rfl,Array.getElem?_eq_getElem aa];rfl
 ·have hlt:i<n:=aa
  have hik:(i+1)*k=i*k+k:=aj
  have hink:(i+1)*k<=n*k:=uG _ hlt;have htl:(cs.take (i*k)).length=i*k:=aj
  have hdl:(cs.drop (i*k)).length=n*k-i*k:=aj
  rcases hrow with ⟨_,h0⟩|⟨b,off,rfl,hr,hc,hne⟩
  ·omega
  have hsv:=aUL (w:=w) (b:=vb) (o:=0) (by rw[show(0:Nat)=0+0 from rfl,hvs 0 _ (iS aa)];rfl);obtain⟨tA,kA,hsa,_⟩:=hsv;by_cases hroom:n+1<=c
  ·have hck:(n+1)*k<=c*k:=uG _ hroom;obtain⟨tB,kB,hsb,hkB⟩:=aUL (w:=w) (b:=b) (o:=off) (hr off ⟨rfl,aa,aa⟩).1;refine(hS b off n c i vb cs vs w hlt hroom hcm (hne aa) hcl hvl hc (λj hj=>(hr _ ⟨rfl,aa,aa⟩).1) (λj hj=>(hr _ ⟨rfl,aa,aa⟩).2) hvs h1c h1v tA tB kA kB hsa hsb hkB (hfz _) (hfz _)).mono ?_;rintro e w' ⟨rfl,rfl⟩;have hc':aY w.drew b off cs:=hc;have hr':Row w.drew b off (c*k):=hr;have hr1:=aCQ (o':=off+(i+1)*k) (vs:=cs.drop (i*k)) hr' ⟨aa,aa⟩;refine⟨b,off,c,rfl,hroom,hcm,?_,aCQ hr1 ⟨aa,aa⟩,.inl ⟨rfl,rfl,((eC.drew _ w).trans (AU b off _ _ _ _ aa aa) λ_ _ _ h=>h).trans (AU b off _ vs _ _ aa aa) λ_ _ _ h=>h⟩⟩;refine R0 (R0 ?_ ?_) ?_
   ·grind[vJ,aXU]
   ·rw[htl];exact EG λj hj=>(hr1 _ ⟨rfl,aa,aa⟩).1
   ·rw[D8,htl,hvl,<-hik];exact vJ (EG λj hj=>(hr' _ ⟨rfl,aa,aa⟩).1) (.inr aa)
  ·refine(hG b off n c i vb cs vs w hlt hnc aa hb hcl hvl hc hvs h1c h1v).mono ?_;rintro e w' ⟨rfl,rfl⟩;obtain⟨ROW,hROW⟩:∃ROW:Array Value,ROW=(cs.take (i*k)).toArray++Builtin.zeroCells z.cells (n+1-i)++Builtin.zeroCells z.cells (grownCap w (n+1) c el-(n+1)):=⟨_,rfl⟩;rw[<-hROW];have hsz:ROW.size=grownCap w (n+1) c el*k:=by rw[hROW,Array.size_append,Array.size_append,size_zeroCells,size_zeroCells,hz,aJ4,htl,<-nU,<-nU];grind
   have hgk:(n+1)*k<=grownCap w (n+1) c el*k:=uG _ hgc;have hcN:∀j,(w.alloc (.cells ROW el)).cell? ⟨w.heap.size,j,none⟩=ROW[j]?:=λj=>World.cell?_alloc_at (w:=w) ROW _ w.heap.size j rfl;have hr0:Row (w.alloc (.cells ROW el)).drew w.heap.size 0 (grownCap w (n+1) c el*k):=λo ho=>by obtain⟨_,_,h3⟩:=ho;simp_all
   have hc0:aY (w.alloc (.cells ROW el)).drew w.heap.size 0 (cs.take (i*k)):=λj v hj=>by show(w.alloc (.cells ROW el)).cell? _=_;grind
   have hr1:=aCQ (o':=i*k) (vs:=vs) hr0 ⟨aa,aa⟩;have hr1':Row ((w.alloc (.cells ROW el)).drew.setCells w.heap.size (i*k) vs).drew w.heap.size 0 (grownCap w (n+1) c el*k):=hr1;refine⟨w.heap.size,0,_,rfl,hgc,hgm,?_,aCQ hr1' ⟨aa,aa⟩,.inr ⟨iT _,aGJ _ (iT _) ((aGJ _ (iT _) ((eC.alloc _ _ _).trans (eC.drew _ _) λ_ _ _ h=>h)).trans (eC.drew _ _) λ_ _ _ h=>h)⟩⟩;refine R0 (R0 ?_ ?_) ?_
   ·exact vJ (show aY _ _ _ _ from vJ hc0 (.inl aa)) (.inl aa)
   ·rw[htl,aCB];refine vJ (show aY _ _ _ _ from EG λj hj=>?_) (.inl aa)
    (simp_all;omega)
   ·rw[D8,htl,hvl,<-hik,aCB];exact EG λj hj=>(hr1' _ ⟨rfl,aa,aa⟩).1
def bH2{O:Type}[aM O](s:AC)(x:O):Chunk where
 P w F:=∃b cs,s=⟨some ⟨b,0,none⟩,1⟩/\b<w.heap.size/\(∀o,w.frozen? ⟨b,o,none⟩=false)/\aY w b 0 cs/\(∀w,aM.own w cs x F0)/\∀b' o,F b' o↔b'=b
 keep:=λ⟨b,cs,h1,h2,h3,h4,h5,h6⟩ hk hd=>⟨b,cs,h1,HE h2 hk.size,λo=>(hk.wW b o h2).trans (h3 o),λj v hj=>(hk.cell b _ h2 λhg=>hd b _ ((h6 b _).2 rfl) hg).trans (h4 j v hj),h5,h6⟩
 lt:=λ⟨b,cs,h1,h2,h3,h4,h5,h6⟩ hF=>aj
def cLs{O:Type}[aM O](s:AC)(v:List O):Chunk where
 P w F:=∃x,v=[x]/\(bH2 s x).P w F
 keep:=λ⟨x,h1,h2⟩ hk hd=>⟨x,h1,(bH2 s x).keep h2 hk hd⟩
 lt:=λ⟨x,_,h2⟩ hF=>(bH2 s x).lt h2 hF
def bKY{O:Type}(l:List O)(i:Int)(v:List O):Option (List O):=need (0<=i/\i<=(l.length:Int)/\l.length+v.length<=1073741824) (some (l.take i.toNat++v++l.drop i.toNat))
theorem a7Y[aM O]{cs:List Value}{x:O}(h:aM.own w cs x F0):cK w cs [x] F0:=⟨cs,[],F0,F0,(uD _).symm,h,⟨rfl,λ_ _ h=>h⟩,λ_ _ h=>h.elim,λ_ _=>by simp[F0]⟩
theorem aCR{O:Type}[aM O][Flat O]{w w':World}:∀{l:List O} {cs:List Value} {F:cC},cK w cs l F->cK w' cs l F0
 |[],cs,F,h=>⟨h.1,λ_ _ h=>h⟩
 |x::r,cs,F,⟨c1,c2,F1,F2,e,h1,h2,hd,hF⟩=>⟨c1,c2,F0,F0,e,a5P h1,aCR h2,λ_ _ h=>h.elim,λ_ _=>by simp[F0]⟩
theorem a0Y{O:Type}[aM O]{w:World}:∀{l:List O} {cs:List Value} {F:cC},cK w cs l F->∀v∈cs,v.oneCell'=true
 |[],cs,F,h,v,hv=>by rw[h.1] at hv;cases hv
 |x::r,cs,F,⟨c1,c2,F1,F2,e,h1,h2,hd,hF⟩,v,hv=>by rw[e] at hv;exact(dE.1 hv).elim (aM.rd_one (aM.own_rd h1) v) (a0Y h2 v)
theorem bKZ{f:FuncId}[aM O][Flat O]{k:Nat}(hn:aM.n O=k)(hk:0<k)(hC:bKX P f k)(hcall:∀args w,(callFunc f args).run P w=.ok (.enter f args) w){s v:List O}{i:Int}{s1 s2:AC} :
  VS P U f (bKY s i v) [.h s1 s.length,.i .i64 i,.h s2 v.length] [] [ow s1 s,.o (cLs s2 v)] (λr (y:AC)=>.h y r.length) (λr y=>[ow y r]):=λr hr=>by
 unfold bKY at hr;obtain⟨⟨hi0,hi1,hb⟩,hr⟩:=lX hr;obtain⟨j,rfl⟩:∃j:Nat,i=j:=⟨i.toNat,aa⟩;rw[JM] at hr;cases hr;refine⟨hcall,λvs hv hS=>?_⟩;simp[aU,fB,gV,bL] at hv;subst hv;obtain⟨⟨R,h1,h2⟩,h0⟩:=hS;have h1:St U U.w0 [eQ [s1.v s.length] s,cLs s2 v] R:=by grind[lF]
 obtain⟨F,S,⟨F1,F2,hs1,⟨F3,F4,hs2,_,_,hF34⟩,hdj,_⟩,_⟩:=h1.sep;obtain⟨x,rfl,vb,cv,rfl,hvb,hvf,hvc,hvo,hvF⟩:=hs2;have hs1:aM.own U.w0 [s1.v s.length] s F1:=hs1;obtain⟨a,c,he,hl1,hl2,hrest⟩:=mR.1 hs1;obtain⟨sa,sc⟩:=s1;simp only[AC.v,Value.slice.injEq,true_and] at he;obtain⟨rfl,rfl⟩:=he;have hvl:cv.length=k:=by rw[<-hn];exact aM.lL (aM.own_rd (hvo U.w0))
 have hv1:∀v∈cv,v.oneCell'=true:=aM.rd_one (aM.own_rd (hvo U.w0));obtain⟨cs,hcl,hc1,hrow,hall⟩:∃cs,cs.length=s.length*k/\(∀v∈cs,v.oneCell'=true)/\((sa=none/\sc=0)\/∃b off,sa=some ⟨b,off,none⟩/\Row U.w0 b off (sc*k)/\aY U.w0 b off cs/\(0<sc->vb≠b))/\∀w,cK w cs s F0:=by
  rcases hrest with ⟨rfl,rfl,_⟩|⟨b,off,cc,Fe,rfl,hr,hc,ho,_,hF⟩
  ·have hsn:s=[]:=uF aa;subst hsn;exact⟨[],ae,ae,.inl ⟨rfl,rfl⟩,λ_=>⟨rfl,λ_ _ h=>h⟩⟩
  ·rw[hn] at hr hF;refine⟨cc,by rw[<-hn];exact ho.length,a0Y ho,.inr ⟨b,off,rfl,hr,hc,λh0 e=>?_⟩,λ_=>aCR ho⟩;subst e;have hk:0<sc*k:=Nat.mul_pos h0 hk;exact hdj vb off ((hF vb off).2 (.inl ⟨rfl,iT _,aa⟩)) ((hF34 vb off).2 (.inl ((hvF vb off).2 rfl)))
 refine(hC sa s.length sc j vb cs cv U.w0 aa hl1 hl2 hb hcl hvl hvc hc1 hv1 hvf hrow).mono ?_;rintro e w' ⟨b,o,c',rfl,hlc,hcm,hcc,hrw,hkk⟩;have hlen:(s.take j++[x]++s.drop j).length=s.length+1:=aj
 refine⟨_,rfl,⟨some ⟨b,o,none⟩,c'⟩,by grind[fB,gV,bL],⟨R,?_,by simp[roF]⟩,h0⟩;have hcs:∀w,cK w (cs.take (j*k)++cv++cs.drop (j*k)) (s.take j++[x]++s.drop j) F0:=λw=>by
  have h:=hall w;rw[<-aAC j s] at h;obtain⟨c1,c2,G1,G2,e,k1,k2,_,_⟩:=cK.split h;have hl:c1.length=j*k:=by rw[k1.length,hn,aAA];grind
  rw[e,List.take_left' hl,List.drop_left' hl,oV,oV];exact cK.app (aCR k1) (show cK w (cv++c2) ([x]++s.drop j) F0 from cK.app (a7Y (hvo w)) (aCR k2) (λ_ _ h=>h.elim) λ_ _=>by simp[F0]) (λ_ _ h=>h.elim) λ_ _=>by simp[F0]
 have:=h1.a5T (w':=w') [0,1] rfl (A':=[eQ [(⟨some ⟨b,o,none⟩,c'⟩:AC).v (s.take j++[x]++s.drop j).length] (s.take j++[x]++s.drop j)]) (λF hF=>by
  obtain⟨F1',F2',q1,q2,q3,q4⟩:=hF;have q1:aM.own U.w0 [_] s F1':=q1;have hown:aM.own w' [(⟨some ⟨b,o,none⟩,c'⟩:AC).v (s.take j++[x]++s.drop j).length] (s.take j++[x]++s.drop j) (eO b o (c'*k)):=
   mR.2 ⟨_,c',rfl,aa,hcm,.inr ⟨b,o,_,F0,rfl,aj,hcc,hcs w',λ_ _ h=>h.elim,λb' o'=>by grind[F0]⟩⟩
  rcases hkk with ⟨rfl,rfl,hK⟩|⟨hnew,hK⟩
  ·obtain⟨a',c'',he',_,_,hr'⟩:=mR.1 q1;simp only[AC.v,Value.slice.injEq,true_and] at he';obtain⟨rfl,rfl⟩:=he';rcases hr' with ⟨h,_⟩|⟨b2,o2,cc2,Fe2,h,_,_,_,_,hF2⟩
   ·cases h
   ·cases h;rw[hn] at hF2;exact⟨_,_,hK,λb' o' g=>(q4 b' o').2 (.inl ((hF2 b' o').2 (.inl g))),Sep.one.2 hown,λb' o' g=>.inl ((q4 b' o').2 (.inl ((hF2 b' o').2 (.inl g))))⟩
  ·exact⟨_,F0,hK,λ_ _ h=>h.elim,Sep.one.2 hown,λb' o' g=>.inr (by obtain⟨rfl,_⟩:=g;exact hnew)⟩)
 exact this.sel [2] rfl
section
variable {P:Program} {T:TT} {hT:ED P T} {n:Nat} {c:Ctx} {B0:Bl} {N:Act->World->Prop} {X:Nat->Act->World->Prop} {Q:Act->World->Prop} {K K':List Fr} {m m':Nat} {e e':SE} {L L' Lv:List Ch} {cf cf' cf1 cf2:uH} {o:Oper} {d:Nat}
variable {x:Operand} {t t2 el sz:Nat} {b1 b2 b3:Bool} {n1 n2 n3:Nat} {z1 z2 z3:List SV}
theorem ltL[aM O][Flat O](E:CO O)(y:E.ex)(q:O){zv:Value}(hinf:VB P el sz zv)(hs:jE T n K cf m e L=.op o Lv cf1 cf2 K' m' e' L')(ho:(o.op,o.dst)=(.buildSlice t 1 #[(0,x)],some d))(ht:wU T t=some ⟨.sl el,b1,n1,z1⟩)(hn:aM.n O=sz)(hm:Nat.ble 1 sz=true)(hsm:Nat.ble (1*sz) 16777216=true)(hev:aU (λp=>(iO e' p.2).map λv=>nbL (nW v)) [((0:Nat),x)]=some ([q].map λq=>E.cs q y))(hec:([q].all λq=>Nat.beq (E.cs q y).length sz && (aU (bL []) (E.cs q y)).isSome)=true)(hL:∀q,E.Lx q y=[])
  (k:∀s':AC,G (.mk P T hT n c B0 N X Q) K' m' ((d,.h s' [q].length)::e') (L'++[.o (cLs s' [q])]) cf2):G (.mk P T hT n c B0 N X Q) K m e L cf:=by
 refine aRM (l:=[q]) (λs'=>L'++[.o (cLs s' [q])]) hs (cA Prod.snd ho) (λ_=>sS _) (λB a w hA hS=>?_) k;obtain⟨⟨R,s1,s2⟩,s0⟩:=hS;obtain⟨vs,cells,g1,g2,g3,g4,g5⟩:=lits E y (sz:=sz) hA hL hev hec;obtain⟨v,rfl⟩:∃v,vs=[v]:=by
  match vs,g2 with
  |[v],_=>simp
 obtain⟨ti,hi,hz,hsz,hby⟩:=hinf;obtain⟨h1,h2⟩:=g5.get hn;have hcl:cells.length=sz:=aj
 have hc:=aKB (len:=1) (m:=sz) (vs:=[v]) (ps:=[(0,x)]) (F:=λi=>(if 1*sz=0 then #[] else zv.cells)[i % (if 1*sz=0 then #[] else zv.cells).size]!) rfl rfl g3 g4;have hu:=EE ht hT;have hm0:¬1*sz=0:=by(simp_all;omega)
 have hsm':¬1*sz > 2 ^ 24:=by simp_all
 refine⟨⟨some ⟨w.heap.size,0,none⟩,1⟩,w.alloc (.cells cells.toArray el),λ_ a hA'=>?_,⟨R,?_,λz hz=>?_⟩,s0⟩
 ·have hps:a.eval x=v:=by have:=TC hA' g1;grind
  have ho':=cA Prod.fst ho;simp only at ho';simp only[hm0,bR] at hc;have hm1:¬sz=0:=aa
  have hs1:¬sz > 16777216:=aa
  simp only[Nat.one_mul,hm1,bR] at hc;simp[execOp,ho',Instr.buildSlice,run_underlying hu,sizeOf,typeInfo,zeroValue,hi,hz,hsz,hps,hm1,hs1,AC.v];simp_all[newRow]
 ·have:=s1.more (eC.alloc F0 w (.cells cells.toArray el)) (ch:=cLs ⟨some ⟨w.heap.size,0,none⟩,1⟩ [q]) ⟨λb _=>b=w.heap.size,⟨q,rfl,w.heap.size,cells,rfl,ae,λo=>World.frozen?_alloc_at (w:=w) _ _ w.heap.size o rfl,λj v hj=>?_,λw'=>?_,λ_ _=>Iff.rfl⟩,λb o hb=>U9 hb.symm⟩
  ·grind[lF]
  ·simp_all
  ·have:=h2 0 q rfl;rw[show KL cells sz 0=cells by unfold KL;grind] at this;grind[Flat.own_of]
 ·rcases dE.1 hz with hz|hz
  ·grind
  ·simp at hz;subst hz;trivial
end
end Go.Gv
end
noncomputable section
namespace Go.Gv
variable{s:AC}{c:Ctx}{i z:Nat}{O:Type}{A W' w:World}
def aUM(k:Nat):List Nat->Bool
 |[]=>false
 |a::r=>match Nat.beq k a with
  |true=>true
  |false=>aUM k r
def aE4(is:List Nat):Nat->List Ch->List Ch
 |_,[]=>[]
 |k,x::r=>match aUM k is with
  |true=>.no::aE4 is (k+1) r
  |false=>x::aE4 is (k+1) r
theorem aUN:∀(L:List Ch) (k:Nat),aE4 [] k L=L
 |[],_=>rfl
 |x::L,k=>by simp only[aE4,aUM,aUN L]
theorem a0Z{k:Nat}(r:List Nat)(h:k≠i):aUM k (i::r)=aUM k r:=by grind[oW,aUM]
theorem bC8(i:Nat)(r:List Nat):aUM i (i::r)=true:=by simp only[aUM,Nat.beq_refl]
theorem a00(i:Nat)(r:List Nat):∀(L:List Ch) (k:Nat),i<k->aE4 (i::r) k L=aE4 r k L
 |[],_,_=>rfl
 |x::L,k,h=>by simp only[aE4,a0Z r (show k≠i by omega),a00 i r L (k+1) aa]
theorem aUO(i:Nat)(r:List Nat):∀(L:List Ch) (k:Nat),k<=i->aE4 (i::r) k L=aE4 r k (L.set (i-k) .no)
 |[],_,_=>rfl
 |x::L,k,h=>by
  by_cases e:k=i
  ·subst e;rw[Nat.sub_self];grind[aE4,bC8,a00]
  ·obtain⟨d,hd⟩:∃d,i-k=d+1:=⟨i-k-1,aa⟩;have h2:i-(k+1)=d:=aa
   rw[hd];simp only[List.set,aE4,a0Z r e,aUO i r L (k+1) aa,h2]
theorem a7Z:∀(is:List Nat) (L:List Ch),HT L is=aE4 is 0 L
 |[],L=>(aUN L 0).symm
 |i::r,L=>by rw[aUO i r L 0 (i4 _),Nat.sub_zero];exact a7Z r _
section
variable {P:Program} {T:TT} {hT:ED P T} {n:Nat} {c:Ctx} {B0:Bl} {N:Act->World->Prop} {X:Nat->Act->World->Prop} {Q:Act->World->Prop} {K K':List Fr} {m m':Nat} {e e':SE} {L L' Lv:List Ch} {cf cf' cf1 cf2:uH} {o:Oper}
variable {O β ex:Type} {fo:Option O} {kf:O->Option β} {q:β} {d:Option Nat} {f:FuncId} {xs xs0:List SV} {M:List Ch} {sv:O->ex->SV} {Lr:O->ex->List Ch}
theorem bK0{c1 c2 c3:List SV}{a1 a2 a3:O->ex->List SV}(i1 n1 o1 k1:Nat)(i2 n2 o2 k2:Nat)(i3 n3 o3 k3:Nat)(is:List Nat)
  (hs:cpS (jE T n K cf m e L)=some (o,d,f,xs,cf1,cf2,K',m',e',L')) (hb:aKO L' [(i1,n1,o1,k1),(i2,n2,o2,k2),(i3,n3,o3,k3)]=some [c1,c2,c3]) (hi:aU (λi=>L'[i]?) is=some M) (hx:aU (rnP [(i1,n1,o1,k1),(i2,n2,o2,k2),(i3,n3,o3,k3)] 0) xs=some xs0)
  (hk:(JO M && ([c1,c2,c3].all (yQ.okC 0) && (dJ (i1::i2::i3::is) && (i1::i2::i3::is).all λj=>fO j cf1.wW)))=true)
  (hc:∀{U:Ctx},HG c U L' (i1::i2::i3::is)->∀{b1 b2 b3:Nat×Nat},VS P U f fo xs0 [b1,b2,b3] (.box 0 c1::.box 1 c2::.box 2 c3::M) sv (λx y=>.box 0 (a1 x y)::.box 1 (a2 x y)::.box 2 (a3 x y)::Lr x y))
  (k:∀x,∀y:ex,W (G (.mk P T hT n c B0 N X Q) K' m' (dse d (sv x y) e') (OG L' (aE4 (i1::i2::i3::is) 0 L'++Lr x y) [(i1,n1,o1,k1),(i2,n2,o2,k2),(i3,n3,o3,k3)] [a1 x y,a2 x y,a3 x y]) cf2) q (kf x)) (hn:∀x y,(aCO [(i1,n1,o1,k1),(i2,n2,o2,k2),(i3,n3,o3,k3)] [a1 x y,a2 x y,a3 x y] && ([a1 x y,a2 x y,a3 x y].all (yQ.okC 0) && (JO (Lr x y) && yQ 0 (sv x y))))=true:=by exact λ_ _=>rfl):W (G (.mk P T hT n c B0 N X Q) K m e L cf) q (fo.bind kf):=
 bNG i1 n1 o1 k1 i2 n2 o2 k2 i3 n3 o3 k3 is hs hb hi hx hk hc (λx y=>by grind[a7Z]) hn
end
section
variable {P:Program} {T:TT} {hT:ED P T} {n:Nat} {c:Ctx} {B0:Bl} {N:Act->World->Prop} {X:Nat->Act->World->Prop} {Q:Act->World->Prop} {K K':List Fr} {m m':Nat} {e e':SE} {L L' Lv:List Ch} {cf cf' cf1 cf2:uH} {o:Oper}
variable {O:Type} {fo:Option O} {d:Nat} {f:FuncId} {xs:List SV} {v:O}
theorem HB{sv:O->SV}(hA:fo=some v)(hs:jE T n K cf m e L=.call o (some d) f xs cf1 cf2 K' m' e' L')
  (hc:∀{w},HS c w L'->V0 P (dQ w) f fo xs sv) (k:G (.mk P T hT n c B0 N X Q) K' m' ((d,sv v)::e') L' cf2):G (.mk P T hT n c B0 N X Q) K m e L cf:=
 c0 (kf:=some) (q:=v) hs hc (λx hx=>aj) (rb hA)
theorem M1{ex:Type}{sv:O->ex->SV}{Lf:O->ex->List Ch}(hA:fo=some v)(hs:jE T n K cf m e L=.call o (some d) f xs cf1 cf2 K' m' e' L')
  (hc:∀{w},HS c w L'->VS P (dQ w) f fo xs [] [] sv Lf) (k:∀y:ex,G (.mk P T hT n c B0 N X Q) K' m' ((d,sv v y)::e') (L'++Lf v y) cf2) (hn:∀x y,noF (Lf x y)=true:=by exact λ_ _=>rfl):G (.mk P T hT n c B0 N X Q) K m e L cf:=
 c1 (kf:=some) (q:=v) hs hc (λx y hx=>aj) hn (rb hA)
end
def oL{O:Type}[aM O]:CO (List O):=cL.o (λx y=>[ow y x]) (λh=>by cases h;exact HR) (λ_ _=>rfl) (λ_ _ _=>rfl)
structure AH where
 s:AC
 n:Nat
instance:aM AH:=aM.flat (λx=>x.s.v x.n) λ_=>rfl
instance:Flat AH:=⟨λh=>⟨h,λ_ _ h=>h⟩,λh=>h.2⟩
def cAH:CZ AH:=⟨Unit,λx _=>[.h x.s x.n],λ_ _ _ _=>True,λh=>⟨(),by cases h;rfl,trivial⟩,λx _=>.h x.s x.n,λ_ _ _=>trivial⟩
def oAH:CO AH:=cAH.o (λ_ _=>[]) (λh=>by cases h;exact dZ rfl) (λ_ _=>rfl) (λ_ _ _=>rfl)
def cBr(U:Ctx){O:Type}[aM O](s:AC)(d:List O):Chunk where
 P w F:=(∀b o,F b o->b<w.heap.size)/\∀w',(∀b o,F b o->w'.cell? ⟨b,o,none⟩=w.cell? ⟨b,o,none⟩)->(∀b o,U.S0 b o->w'.cell? ⟨b,o,none⟩=U.w0.cell? ⟨b,o,none⟩)->aM.rd (λb o=>U.S0 b o\/F b o) w' [s.v d.length] d
 keep:=by rintro w w' F G ⟨h1,h2⟩ hk hd;exact⟨λb o hF=>HE (h1 b o hF) hk.size,λw2 g2 g3=>h2 w2 (λb o hF=>(g2 b o hF).trans (hk.cell b o (h1 b o hF) λhg=>hd b o hF hg)) g3⟩
 lt h hF:=h.1 _ _ hF
def AHs(c:Ctx){O:Type}[aM O]:List AH->List (List O)->Prop
 |[],[]=>True
 |q::qs,d::ds=>(q.n=d.length/\bI c q.s d)/\AHs c qs ds
 |_,_=>False
theorem AHs.get[aM O]:∀{qs:List AH} {ds:List (List O)},AHs c qs ds->qs.length=ds.length/\∀(i:Nat) (h1:i<qs.length) (h2:i<ds.length),qs[i].n=ds[i].length/\bI c qs[i].s ds[i]
 |[],[],_=>⟨rfl,λi h=>by simp at h⟩
 |q::qs,d::ds,h=>by
  obtain⟨a,b⟩:=h.2.get;refine⟨by simp[a],λi h1 h2=>?_⟩;cases i with
  |zero=>exact h.1
  |succ i=>grind
theorem bK1{U:Ctx}[aM O]{qs:List AH}{ds:List (List O)}{F:cC}(h:(eQ [s.v qs.length] qs).P w F)(ha:AHs U qs ds):(cBr U s ds).P w F:=by
 refine⟨λ_ _ hF=>(eQ [s.v qs.length] qs).lt h hF,λw' h2 h3=>?_⟩;obtain⟨hl,hg⟩:=ha.get;obtain⟨ad,c,e,g1,g2,g3⟩:=(show qN F w' [s.v qs.length] qs from aM.rd_agree (aM.own_rd h) h2);refine⟨ad,c,aj,hl ▸ g1,g2,?_⟩;rcases g3 with g3|⟨b,off,rfl,g3⟩
 ·grind
 ·refine .inr ⟨b,off,rfl,λi hi=>?_⟩;obtain⟨ec,q1,q2,q3⟩:=g3 i aa;obtain⟨p1,p2⟩:=hg i aa hi;have q3:ec=[(qs[i]' aa).s.v (qs[i]' aa).n]:=q3;refine⟨ec,q1,λo ho=>.inr (q2 o ho),?_⟩;rw[q3,p1];exact aM.rd_mono (aM.rd_agree p2 h3) λ_ _ h=>.inl h
theorem HS.b{L:List Ch}[aM O]{d:List O}(h:HS c w L)(i:Nat)(hi:L[i]?=some (.o (cBr c s d))):bI (dQ w) s d:=by obtain⟨B,hS⟩:=h.ex;obtain⟨⟨R,s1,_⟩,s0⟩:=id hS;obtain⟨F,hF⟩:=s1.chunk i (ch:=cBr c s d) (by rw[AQ,hi];rfl);have:=hF.2 w (λ_ _ _=>rfl) (λb o hb=>s1.keep.cell b o (s0 b o hb) λhw=>s1.apart b o hw hb);exact aM.rd_mono this λb o h=>h.elim (aXJ hS b o) (hF.1 b o)
section
variable {P:Program} {T:TT} {hT:ED P T} {n:Nat} {c:Ctx} {B0:Bl} {N:Act->World->Prop} {X:Nat->Act->World->Prop} {Q:Act->World->Prop} {K K':List Fr} {m m':Nat} {e e':SE} {L L':List Ch} {cf cf' cf1 cf2:uH} {o:Oper}
theorem chI(j:Nat){x y:Chunk}(hs:RU (jE T n K cf m e L)=some (K',cf',m',e',L'))(hj:L'[j]?=some (.o x))(hz:fO j cf'.wW=true)(h:∀w F,x.P w F->y.P w F)
  (k:G (.mk P T hT n c B0 N X Q) K' m' e' (L'.set j (.o y)) cf'):G (.mk P T hT n c B0 N X Q) K m e L cf:=by
 refine go hs (chg (λ_:Unit=>m') (λ_=>e') (λ_=>L'.set j (.o y)) (λB a w hm hA hS=>?_) (λ_=>EF hz) (λ_=>k));obtain⟨⟨R,s1,s2⟩,s0⟩:=hS;refine⟨(),[],aj,aj,⟨⟨R,?_,λz hz=>?_⟩,s0⟩⟩
 ·rw[uD,LD];exact s1.imp (jP.put j (by rw[AQ,hj];rfl) λF hF=>h w F hF)
 ·rw[uD];rcases qW hz with hz|hz
  ·grind
  ·subst hz;trivial
theorem brL[aM O](j:Nat){qs:List AH}{ds:List (List O)}(ha:AHs c qs ds)(hs:RU (jE T n K cf m e L)=some (K',cf',m',e',L'))(hj:L'[j]?=some (ow s qs))(hz:fO j cf'.wW=true)
  (k:G (.mk P T hT n c B0 N X Q) K' m' e' (L'.set j (.o (cBr c s ds))) cf'):G (.mk P T hT n c B0 N X Q) K m e L cf:=chI j hs hj hz (λ_ _ h=>bK1 h ha) k
end
section
variable {P:Program} {T:TT} {hT:ED P T} {n:Nat} {c c':Ctx} {B0:Bl} {N N':Act->World->Prop} {X:Nat->Act->World->Prop} {Q Q':Act->World->Prop} {K K':List Fr} {m m':Nat} {e e':SE} {L L':List Ch} {cf:uH}
theorem aRS(hN:∀a w,N' a w->N a w)(hQ:∀a w,Q' a w->Q a w):∀K:List Fr,(∀a w,NK (.mk P T hT n c' B0 N' X Q') K a w->NK (.mk P T hT n c B0 N X Q) K a w)/\∀i a w,XK (.mk P T hT n c' B0 N' X Q') K i a w->XK (.mk P T hT n c B0 N X Q) K i a w
 |[]=>⟨hN,λ_ _ _ h=>h⟩
 |.s y::K=>by obtain⟨h1,h2⟩:=aRS hN hQ K;exact⟨λa w h=>CW.mono h h1 h2 hQ,h2⟩
 |.k j::K=>by obtain⟨h1,h2⟩:=aRS hN hQ K;refine⟨h1,λi a w h=>?_⟩;simp only[XK,aPP] at h ⊢;grind
theorem lkC{β ρ ex γ:Type}[aM O][aM β]{fn:Func}{rs:List ResultVar}{hr:fn.results=rs.toArray}{sv:ρ->ex->SV}{Lf:ρ->ex->List Ch}{r:ρ}{q:γ}{zz:Option γ}{x:Code}(j:Nat){us:List O}{d:List β}
  (hx:∀S w,(∀b o,c.S0 b o->S b o)->(∀b o,c.S0 b o->w.cell? ⟨b,o,none⟩=c.w0.cell? ⟨b,o,none⟩)->aM.rd S w [s.v us.length] us->aM.rd S w [s.v d.length] d)
  (hs:RU (jE T n K cf m e L)=some (K',.c x,m',e',L')) (hj:L'[j]?=some (ow s us))
  (k:∀{c':Ctx},(∀{O:Type} [aM O] {s:AC} {d:List O},bI c s d->bI c' s d)->bI c' s d->W (G (.mk P T hT n c' B0 (QR P fn hr c' B0 sv Lf r) (λ_ _ _=>False) (QR P fn hr c' B0 sv Lf r)) K' m' e' (L'.set j .no) (.c x)) q zz)
  (hn:∀r y,noF (Lf r y)=true:=by exact λ_ _=>rfl):W (G (.mk P T hT n c B0 (QR P fn hr c B0 sv Lf r) (λ_ _ _=>False) (QR P fn hr c B0 sv Lf r)) K m e L cf) q zz:=λhF=>by
 refine go hs λa w ⟨B,hm,hA,hS⟩=>?_;obtain⟨⟨R,s1,s2⟩,s0⟩:=id hS;obtain⟨F,S,a1,a2,a3,a4,a5,a6⟩:=s1.sep;obtain⟨Fj,Fr,b1,b2,b3,b4⟩:=(Sep.take (c:=eQ [s.v us.length] us) (i:=j) (by rw[AQ,hj];rfl)).1 a1;have hdS:∀b o,F b o->¬c.S0 b o:=λb o hf h0=>(a3 b o hf).elim (λh=>s1.apart b o h h0) λh=>aj
 let c2:Ctx:=⟨w,Fr,λb o=>c.S0 b o\/Fj b o\/S b o⟩
 have hlt:∀b o,c2.S0 b o->b<w.heap.size:=λb o h=>h.elim (λh=>HE (s0 b o h) s1.keep.size) λh=>h.elim (λh=>(eQ [s.v us.length] us).lt b1 h) (a5 b o);have hag:∀b o,c.S0 b o->w.cell? ⟨b,o,none⟩=c.w0.cell? ⟨b,o,none⟩:=λb o h=>s1.keep.cell b o (s0 b o h) λhw=>s1.apart b o hw h;have ap:c2.W.EC c2.S0:=λb o h1 h2=>h2.elim (λh=>hdS b o ((b4 b o).2 (.inr h1)) h) λh=>h.elim (λh=>b3 b o h h1) λh=>a2 b o ((b4 b o).2 (.inr h1)) h;have st2:kX c2 w (B0++B) (L'.set j .no):=by
  refine⟨⟨R,⟨eC.refl _ _,⟨Fr,S,?_,λb o h1 h2=>a2 b o ((b4 b o).2 (.inr h1)) h2,λb o h=>.inl h,λb o h=>.inl (.inr (.inr h)),a5,a6⟩,ap⟩,λz hz=>?_⟩,hlt⟩
  ·rw[LD];exact b2
  ·rcases qW hz with hz|hz
   ·grind
   ·subst hz;trivial
 have rdc:∀{O:Type} [aM O] {s:AC} {d:List O},bI c s d->bI c2 s d:=λh=>aM.rd_mono (aM.rd_agree h hag) λ_ _ h=>.inl h;have rdj:bI c2 s d:=hx _ _ (λ_ _ h=>.inl h) hag (aM.rd_mono (aM.own_rd b1) λ_ _ h=>.inr (.inl h));have out:∀a w,QR P fn hr c2 B0 sv Lf r a w->QR P fn hr c B0 sv Lf r a w:=λa w2 ⟨hd,v,hv,y,h1,h2⟩=>by
  obtain⟨⟨R2,t1,_⟩,_⟩:=h2;obtain⟨F2,S2,e1,e2,e3,e4,e5,e6⟩:=t1.sep;refine⟨hd,v,hv,y,h1,⟨⟨[],⟨s1.keep.trans t1.keep λb o hb h=>?_,⟨F2,F0,e1,λ_ _ _ h=>h,λb o h=>?_,λ_ _ h=>h.elim,λ_ _ h=>h.elim,λf hf=>by cases hf⟩,s1.apart⟩,aKM (hn r y)⟩,s0⟩⟩
  ·grind
  ·rcases e3 b o h with h|h
   ·grind
   ·exact .inr (lW s1.keep.size h)
 obtain⟨m1,m2⟩:=aRS (P:=P) (T:=T) (hT:=hT) (n:=n) (c:=c) (c':=c2) (B0:=B0) (X:=λ_ _ _=>False) out out K';exact CW.mono (k rdc rdj hF a w ⟨B,hm,hA,st2⟩) m1 m2 out
end
theorem bH4[aM O](h1:aM.n O=1){us:List Raw}{d:List O}(hr:WV c.S0 c.w0 us d):∀S w,(∀b o,c.S0 b o->S b o)->(∀b o,c.S0 b o->w.cell? ⟨b,o,none⟩=c.w0.cell? ⟨b,o,none⟩)->aM.rd S w [s.v us.length] us->aM.rd S w [s.v d.length] d:=λS w hS ha h=>by rw[<-hr.1];exact a54 h1 h ⟨hr.1,λi u x hu hx=>aM.rd_mono (aM.rd_agree (hr.2 i u x hu hx) ha) hS⟩
section
variable {P:Program} {T:TT} {hT:ED P T} {n:Nat} {c:Ctx} {B0:Bl} {N:Act->World->Prop} {X:Nat->Act->World->Prop} {Q:Act->World->Prop} {K K':List Fr} {m m':Nat} {e e':SE} {L L' Lv:List Ch} {cf cf1 cf2:uH} {o:Oper} {d:Nat}
variable {x y z:Operand} {t t2 el sz:Nat} {zv:Value} {b1 b2:Bool} {n1 n2:Nat} {z1 z2:List SV} {kt:TK} {k2:IntKind}
theorem qcn(hs:opS (jE T n K cf m e L)=some (o,Lv,cf1,cf2,K',m',e',L'))(ho:(o.op,o.dst)=(.call {callee:=.builtin .cap,args:=#[x],argTypes:=#[t]},some d))(hx:iO e' x=some (.h ⟨none,0⟩ 0))(ht:wU T t=some ⟨.sl el,b1,n1,z1⟩)
  (kk:G (.mk P T hT n c B0 N X Q) K' m' ((d,.i .i64 0)::e') L' cf2):G (.mk P T hT n c B0 N X Q) K m e L cf:=
 pu hs (cA Prod.snd ho) (λB a w hA _=>by
  obtain⟨v,h1,h2⟩:=eD hA hx;cases h1;exact⟨.int .i64 0,rfl,a2X (EE ht hT) (cA Prod.fst ho) h2⟩) kk
theorem qn0(hs:opS (jE T n K cf m e L)=some (o,Lv,cf1,cf2,K',m',e',L'))(ho:(o.op,o.dst)=(.slice t x none (some z) none,some d))(hx:iO e' x=some (.h ⟨none,0⟩ 0))(hz:(iO e' z).bind qY=some (k2,0))(ht:wU T t=some ⟨.sl el,b1,n1,z1⟩)(he:wU T el=some ⟨kt,b2,sz,z2⟩)
  (kk:G (.mk P T hT n c B0 N X Q) K' m' ((d,.h ⟨none,0⟩ 0)::e') L' cf2):G (.mk P T hT n c B0 N X Q) K m e L cf:=
 pu hs (cA Prod.snd ho) (λB a w hA _=>by
  obtain⟨v,h1,h2⟩:=eD hA hx;cases h1;exact⟨.slice none 0 0,rfl,aZY (n:=sz) ⟨_,_,_,rfl⟩ (EE ht hT) (hT.size _ _ he) (cA Prod.fst ho) h2 (wT hA hz)⟩) kk
theorem apZ{i:Int}(hb:1<=i/\i<=1073741824)(hinf:VB P el sz zv)(hs:jE T n K cf m e L=.op o Lv cf1 cf2 K' m' e' L')(ho:(o.op,o.dst)=(.call {callee:=.builtin .append,args:=#[x,y],argTypes:=#[t,t2]},some d))(ht:wU T t=some ⟨.sl el,b1,n1,z1⟩)(ht2:wU T t2=some ⟨.i k2,b2,n2,z2⟩)(hzs:zv.cells.size=sz)(hm:Nat.ble 1 sz=true)(hx:iO e' x=some (.h ⟨none,0⟩ 0))(hy:(iO e' y).bind qY=some (.i64,i))
  (k:∀s':AC,G (.mk P T hT n c B0 N X Q) K' m' ((d,.h s' (List.replicate i.toNat (0:Int)).length)::e') (L'++[.o (a55 (s'.v (List.replicate i.toNat (0:Int)).length) sz)]) cf2):G (.mk P T hT n c B0 N X Q) K m e L cf:=by
 refine aRM (l:=List.replicate i.toNat (0:Int)) (λs'=>L'++[.o (a55 (s'.v (List.replicate i.toNat (0:Int)).length) sz)]) hs (cA Prod.snd ho) (λ_=>sS _) (λB a w hA hS=>?_) k;obtain⟨⟨R,s1,s2⟩,s0⟩:=hS;obtain⟨v,h1,h2⟩:=eD hA hx;cases h1;obtain⟨u,g1,g2⟩:=hT.und _ _ ht2;subst g2;obtain⟨v,w',k1,k2,ad,cp,rfl⟩:=bB8 (e:=vE B e') (o:=o) s1 (EE ht hT) g1 hinf hzs hm hb (cA Prod.fst ho) h2 (wT hA hy);refine⟨⟨ad,cp⟩,w',aj,⟨⟨R,by grind[lF],λz hz=>?_⟩,s0⟩⟩;rcases dE.1 hz with hz|hz
 ·grind
 ·simp at hz;subst hz;trivial
theorem rn0(O:Type)[aM O](j:Nat){kk:Nat}(hn:aM.n O=sz)(hs:jE T n K cf m e L=.op o Lv cf1 cf2 K' m' e' L')(ho:(o.op,o.dst)=(.slice t x none (some z) none,some d))(hx:iO e' x=some (.h s kk))(hz:(iO e' z).bind qY=some (k2,0))(ht:wU T t=some ⟨.sl el,b1,n1,z1⟩)(he:wU T el=some ⟨kt,b2,sz,z2⟩)(hj:L'[j]?=some (.o (a55 (s.v kk) sz)))(hfz:fO j cf1.wW=true)
  (k:∀s':AC,G (.mk P T hT n c B0 N X Q) K' m' ((d,.h s' ([]:List O).length)::e') (L'.set j (ow s' ([]:List O))) cf2):G (.mk P T hT n c B0 N X Q) K m e L cf:=by
 refine aRM (l:=([]:List O)) (λs'=>L'.set j (ow s' ([]:List O))) hs (cA Prod.snd ho) (λ_=>EF hfz) (λB a w hA hS=>?_) k;obtain⟨⟨R,s1,s2⟩,s0⟩:=hS;obtain⟨v,h1,h2⟩:=eD hA hx;cases h1;have k2:=s1.bHE (O:=O) j (by rw[AQ,hj];rfl) hn;refine⟨s.sub sz 0,w,aZY (n:=sz) ⟨_,_,_,rfl⟩ (EE ht hT) (hT.size _ _ he) (cA Prod.fst ho) h2 (wT hA hz),⟨⟨R,?_,λz hz=>?_⟩,s0⟩⟩
 ·rw[LD];exact k2
 ·rcases qW hz with hz|hz
  ·grind
  ·subst hz;trivial
end
theorem ah2[aM O]{q1 q2:AH}{d1 d2:List O}(h1:q1.n=d1.length/\bI c q1.s d1)(h2:q2.n=d2.length/\bI c q2.s d2):AHs c [q1,q2] [d1,d2]:=And.intro h1 (And.intro h2 trivial)
theorem rwX{C:Prop}[aM O](hn:aM.n O=1){d:List O}(h:bI c s d)(k:∀us:List Raw,bI c s us->WV c.S0 c.w0 us d->C):C:=by obtain⟨us,h1,h2⟩:=bHD hn h;refine k us ?_ h2;unfold bI;rw[h2.1];exact h1
theorem bK2{n:Int}(hn:0<=n/\n<=1073741824)(hb:decide (0<bE (n-bE (0-0)))=true):1<=bE (n-bE (0-0))/\bE (n-bE (0-0))<=1073741824:=by grind[P7]
theorem aUP{O:Type}:∀l:List O,frc l=some l
 |[]=>rfl
 |x::l=>by simp only[frc,aUP l]
theorem aRT(x:SV):∀(cs:List SV) (i:Nat),nbL (cs.set i x)=(nbL cs).set i (nb1 x)
 |[],_=>rfl
 |y::cs,0=>rfl
 |y::cs,i+1=>by simp only[List.set_cons_succ,nbL,aRT x cs i]
def aB(l:List Bool):List SV:=[.b (l.getD 0 false),.b (l.getD 1 false),.b (l.getD 2 false),.b (l.getD 3 false),.b (l.getD 4 false),.b (l.getD 5 false),.b (l.getD 6 false),.b (l.getD 7 false),.b (l.getD 8 false),.b (l.getD 9 false),.b (l.getD 10 false),.b (l.getD 11 false),.b (l.getD 12 false),.b (l.getD 13 false),.b (l.getD 14 false),.b (l.getD 15 false),.b (l.getD 16 false),.b (l.getD 17 false),.b (l.getD 18 false),.b (l.getD 19 false),.b (l.getD 20 false),.b (l.getD 21 false),.b (l.getD 22 false),.b (l.getD 23 false)]
theorem aXV{l:List Bool}(h:i<24):(aB l)[i]?=some (.b (l.getD i false)):=by have:(aB l).length=24:=rfl;rcases i with _|_|_|_|_|_|_|_|_|_|_|_|_|_|_|_|_|_|_|_|_|_|_|_|i<;>first|rfl|omega
theorem bH5{l:List Bool}(h:i<24)(hl:i<l.length)(u:Bool):(aB l).set i (.b u)=aB (l.set i u):=by
 refine Z9 λk=>?_;have e:(aB l).length=24:=rfl;by_cases hk:k<24
 ·rw[aXV hk,List.getElem?_set];by_cases q:i=k
  ·grind
  ·rw[aP q,aXV hk];grind
 simp_all[aB]
section
variable {P:Program} {T:TT} {hT:ED P T} {n:Nat} {c:Ctx} {B0:Bl} {N:Act->World->Prop} {X:Nat->Act->World->Prop} {Q:Act->World->Prop} {K K':List Fr} {m m':Nat} {e e':SE} {L L':List Ch} {cf cf1 cf2:uH} {o:Oper} {Lv:List Ch} {d:Nat}
variable {x y:Operand} {t el:TypeId} {k:IntKind} {i:Int} {β:Type} {A:Option β} {kf:Bool->Option β} {q:β} {n1 b0:Nat} {l:List Bool}
theorem elP{B:Bl}{b i:Nat}(hw:B[b0]?=some (b,z)):fB B (.p b0 i)=fB B (.e ⟨some ⟨b,z,none⟩,0⟩ 1 i 0):=by simp[fB,gV,bL,hw,WB,VA]
theorem qia(hu:P.underlying t=some (.array 24 el))(hz:∀w,(sizeOf el).run P w=.ok 1 w)(hs:jE T n K cf m e L=.op o Lv cf1 cf2 K' m' e' L')(ho:(o.op,o.dst)=(.indexAddr t x y,some d))(hx:iO e' x=some (.p b0 0))(hy:(iO e' y).bind qY=some (k,i))(hF:need (0<=i/\i<24) A=some q)
  (kk:0<=i/\i<24->A=some q->∀b z:Nat,G (.mk P T hT n c B0 N X Q) K' m' ((d,.e ⟨some ⟨b,z,none⟩,0⟩ 1 i.toNat 0)::e') (L'++[.w b0 b z]) cf2):G (.mk P T hT n c B0 N X Q) K m e L cf:=by
 have hb:=(lX hF).1;have hd:o.dst=some d:=cA Prod.snd ho;refine gQ (g:=.mk P T hT n c B0 N X Q) ?_;rw[hs];intro hdn _ hE;refine hE (Nat×Nat) (λ_=>m') (λs=>(d,.e ⟨some ⟨s.1,s.2,none⟩,0⟩ 1 i.toNat 0)::e') (λs=>L'++[.w b0 s.1 s.2]) (λ_=>sS _) (λB a w next Q' hm hA hS hnext=>?_) (λs=>kk hb (lX hF).2 s.1 s.2);obtain⟨v,h1,h2⟩:=eD hA hx;have h3:=wT hA hy;simp only[fB,gV,bL] at h1;split at h1
 ·rename_i b z hbz;cases h1;have hw:(WX (.mk P T hT n c B0 N X Q) cf1++B)[b0]?=some (b,z):=hbz;have hrun:eR P o (vE (WX (.mk P T hT n c B0 N X Q) cf1++B) e') w (.pointer (some ⟨b,z+i.toNat,none⟩)) w:=λ_ a' hA'=>by
   have ho':o.op=.indexAddr t x y:=cA Prod.fst ho;have h5:(⟨b,z,none⟩:Addr).add i.toNat=⟨b,z+i.toNat,none⟩:=by grind[Addr.add]
   simp[execOp,ho',Instr.indexAt,hA'.eval h2,hA'.eval h3,asIntOf,run_underlying hu,Instr.sureAddr,hb.1,hb.2,hz,h5]
  unfold Oper.wp;rw[hrun _ a hA.env,Oper.upon_value,hd];obtain⟨⟨R,s1,s2⟩,s0⟩:=hS;refine hnext (b,z) _ _ ⟨[],aj,by simpa using hA.of (by simp[fB,gV,bL,WB,VA]) (hA.env.put (by grind[qI,vX]) _),?_⟩;rw[uD];refine⟨⟨R,by rw[sH];exact aT3 s1,λz hz=>?_⟩,s0⟩;rcases dE.1 hz with hz|hz
  ·grind
  ·simp at hz;subst hz;exact hw
 ·cases h1
theorem qal{tk:TK}{zz:Nat}{z1:List SV}{b:Nat}(p:Nat)(h24:0<=i/\i<24)(hs:opS (jE T n K cf m e L)=some (o,Lv,cf1,cf2,K',m',e',L'))(ho:(o.op,o.dst)=(.load t x,some d))(hx:iO e' x=some (.e ⟨some ⟨b,z,none⟩,0⟩ 1 i.toNat 0))(hp:Lv[p]?=some (.w b0 b z))(hb:HF b0 Lv=some (aB l))(ht:wU T t=some ⟨tk,false,zz,z1⟩)(hF:(idx l i).bind kf=some q)
  (kk:∀u,kf u=some q->G (.mk P T hT n c B0 N X Q) K' m' ((d,.b u)::e') L' cf2):G (.mk P T hT n c B0 N X Q) K m e L cf:=by
 cases hi:idx l i with
 |none=>grind
 |some u=>
  rw[hi] at hF;refine pu hs (cA Prod.snd ho) (λB a w hA hS=>?_) (kk u hF);obtain⟨v,h1,h2⟩:=eD hA hx;have hw:B[b0]?=some (b,z):=by obtain⟨⟨R,_,s2⟩,_⟩:=id hS;exact s2 _ (EA hp)
  refine aTY (a:=.p b0 i.toNat) (r:=.b u) hT hS (cA Prod.fst ho) h2 ((elP hw).trans h1) ?_;simp only[aPS,hb,ht];rw[aXV aa,DN,(AT hi).2.2];rfl
theorem bK3{v:SV}{y:Operand}(h:iO [] y=some v)(e:SE):iO e y=some v:=by cases y<;>first|exact h|grind[iO,D4]
theorem qas{tk:TK}{ag:Bool}{z1:List SV}{u:Bool}{b k0:Nat}(p:Nat)(h24:0<=i/\i<24)(hs:jE T n K cf m e L=.op o Lv cf1 cf2 K' m' e' L')(ho:(o.op,o.dst)=(.store t (.tmp k0) y,none))(hx:D4 e' k0=some (.e ⟨some ⟨b,z,none⟩,0⟩ 1 i.toNat 0))(hy:iO [] y=some (.l u))(hp:L'[p]?=some (.w b0 b z))(hib:RS b0 L'=true)(hb:HF b0 L'=some (aB l))(ht:wU T t=some ⟨tk,ag,1,z1⟩)(hz:noD cf1=true)(hF:(idx l i).bind kf=some q)
  (kk:∀v,kf v=some q->G (.mk P T hT n c B0 N X Q) K' m' e' (sQ b0 (aB (l.set i.toNat u)) L') cf2):G (.mk P T hT n c B0 N X Q) K m e L cf:=by
 cases hi:idx l i with
 |none=>grind
 |some v=>
  rw[hi] at hF;obtain⟨i0,i1,i2⟩:=AT hi;have hlt:i.toNat<l.length:=aa
  have ho':o.op=.store t (.tmp k0) y:=cA Prod.fst ho;have hd:o.dst=none:=cA Prod.snd ho;have hst:TE T t (.p b0 i.toNat) (.l u) L'=some (sQ b0 ((aB l).set i.toNat (.l u)) L'):=by
   have e1:Nat.beq 1 1=true:=rfl;have e2:Nat.ble (i.toNat+1) (aB l).length=true:=by rw[Nat.ble_eq];show i.toNat+1<=24;omega
   have e3:nW (.l u)=[.l u]:=rfl;have e4:isCells (.l u)=true:=rfl;simp only[TE,hib,hb,ht,e3,e4,List.length_singleton,e1,e2,aUP];simp_all[aKF,a6F]
  refine gQ (g:=.mk P T hT n c B0 N X Q) ?_;rw[hs];intro hdn _ hE;refine hE Unit (λ_=>m') (λ_=>e') (λ_=>sQ b0 (aB (l.set i.toNat u)) L') (λ_=>?_) (λB a w next Q' hm hA hS hnext=>?_) (λ_=>kk v hF)
  ·cases cf1 with
   |d _ _ _ _ _ _=>cases hz
   |o _ _ _ _ _ _ _=>cases hz
   |_=>trivial
  ·have hw:(WX (.mk P T hT n c B0 N X Q) cf1++B)[b0]?=some (b,z):=by obtain⟨⟨R,_,s2⟩,_⟩:=id hS;exact s2 _ (EA hp)
   have hA2:gP n (WX (.mk P T hT n c B0 N X Q) cf1++B) ((k0,.p b0 i.toNat)::e') a:=⟨hA.d,hA.size,λk' x' hk=>by
    simp only[D4] at hk;split at hk
    ·rename_i hq;cases hk;have:=oW hq;subst this;obtain⟨v,g1,g2⟩:=hA.get k' _ hx;grind[elP]
    ·exact hA.get k' x' hk⟩
   obtain⟨w',k1,k2⟩:=aPV hT hA2 hS ho' (by simp[iO,D4]) (bK3 hy _) hst;unfold Oper.wp;rw[k1 _ a hA2.env,Oper.upon_skip,hd];refine hnext () _ _ ⟨[],aj,by rw[uD];exact⟨hA.d,hA.size,hA.get⟩,?_⟩;rw[uD];obtain⟨j,cs,g1,g2,g3⟩:=aKI hib;rw[g3] at k2 ⊢;obtain⟨⟨R,s1,s2⟩,s0⟩:=k2;have e0:∀B:Bl,aU (bL B) ((aB l).set i.toNat (.l u))=aU (bL B) (aB (l.set i.toNat u)):=λB=>by rw[<-bH5 aa hlt,<-OW,<-OW (cs:=(aB l).set i.toNat (.b u)),aRT,aRT];rfl
   refine⟨⟨R,?_,λz hz=>?_⟩,s0⟩
   ·rw[LD] at s1 ⊢;refine s1.imp (jP.set j (jP.refl _) λF ⟨b,z,vs,q1,q2,q3⟩=>⟨b,z,vs,q1,(e0 _).symm.trans q2,q3⟩)
   ·obtain⟨k,hk⟩:=aGC hz;by_cases hkj:j=k
    ·subst hkj;rw[List.getElem?_set] at hk;simp only[bW] at hk;split at hk
     ·cases hk;trivial
     ·cases hk
    ·exact s2 z (EA (i:=k) aj)
end
open Go Go.RowKit
structure KX (n z:Nat) (A B:World):Prop where
 size:A.heap.size<=B.heap.size
 HT:∀k,k<n->k≠z->B.heap[k]?=A.heap[k]?
theorem KX.refl(n z:Nat)(A:World):KX n z A A:=⟨iT _,λ_ _ _=>rfl⟩
theorem KX.trans{n:Nat}{B C:World}(h:KX n z A B)(k:KX n z B C):KX n z A C:=⟨lW h.size k.size,λi h1 h2=>(k.HT i h1 h2).trans (h.HT i h1 h2)⟩
theorem KX.put{n l:Nat}{o:Obj}(h:n<=l\/l=z):KX n z A (A.putObj l o):=⟨by simp[World.putObj],λi h1 h2=>World.putObj_heap_other aa⟩
def aRU(W:World):cC:=λb o=>(W.cell? ⟨b,o,none⟩).isSome=true
def Cq(O:Type)[aM O]:Prop:=∀{S:cC} {w:World} {cs:List Value} {d:O},aM.rd S w cs d->aM.rd (λb o=>S b o/\aRU w b o) w cs d
theorem bC9[aM O][Flat O]:Cq O:=λh=>aM.rd_mono (aM.own_rd (Flat.own_of h:aM.own _ _ _ F0)) λ_ _ h=>h.elim
theorem a01[aM O](hq:Cq O):Cq (List O):=λ{S w cs l} h=>by obtain⟨a,c,e,h1,h2,h3⟩:=(h:qN S w cs l);refine⟨a,c,e,h1,h2,h3.imp id ?_⟩;rintro⟨b,off,ha,h⟩;refine⟨b,off,ha,λi hi=>?_⟩;obtain⟨ec,q1,q2,q3⟩:=h i hi;refine⟨ec,q1,λo g=>⟨q2 o g,?_⟩,hq q3⟩;obtain⟨_,g1,g2⟩:=g;have:=q1 (o-(off+i*aM.n O)) ec[o-(off+i*aM.n O)] (iS aa);rw[show off+i*aM.n O+(o-(off+i*aM.n O))=o by omega] at this;simp[aRU,this]
def RdZ(z:Nat)(W:World){O:Type}[aM O](cs:List Value)(d:O):Prop:=aM.rd (λb o=>b≠z/\aRU W b o) W cs d
def CK(z:Nat)(W W':World):Prop:=∀(b:Nat) (t:TypeId) (cells:Array Value) (f:Nat×Nat),b≠z->W.heap[b]?=some (Obj.cells cells t f)->W'.heap[b]?=W.heap[b]?
theorem RdZ.kept{W:World}[aM O]{cs:List Value}{d:O}(h:RdZ z W cs d)(hk:CK z W W'):RdZ z W' cs d:=by
 have key:∀b o,(b≠z/\aRU W b o)->W'.cell? ⟨b,o,none⟩=W.cell? ⟨b,o,none⟩:=λb o ⟨hz,hc⟩=>by
  refine World.cell?_of_block ?_;unfold aRU World.cell? at hc;simp only at hc;split at hc
  ·rename_i cells t f he;exact hk b _ _ _ hz he
  ·cases hc
 exact aM.rd_mono (aM.rd_agree h key) λb o hc=>⟨hc.1,by unfold aRU;rw[key b o hc];exact hc.2⟩
theorem bDB{W:World}[aM O](hq:Cq O){y:AC}{d:List O}(h:kX (dQ W) W' [] [ow y d])(hz:z<W.heap.size):RdZ z W' [y.v d.length] d:=by
 obtain⟨⟨R,s1,_⟩,_⟩:=h;obtain⟨F,S,a1,_,a3,_⟩:=s1.sep;have a1:(eQ [y.v d.length] d).P W' F:=Sep.one.1 a1;refine aM.rd_mono (a01 hq (aM.own_rd a1)) λb o ⟨h1,h2⟩=>⟨λe=>?_,h2⟩;rcases a3 b o h1 with h|h
 ·exact h
 ·have:W.heap.size<=b:=h;omega
theorem aKS{W:World}{L:List Ch}(h:kX (dQ W) W' [] L):Below W.heap.size W W':=by obtain⟨⟨R,s1,_⟩,_⟩:=h;exact⟨s1.keep.os,s1.keep.tape,s1.keep.output,s1.keep.size,λk hk=>s1.keep.block k hk λ_ h=>h⟩
theorem CK.below{W:World}(h:Below W.heap.size W W'):CK z W W':=λb t c f _ hb=>h.block b (aGS.1 hb).1
theorem CK.trans{B C:World}(h:CK z A B)(k:CK z B C):CK z A C:=λb t c f hz hb=>by have h1:=h b t c f hz hb;exact(k b t c f hz (h1.trans hb)).trans h1
def mkD(D:Nat):Deferred:={target:=.collected D,args:=#[]}
def Mks:List Deferred->World->Prop
 |[],_=>True
 |q::ds,W=>∃D,q=mkD D/\W.heap[D]?=some (.deferred (some []))/\(∀E,mkD E∈ds->E<D)/\Mks ds W
theorem Mks.kept{W:World}:∀{ds:List Deferred},Mks ds W->(∀D,mkD D∈ds->W.heap[D]?=some (.deferred (some []))->W'.heap[D]?=W.heap[D]?)->Mks ds W'
 |[],_,_=>trivial
 |q::ds,⟨D,h1,h2,h3,h4⟩,hk=>⟨D,h1,(hk D (by rw[h1];simp) h2).trans h2,h3,h4.kept λE hE=>hk E (lE _ hE)⟩
theorem Mks.at{W:World}:∀{ds:List Deferred},Mks ds W->∀D,mkD D∈ds->W.heap[D]?=some (.deferred (some []))
 |q::ds,⟨D,h1,h2,h3,h4⟩,E,hE=>by
  rcases j3.1 hE with e|e
  ·subst h1;simp only[mkD,Deferred.mk.injEq,Target.collected.injEq] at e;rw[e.1];exact h2
  ·exact h4.at E e
theorem Mks.leave{P:Program}{F:Fence}{n:Nat}{fn:Func}{tmps:Array Value}{R:Ending->World->Prop}:∀{ds:List Deferred} {W:World},Mks ds W->(∀W',(∀b,(∀D,mkD D∈ds->b≠D)->W'.heap[b]?=W.heap[b]?)->W'.heap.size=W.heap.size->(W'.os=W.os/\W'.tape=W.tape/\W'.output=W.output)->LeavesIn F n P fn tmps R [] .returning W')->LeavesInM F n P fn tmps R ds .returning W
 |[],W,_,k=>k W (λ_ _=>rfl) rfl ⟨rfl,rfl,rfl⟩
 |q::ds,W,⟨D,h1,h2,h3,h4⟩,k=>by subst h1;refine⟨ae,.inl ⟨D,_,rfl,run_takeDeferred h2,Mks.leave (h4.kept λE hE _=>World.putObj_heap_other (by have:=h3 E hE;omega)) λW' b2 b3 b4=>?_⟩⟩;refine k W' (λb hb=>(b2 b λE hE=>hb E (lE _ hE)).trans (World.putObj_heap_other (hb D (by simp[mkD])))) (by rw[b3];simp[World.putObj]) b4
section
variable {F:Fence} {n:Nat} {P:Program}
def rfX{O:Type}(B n₀ z:Nat)(I:List O->World->Prop)(xs:List O)(W:World):Exit->Act->World->Prop
 |.normal,_,W'=>KeepsFrom B W W'/\KX n₀ z W W'/\I xs W'
 |_,_,_=>False
theorem a72{g:Operand}{ps:Array Tmp}{assign body:Code}{Q:Exit->Act->World->Prop}{a:Act}{w0:World}{gf n₀:Nat}{lb:Array Value}{encs:O->Array Value}{S:List O->Prop}{R:List O->O->Prop}
  (hro:F.round=none) (h1:1<=n) (hg:a.eval g=.func (.func gf) #[] lb) (hf:F.fn gf) (eg:∀args w,(callFunc gf args).run P w=.ok (.enter gf args) w)
  (hseq:∀(l:Nat) (J:List O->World->Prop) (W:World),Below w0.heap.size w0 W->AbidesFrom W.heap.size J->(∀pre x W1,J pre W1->R pre x->YieldAt F (n-1-1) P l (encs x) W1 λe W'=>e=.returned (.bool true)/\J (pre++[x]) W'/\KX n₀ z W1 W')->J [] W->CallsIn F (n-1) P gf (#[.func (.yield l) #[] #[]]++lb) W λe W'=>(∃v,e=.returned v)/\∃xs,S xs/\J xs W') (hn:n₀<=w.heap.size) (hb0:Below w0.heap.size w0 w) (hps:∀x,(encs x).size=ps.size)
  (I:List O->World->Prop) (hI:OwnFrom w.heap.size I) (h0:I [] w) (A:O->Act)
  (hassign:∀(l:Nat) (x:O) (W:World),assign.wpIn (F.inRound l) (n-1-1) P (Exit.then (λa1 W1=>a1=A x/\W1=W) (λ_ _ _=>False)) {tmps:=(ps.zip (encs x)).foldl (λt (p,v)=>t.setIfInBounds p v) a.tmps,defers:=[]} W)
  (hbody:∀(l:Nat) (pre:List O) (x:O) (W:World),w.heap.size<=W.heap.size->R pre x->I pre W->body.wpIn (F.inRound l) (n-1-1) P (rfX w.heap.size n₀ z I (pre++[x]) W) (A x) W)
  (hdone:∀(D:Nat) (xs:List O) (W:World),w.heap.size<=D->S xs->I xs W->W.heap[D]?=some (.deferred (some []))->Q .normal {a with defers:={target:=.collected D,args:=#[]} :: a.defers} W) :
  (Code.rangeFunc g ps assign body).wpIn F n P Q a w:=by
 refine wpIn_rangeFunc λfn hfn=>?_;rw[hro]
 let B:=w.heap.size
 let rc:LoopState->Option Code->Loop:=λst pe=>{state:=st,pending:=pe,fn,tmps:=a.tmps,params:=ps,assign,body,defers:=B}
 let W1:=(w.alloc (.deferred (some []))).alloc (.loop (rc .ready none))
 have L1:W1.heap[B+1]?=some (.loop (rc .ready none)):=by have:=World.alloc_heap_new (w.alloc (.deferred (some []))) (.loop (rc .ready none));rwa [World.size_alloc] at this
 have K1:W1.heap[B]?=some (.deferred (some [])):=(Below.heap_alloc _ _ _ (by simp[B])).trans (World.alloc_heap_new w _);have b1:Below w0.heap.size w0 W1:=hb0.trans ((((Below.refl _ w).alloc (iT _) _).alloc ae _).mono hb0.size);have io:I [] W1:=hI.alloc _ (hI.alloc _ h0)
 let Bk:Loop->World->Prop:=λr W=>W.heap[B+1]?=some (.loop r)/\W.heap[B]?=some (.deferred (some []))
 have kept:∀{r:Loop} {X Y:World} {row:Option Nat},Bk r X->X.grownBy Y row->(∀j,row=some j->W1.heap.size<=j/\∃o:Obj,X.heap[j]?=some o/\o.isWalk=true)->Bk r Y:=λh hg hr=>by
  have s1:W1.heap.size=B+2:=by simp[W1,B]
  exact⟨(hg.block _ (aGS.1 h.1).1 λe=>by have:=(hr _ e.symm).1;omega).trans h.1,(hg.block _ (aGS.1 h.2).1 λe=>by have:=(hr _ e.symm).1;omega).trans h.2⟩
 have far:∀{X:World} {row:Option Nat},(∀j,row=some j->W1.heap.size<=j/\∃o:Obj,X.heap[j]?=some o/\o.isWalk=true)->∀j,row=some j->B<=j/\∃o:Obj,X.heap[j]?=some o/\o.isCells=false:=λhr j e=>by
  have s1:W1.heap.size=B+2:=by simp[W1,B]
  obtain⟨q,o,h,hw⟩:=hr j e;exact⟨aa,o,h,Obj.not_cells_of_walk hw⟩
 have put:∀{r r':Loop} {X:World},Bk r X->Bk r' (X.putObj (B+1) (.loop r')):=λh=>⟨World.putObj_heap_same (aGS.1 h.1).1,(World.putObj_heap_other aa).trans h.2⟩;have blo:∀{X:World} {o:Obj},KX n₀ z X (X.putObj (B+1) o):=KX.put (.inl aa);refine⟨B+1,[{target:=.collected B,args:=#[]}],W1,{target:=.fn (.func gf) lb,args:=#[.func (.yield (B+1)) #[] #[]]},W1,gf,#[.func (.yield (B+1)) #[] #[]]++lb,W1,run_enterLoop_outer _ _ _ _ _,?_,?_,?_,λ_=>h1,?_⟩
 ·simp only[resolve,hg];simp[go_sem]
 ·intro f' h';simp[Target.leads] at h';subst h';exact hf
 ·simp[invoke,go_sem,eg]
 refine(hseq (B+1) (λpre W=>I pre W/\Bk (rc .ready none) W) W1 b1 (λs X Y row h hg hr=>⟨hI s X Y row h.1 hg (far hr),kept h.2 hg hr⟩) ?_ ⟨io,L1,K1⟩).mono ?_
 ·rintro pre x W ⟨hi,hb⟩ hl;have hsz:B<=W.heap.size:=by have:=(aGS.1 hb.1).1;omega
  refine⟨fn,_,assign,body,run_yield (P:=P) (args:=encs x) hb.1 (hps x),roundIn_of_wpIn hfn (wpIn_mono (hassign _ x W) ?_)⟩;rintro e a1 W2 he;cases e with
  |normal=>
   obtain⟨rfl,rfl⟩:=he;have hb3:Bk (rc .busy none) (W2.putObj (B+1) (.loop (rc .busy none))):=put hb;refine⟨_,run_beginRound hb.1 rfl,wpIn_mono (hbody _ pre x _ (by simp only[World.putObj,Array.size_setIfInBounds];exact hsz) hl (hI.putObj _ hi aa hb.1 rfl)) ?_⟩;rintro e a3 W3 hp;cases e with
   |normal=>
    obtain⟨k3,q3,i3⟩:=hp;have hb4:Bk (rc .busy none) W3:=⟨k3.same _ _ aa hb3.1 rfl,k3.same _ _ (iT _) hb3.2 rfl⟩;exact⟨_,_,run_endRound (P:=P) none hb4.1,⟨rfl,⟨hI.putObj _ i3 aa hb4.1 rfl,put hb4⟩,(blo.trans q3).trans blo⟩⟩
   |_=>exact hp.elim
  |_=>exact he.elim
 ·rintro e W2 ⟨⟨v,rfl⟩,xs,hS,hi,hb⟩;exact⟨none,_,run_endLoop (P:=P) hb.1 (by simp[rc]),hdone B xs _ (iT _) hS (hI.putObj _ hi aa hb.1 rfl) ((World.putObj_heap_other aa).trans hb.2)⟩
end
end Go.Gv
end
noncomputable section
namespace Go.Gv
open Go Go.RowKit
variable{O:Type}
def OwZ(n0 z:Nat)(W:World){O:Type}[aM O](v:Value)(m:List O):Prop:=∃F,aM.own W [v] m F/\∀b o,F b o->n0<=b/\b≠z
theorem OwZ.mono{n0 n1 z:Nat}{W:World}[aM O]{v:Value}{m:List O}(h:OwZ n1 z W v m)(hn:n0<=n1):OwZ n0 z W v m:=by obtain⟨F,a,b⟩:=h;exact⟨F,a,λi o q=>⟨lW hn (b i o q).1,(b i o q).2⟩⟩
section
variable {O:Type} [aM O] [Flat O] {W W':World} {v:Value} {m:List O} {n0 z:Nat}
theorem a03{F:cC}(h:aM.own W [v] m F){b o:Nat}(hb:F b o):aRU W b o:=by
 obtain⟨a,c,e,h1,h2,h3⟩:=(h:AS W [v] m F);rcases h3 with ⟨_,_,h3⟩|⟨b1,off,Fs,rfl,q1,q2,_,_,q5⟩
 ·exact(h3 b o hb).elim
 ·rcases(q5 b o).1 hb with g|⟨i,hi,g⟩
  ·obtain⟨rfl,g2⟩:=g;exact(q1 o ⟨rfl,g2⟩).1
  ·obtain⟨ec,_,p⟩:=q2 i hi;exact(Flat.no p b o g).elim
theorem OwZ.rdZ(h:OwZ n0 z W v m):RdZ z W [v] m:=by obtain⟨F,a,b⟩:=h;exact aM.rd_mono (aM.own_rd a) λi o q=>⟨(b i o q).2,a03 a q⟩
omit [Flat O] in
theorem bDC(b off:Nat):OwZ n0 z W (.slice (some ⟨b,off,none⟩) 0 0) ([]:List O):=
 ⟨F0,⟨_,_,rfl,iT _,i4 _,.inr ⟨b,off,λ_=>F0,rfl,λo h=>by have:=h.2;omega,λi h=>by simp at h,λi j h=>by simp at h,λi h=>by simp at h,λb' o=>⟨λh=>h.elim,λh=>h.elim (λh=>by have:=h.2;omega) λ⟨i,h,_⟩=>by simp at h⟩⟩⟩,λ_ _ h=>h.elim⟩
theorem OwZ.kept(h:OwZ n0 z W v m)(hk:CK z W W'):OwZ n0 z W' v m:=by
 obtain⟨F,a,hF⟩:=h;refine⟨F,?_,hF⟩;have same:∀b o,F b o->W'.heap[b]?=W.heap[b]?:=λb o q=>by
  have hc:=a03 a q;unfold aRU World.cell? at hc;simp only at hc;split at hc
  ·rename_i cells t f he;exact hk b _ _ _ (hF b o q).2 he
  ·cases hc
 obtain⟨a,c,e,h1,h2,h3⟩:=(a:AS W [v] m F);refine⟨a,c,e,h1,h2,h3.imp id ?_⟩;rintro⟨b,off,Fs,ha,q1,q2,q3,q4,q5⟩;refine⟨b,off,Fs,ha,λo g=>?_,λi hi=>?_,q3,q4,q5⟩
 ·have s:=same b o ((q5 b o).2 (.inl g));rw[World.cell?_of_block s,World.frozen?_of_block s];exact q1 o g
 ·obtain⟨ec,g1,g2⟩:=q2 i hi;refine⟨ec,λj x hj=>?_,?_⟩
  ·have hl:=aM.lL (aM.own_rd g2);have hjl:=(AP.1 hj).1;have:=a5E (n:=aM.n O) hi h1 (show j<aM.n O by omega);rw[World.cell?_of_block (same b (off+i*aM.n O+j) ((q5 _ _).2 (.inl ⟨rfl,aa,aa⟩)))];exact g1 j x hj
  ·have e:Fs i=F0:=funext λb=>funext λo=>propext ⟨λh=>(Flat.no g2 b o h).elim,λh=>h.elim⟩;rw[e];exact Flat.own_of (aM.own_rd g2)
omit [Flat O] in
theorem bH6{y:AC}(h:kX (dQ W) W' [] [ow y m])(hz:z<W.heap.size):OwZ W.heap.size z W' (y.v m.length) m:=by
 obtain⟨⟨R,s1,_⟩,_⟩:=h;obtain⟨F,S,a1,_,a3,_⟩:=s1.sep;have a1:(eQ [y.v m.length] m).P W' F:=Sep.one.1 a1;refine⟨F,a1,λb o h1=>?_⟩;rcases a3 b o h1 with h|h
 ·exact h.elim
 ·have:W.heap.size<=b:=h;exact⟨this,aa⟩
omit [Flat O] in
theorem bDD{c:Ctx}{y:AC}(h0:kX c c.w0 [] [])(h:Below c.w0.heap.size c.w0 W')(ho:OwZ c.w0.heap.size z W' (y.v m.length) m):kX c W' [] [ow y m]:=by obtain⟨⟨R,s1,e⟩,s2⟩:=h0;obtain⟨F,a,hF⟩:=ho;have s1:=s1.same (aOF h);obtain⟨F1,S,a1,a2,a3,a4,a5,a6⟩:=s1.sep;refine⟨⟨[],⟨s1.keep,⟨F,F0,Sep.one.2 a,λ_ _ _ h=>h,λb o h=>.inr (hF b o h).1,λ_ _ h=>h.elim,λ_ _ h=>h.elim,ae⟩,s1.apart⟩,λx hx=>by rw[jO.1 hx];trivial⟩,s2⟩
end
theorem yS{c:Ctx}{W:World}[aM O]{s:AC}{l:List O}(h0:kX c c.w0 [] [])(hb:Below c.w0.heap.size c.w0 W)(h:bI c s l):bI (dQ W) s l:=by obtain⟨_,s2⟩:=h0;refine aM.rd_mono (aM.rd_agree h λb o q=>World.cell?_of_block (hb.block b (s2 b o q))) λb o q=>?_;have:=s2 b o q;exact HE this hb.size
theorem bK4{W:World}[aM O]{s:AC}{l:List O}{z:Nat}(h:RdZ z W [s.v l.length] l):bI (dQ W) s l:=aM.rd_mono h λb o q=>by have:=q.2;unfold aRU at this;exact World.block_lt_of_cell? W ⟨b,o,none⟩ (aGF.1 this).choose_spec
end Go.Gv
end
noncomputable section
namespace Go.Gv
variable{v0:Value}{w:World}
abbrev VI(x:Int):Value:=.int .i64 x
structure dK where
 b:List UInt8
 i:Int
 h:Int
 deriving DecidableEq,Inhabited
abbrev a04(d:dK):=(d.b,d.i,d.h)
instance:aM dK:=aM.via a04
instance:Fits dK:=Fits.via a04
structure iB where
 Kind:Int
 Key:Int
 dM:Int
 deriving DecidableEq,Inhabited
abbrev a73(d:iB):=(d.Kind,d.Key,d.dM)
instance:aM iB:=aM.via a73
instance:Fits iB:=Fits.via a73
theorem bH7{S:cC}{cs:List Value}{d:iB}(h:aM.rd S w cs d):cs=[VI d.Kind,VI d.Key,VI d.dM]:=by obtain⟨c0,r0,e0,h0,n0⟩:=h;have q0:c0=[_]:=h0;obtain⟨c1,r1,e1,h1,n1⟩:=n0;have q1:c1=[_]:=h1;have q2:r1=[_]:=n1;exact by rw[e0,e1,q0,q1,q2];rfl
instance:Flat iB:=⟨λh=>Flat.own_of (O:=Int×Int×Int) h,λh=>Flat.no (O:=Int×Int×Int) h⟩
theorem bH8(d:iB):OP [VI d.Kind,VI d.Key,VI d.dM] d []:=(show OP _ (a73 d) _ from(eP (c1:=[VI d.Kind]) (A:=[]) (dZ rfl) (eP (c1:=[VI d.Key]) (A:=[]) (dZ rfl) (dZ rfl) rfl) rfl))
structure Batch where
 Collect:Bool
 bM:List iB
 deriving DecidableEq,Inhabited
abbrev aRV(d:Batch):=(d.Collect,d.bM)
instance:aM Batch:=aM.via aRV
instance:Fits Batch:=Fits.via aRV
theorem aUQ{S:cC}{cs:List Value}{d:Batch}(h:aM.rd S w cs d):∃v0:Value,cs=[.bool d.Collect,v0]/\aM.rd S w [v0] d.bM:=by obtain⟨c0,r0,e0,h0,n0⟩:=h;have q0:c0=[_]:=h0;obtain⟨u1,q1⟩:=kG n0;rw[q1] at n0;exact⟨u1,by rw[e0,q0,q1];rfl,n0⟩
theorem aUR(d:Batch):OP [.bool d.Collect,v0] d [eQ [v0] d.bM]:=(show OP _ (aRV d) _ from(eP (c1:=[.bool d.Collect]) (A:=[]) (dZ rfl) HR rfl))
structure aO where
 List:List Batch
 deriving DecidableEq,Inhabited
abbrev aKT(d:aO):=(d.List)
instance:aM aO:=aM.via aKT
instance:Fits aO:=Fits.via aKT
theorem a3A{S:cC}{cs:List Value}{d:aO}(h:aM.rd S w cs d):∃v0:Value,cs=[v0]/\aM.rd S w [v0] d.List:=by obtain⟨u0,q0⟩:=kG h;rw[q0] at h;exact⟨u0,q0,h⟩
theorem a3B(d:aO):OP [v0] d [eQ [v0] d.List]:=(show OP _ (aKT d) _ from HR)
structure wA where
 eF:List aO
 kH:List Int
 deriving DecidableEq,Inhabited
abbrev aP3(d:wA):=(d.eF,d.kH)
instance:aM wA:=aM.via aP3
instance:Fits wA:=Fits.via aP3
structure Heap where
 Bytes:List Int
 Class:List Int
 deriving DecidableEq,Inhabited
abbrev a74(d:Heap):=(d.Bytes,d.Class)
instance:aM Heap:=aM.via a74
instance:Fits Heap:=Fits.via a74
structure bB where
 aV:List Int
 deriving DecidableEq,Inhabited
abbrev aRW(d:bB):=(d.aV)
instance:aM bB:=aM.via aRW
instance:Fits bB:=Fits.via aRW
theorem a75{S:cC}{cs:List Value}{d:bB}(h:aM.rd S w cs d):∃v0:Value,cs=[v0]/\aM.rd S w [v0] d.aV:=by obtain⟨u0,q0⟩:=kG h;rw[q0] at h;exact⟨u0,q0,h⟩
theorem EH(d:bB):OP [v0] d [eQ [v0] d.aV]:=(show OP _ (aRW d) _ from HR)
structure aD where
 Global:List bB
 Own:List bB
 deriving DecidableEq,Inhabited
abbrev a05(d:aD):=(d.Global,d.Own)
instance:aM aD:=aM.via a05
instance:Fits aD:=Fits.via a05
structure Mem where
 Heap:Heap
 aD:aD
 deriving DecidableEq,Inhabited
abbrev bF5(d:Mem):=(d.Heap,d.aD)
instance:aM Mem:=aM.via bF5
instance:Fits Mem:=Fits.via bF5
structure wB where
 On:Bool
 aK:Int
 gL:Bool
 Seen:Int
 deriving DecidableEq,Inhabited
abbrev a76(d:wB):=(d.On,d.aK,d.gL,d.Seen)
instance:aM wB:=aM.via a76
instance:Fits wB:=Fits.via a76
theorem bH9{S:cC}{cs:List Value}{d:wB}(h:aM.rd S w cs d):cs=[.bool d.On,VI d.aK,.bool d.gL,VI d.Seen]:=by obtain⟨c0,r0,e0,h0,n0⟩:=h;have q0:c0=[_]:=h0;obtain⟨c1,r1,e1,h1,n1⟩:=n0;have q1:c1=[_]:=h1;obtain⟨c2,r2,e2,h2,n2⟩:=n1;have q2:c2=[_]:=h2;have q3:r2=[_]:=n2;exact by rw[e0,e1,e2,q0,q1,q2,q3];rfl
theorem a77{S:cC}(d:wB):aM.rd S w [.bool d.On,VI d.aK,.bool d.gL,VI d.Seen] d:=⟨[.bool d.On],[VI d.aK,.bool d.gL,VI d.Seen],rfl,rfl,⟨[VI d.aK],[.bool d.gL,VI d.Seen],rfl,rfl,⟨[.bool d.gL],[VI d.Seen],rfl,rfl,rfl⟩⟩⟩
instance:Flat wB:=⟨λh=>Flat.own_of (O:=Bool×Int×Bool×Int) h,λh=>Flat.no (O:=Bool×Int×Bool×Int) h⟩
theorem bIA(d:wB):OP [.bool d.On,VI d.aK,.bool d.gL,VI d.Seen] d []:=(show OP _ (a76 d) _ from(eP (c1:=[.bool d.On]) (A:=[]) (dZ rfl) (eP (c1:=[VI d.aK]) (A:=[]) (dZ rfl) (eP (c1:=[.bool d.gL]) (A:=[]) (dZ rfl) (dZ rfl) rfl) rfl) rfl))
structure aC where
 aK:Int
 cE:List wB
 deriving DecidableEq,Inhabited
abbrev a06(d:aC):=(d.aK,d.cE)
instance:aM aC:=aM.via a06
instance:Fits aC:=Fits.via a06
structure eN where
 Handle:Int
 aK:Int
 deriving DecidableEq,Inhabited
abbrev aXW(d:eN):=(d.Handle,d.aK)
instance:aM eN:=aM.via aXW
instance:Fits eN:=Fits.via aXW
theorem bDE{S:cC}{cs:List Value}{d:eN}(h:aM.rd S w cs d):cs=[VI d.Handle,VI d.aK]:=by obtain⟨c0,r0,e0,h0,n0⟩:=h;have q0:c0=[_]:=h0;have q1:r0=[_]:=n0;exact by rw[e0,q0,q1];rfl
theorem bDF{S:cC}(d:eN):aM.rd S w [VI d.Handle,VI d.aK] d:=⟨[VI d.Handle],[VI d.aK],rfl,rfl,rfl⟩
instance:Flat eN:=⟨λh=>Flat.own_of (O:=Int×Int) h,λh=>Flat.no (O:=Int×Int) h⟩
theorem bDG(d:eN):OP [VI d.Handle,VI d.aK] d []:=(show OP _ (aXW d) _ from(eP (c1:=[VI d.Handle]) (A:=[]) (dZ rfl) (dZ rfl) rfl))
structure bT where
 Rows:List eN
 deriving DecidableEq,Inhabited
abbrev aRX(d:bT):=(d.Rows)
instance:aM bT:=aM.via aRX
instance:Fits bT:=Fits.via aRX
theorem a78{S:cC}{cs:List Value}{d:bT}(h:aM.rd S w cs d):∃v0:Value,cs=[v0]/\aM.rd S w [v0] d.Rows:=by obtain⟨u0,q0⟩:=kG h;rw[q0] at h;exact⟨u0,q0,h⟩
theorem aKU(d:bT):OP [v0] d [eQ [v0] d.Rows]:=(show OP _ (aRX d) _ from HR)
structure aA where
 Mem:Mem
 aC:aC
 aQ:List bT
 qJ:List Int
 deriving DecidableEq,Inhabited
abbrev a79(d:aA):=(d.Mem,d.aC,d.aQ,d.qJ)
instance:aM aA:=aM.via a79
instance:Fits aA:=Fits.via a79
structure bX where
 Head:Int
 eJ:Int
 eI:Int
 deriving DecidableEq,Inhabited
abbrev a8A(d:bX):=(d.Head,d.eJ,d.eI)
instance:aM bX:=aM.via a8A
instance:Fits bX:=Fits.via a8A
theorem bIB{S:cC}{cs:List Value}{d:bX}(h:aM.rd S w cs d):cs=[VI d.Head,VI d.eJ,VI d.eI]:=by obtain⟨c0,r0,e0,h0,n0⟩:=h;have q0:c0=[_]:=h0;obtain⟨c1,r1,e1,h1,n1⟩:=n0;have q1:c1=[_]:=h1;have q2:r1=[_]:=n1;exact by rw[e0,e1,q0,q1,q2];rfl
theorem a8B{S:cC}(d:bX):aM.rd S w [VI d.Head,VI d.eJ,VI d.eI] d:=⟨[VI d.Head],[VI d.eJ,VI d.eI],rfl,rfl,⟨[VI d.eJ],[VI d.eI],rfl,rfl,rfl⟩⟩
instance:Flat bX:=⟨λh=>Flat.own_of (O:=Int×Int×Int) h,λh=>Flat.no (O:=Int×Int×Int) h⟩
theorem bIC(d:bX):OP [VI d.Head,VI d.eJ,VI d.eI] d []:=(show OP _ (a8A d) _ from(eP (c1:=[VI d.Head]) (A:=[]) (dZ rfl) (eP (c1:=[VI d.eJ]) (A:=[]) (dZ rfl) (dZ rfl) rfl) rfl))
structure gN where
 Key:Int
 dM:Int
 Next:Int
 deriving DecidableEq,Inhabited
abbrev a07(d:gN):=(d.Key,d.dM,d.Next)
instance:aM gN:=aM.via a07
instance:Fits gN:=Fits.via a07
theorem a8C{S:cC}{cs:List Value}{d:gN}(h:aM.rd S w cs d):cs=[VI d.Key,VI d.dM,VI d.Next]:=by obtain⟨c0,r0,e0,h0,n0⟩:=h;have q0:c0=[_]:=h0;obtain⟨c1,r1,e1,h1,n1⟩:=n0;have q1:c1=[_]:=h1;have q2:r1=[_]:=n1;exact by rw[e0,e1,q0,q1,q2];rfl
theorem a8D{S:cC}(d:gN):aM.rd S w [VI d.Key,VI d.dM,VI d.Next] d:=⟨[VI d.Key],[VI d.dM,VI d.Next],rfl,rfl,⟨[VI d.dM],[VI d.Next],rfl,rfl,rfl⟩⟩
instance:Flat gN:=⟨λh=>Flat.own_of (O:=Int×Int×Int) h,λh=>Flat.no (O:=Int×Int×Int) h⟩
structure Sub where
 Kind:Int
 A:Int
 Pc:Int
 E:Int
 Row:Int
 B:Int
 H:Int
 Out:Int
 Code:Int
 gU:Bool
 deriving DecidableEq,Inhabited
abbrev bF6(d:Sub):=(d.Kind,d.A,d.Pc,d.E,d.Row,d.B,d.H,d.Out,d.Code,d.gU)
instance:aM Sub:=aM.via bF6
instance:Fits Sub:=Fits.via bF6
theorem bID{S:cC}{cs:List Value}{d:Sub}(h:aM.rd S w cs d):cs=[VI d.Kind,VI d.A,VI d.Pc,VI d.E,VI d.Row,VI d.B,VI d.H,VI d.Out,VI d.Code,.bool d.gU]:=by obtain⟨c0,r0,e0,h0,n0⟩:=h;have q0:c0=[_]:=h0;obtain⟨c1,r1,e1,h1,n1⟩:=n0;have q1:c1=[_]:=h1;obtain⟨c2,r2,e2,h2,n2⟩:=n1;have q2:c2=[_]:=h2;obtain⟨c3,r3,e3,h3,n3⟩:=n2;have q3:c3=[_]:=h3;obtain⟨c4,r4,e4,h4,n4⟩:=n3;have q4:c4=[_]:=h4;obtain⟨c5,r5,e5,h5,n5⟩:=n4;have q5:c5=[_]:=h5;obtain⟨c6,r6,e6,h6,n6⟩:=n5;have q6:c6=[_]:=h6;obtain⟨c7,r7,e7,h7,n7⟩:=n6;have q7:c7=[_]:=h7;obtain⟨c8,r8,e8,h8,n8⟩:=n7;have q8:c8=[_]:=h8;have q9:r8=[_]:=n8;exact by rw[e0,e1,e2,e3,e4,e5,e6,e7,e8,q0,q1,q2,q3,q4,q5,q6,q7,q8,q9];rfl
theorem bIE{S:cC}(d:Sub):aM.rd S w [VI d.Kind,VI d.A,VI d.Pc,VI d.E,VI d.Row,VI d.B,VI d.H,VI d.Out,VI d.Code,.bool d.gU] d:=⟨[VI d.Kind],[VI d.A,VI d.Pc,VI d.E,VI d.Row,VI d.B,VI d.H,VI d.Out,VI d.Code,.bool d.gU],rfl,rfl,⟨[VI d.A],[VI d.Pc,VI d.E,VI d.Row,VI d.B,VI d.H,VI d.Out,VI d.Code,.bool d.gU],rfl,rfl,⟨[VI d.Pc],[VI d.E,VI d.Row,VI d.B,VI d.H,VI d.Out,VI d.Code,.bool d.gU],rfl,rfl,⟨[VI d.E],[VI d.Row,VI d.B,VI d.H,VI d.Out,VI d.Code,.bool d.gU],rfl,rfl,⟨[VI d.Row],[VI d.B,VI d.H,VI d.Out,VI d.Code,.bool d.gU],rfl,rfl,⟨[VI d.B],[VI d.H,VI d.Out,VI d.Code,.bool d.gU],rfl,rfl,⟨[VI d.H],[VI d.Out,VI d.Code,.bool d.gU],rfl,rfl,⟨[VI d.Out],[VI d.Code,.bool d.gU],rfl,rfl,⟨[VI d.Code],[.bool d.gU],rfl,rfl,rfl⟩⟩⟩⟩⟩⟩⟩⟩⟩
instance:Flat Sub:=⟨λh=>Flat.own_of (O:=Int×Int×Int×Int×Int×Int×Int×Int×Int×Bool) h,λh=>Flat.no (O:=Int×Int×Int×Int×Int×Int×Int×Int×Int×Bool) h⟩
structure Seen where
 bX:Int
 eJ:Int
 deriving DecidableEq,Inhabited
abbrev aXX(d:Seen):=(d.bX,d.eJ)
instance:aM Seen:=aM.via aXX
instance:Fits Seen:=Fits.via aXX
theorem bDH{S:cC}{cs:List Value}{d:Seen}(h:aM.rd S w cs d):cs=[VI d.bX,VI d.eJ]:=by obtain⟨c0,r0,e0,h0,n0⟩:=h;have q0:c0=[_]:=h0;have q1:r0=[_]:=n0;exact by rw[e0,q0,q1];rfl
instance:Flat Seen:=⟨λh=>Flat.own_of (O:=Int×Int) h,λh=>Flat.no (O:=Int×Int) h⟩
theorem bDI(d:Seen):OP [VI d.bX,VI d.eJ] d []:=(show OP _ (aXX d) _ from(eP (c1:=[VI d.bX]) (A:=[]) (dZ rfl) (dZ rfl) rfl))
structure aT where
 Key:Int
 HC:Bool
 dM:Int
 deriving DecidableEq,Inhabited
abbrev aRY(d:aT):=(d.Key,d.HC,d.dM)
instance:aM aT:=aM.via aRY
instance:Fits aT:=Fits.via aRY
theorem a8E{S:cC}{cs:List Value}{d:aT}(h:aM.rd S w cs d):cs=[VI d.Key,.bool d.HC,VI d.dM]:=by obtain⟨c0,r0,e0,h0,n0⟩:=h;have q0:c0=[_]:=h0;obtain⟨c1,r1,e1,h1,n1⟩:=n0;have q1:c1=[_]:=h1;have q2:r1=[_]:=n1;exact by rw[e0,e1,q0,q1,q2];rfl
theorem a8F{S:cC}(d:aT):aM.rd S w [VI d.Key,.bool d.HC,VI d.dM] d:=⟨[VI d.Key],[.bool d.HC,VI d.dM],rfl,rfl,⟨[.bool d.HC],[VI d.dM],rfl,rfl,rfl⟩⟩
instance:Flat aT:=⟨λh=>Flat.own_of (O:=Int×Bool×Int) h,λh=>Flat.no (O:=Int×Bool×Int) h⟩
theorem a8G(d:aT):OP [VI d.Key,.bool d.HC,VI d.dM] d []:=(show OP _ (aRY d) _ from(eP (c1:=[VI d.Key]) (A:=[]) (dZ rfl) (eP (c1:=[.bool d.HC]) (A:=[]) (dZ rfl) (dZ rfl) rfl) rfl))
structure fV where
 Is:Bool
 dM:Int
 deriving DecidableEq,Inhabited
abbrev a8H(d:fV):=(d.Is,d.dM)
instance:aM fV:=aM.via a8H
instance:Fits fV:=Fits.via a8H
theorem bIF{S:cC}{cs:List Value}{d:fV}(h:aM.rd S w cs d):cs=[.bool d.Is,VI d.dM]:=by obtain⟨c0,r0,e0,h0,n0⟩:=h;have q0:c0=[_]:=h0;have q1:r0=[_]:=n0;exact by rw[e0,q0,q1];rfl
instance:Flat fV:=⟨λh=>Flat.own_of (O:=Bool×Int) h,λh=>Flat.no (O:=Bool×Int) h⟩
theorem bIG(d:fV):OP [.bool d.Is,VI d.dM] d []:=(show OP _ (a8H d) _ from(eP (c1:=[.bool d.Is]) (A:=[]) (dZ rfl) (dZ rfl) rfl))
structure aI where
 bU:Bool
 Batch:Batch
 aG:Int
 Pc:Int
 At:Int
 K:Int
 bX:Int
 eJ:Int
 H:Int
 gO:Int
 Node:gN
 Found:Bool
 Code:Int
 Sub:Sub
 Reads:List Seen
 aH:List aT
 fV:List fV
 gK:List Int
 bG:List Int
 b9:List Int
 deriving DecidableEq,Inhabited
abbrev aXY(d:aI):=(d.bU,d.Batch,d.aG,d.Pc,d.At,d.K,d.bX,d.eJ,d.H,d.gO,d.Node,d.Found,d.Code,d.Sub,d.Reads,d.aH,d.fV,d.gK,d.bG,d.b9)
instance:aM aI:=aM.via aXY
instance:Fits aI:=Fits.via aXY
theorem bDJ{S:cC}{cs:List Value}{d:aI}(h:aM.rd S w cs d):∃v0 v1 v2 v3 v4 v5 v6:Value,cs=[.bool d.bU,.bool d.Batch.Collect,v0,VI d.aG,VI d.Pc,VI d.At,VI d.K,VI d.bX,VI d.eJ,VI d.H,VI d.gO,VI d.Node.Key,VI d.Node.dM,VI d.Node.Next,.bool d.Found,VI d.Code,VI d.Sub.Kind,VI d.Sub.A,VI d.Sub.Pc,VI d.Sub.E,VI d.Sub.Row,VI d.Sub.B,VI d.Sub.H,VI d.Sub.Out,VI d.Sub.Code,.bool d.Sub.gU,v1,v2,v3,v4,v5,v6]/\aM.rd S w [v0] d.Batch.bM/\aM.rd S w [v1] d.Reads/\aM.rd S w [v2] d.aH/\aM.rd S w [v3] d.fV/\aM.rd S w [v4] d.gK/\aM.rd S w [v5] d.bG/\aM.rd S w [v6] d.b9:=by obtain⟨c0,r0,e0,h0,n0⟩:=h;have q0:c0=[_]:=h0;obtain⟨c1,r1,e1,h1,n1⟩:=n0;obtain⟨u1_0,q1,hq1_0⟩:=aUQ h1;obtain⟨c2,r2,e2,h2,n2⟩:=n1;have q2:c2=[_]:=h2;obtain⟨c3,r3,e3,h3,n3⟩:=n2;have q3:c3=[_]:=h3;obtain⟨c4,r4,e4,h4,n4⟩:=n3;have q4:c4=[_]:=h4;obtain⟨c5,r5,e5,h5,n5⟩:=n4;have q5:c5=[_]:=h5;obtain⟨c6,r6,e6,h6,n6⟩:=n5;have q6:c6=[_]:=h6;obtain⟨c7,r7,e7,h7,n7⟩:=n6;have q7:c7=[_]:=h7;obtain⟨c8,r8,e8,h8,n8⟩:=n7;have q8:c8=[_]:=h8;obtain⟨c9,r9,e9,h9,n9⟩:=n8;have q9:c9=[_]:=h9;obtain⟨c10,r10,e10,h10,n10⟩:=n9;have q10:=a8C h10;obtain⟨c11,r11,e11,h11,n11⟩:=n10;have q11:c11=[_]:=h11;obtain⟨c12,r12,e12,h12,n12⟩:=n11;have q12:c12=[_]:=h12;obtain⟨c13,r13,e13,h13,n13⟩:=n12;have q13:=bID h13;obtain⟨c14,r14,e14,h14,n14⟩:=n13;obtain⟨u14,q14⟩:=kG h14;rw[q14] at h14;obtain⟨c15,r15,e15,h15,n15⟩:=n14;obtain⟨u15,q15⟩:=kG h15;rw[q15] at h15;obtain⟨c16,r16,e16,h16,n16⟩:=n15;obtain⟨u16,q16⟩:=kG h16;rw[q16] at h16;obtain⟨c17,r17,e17,h17,n17⟩:=n16;obtain⟨u17,q17⟩:=kG h17;rw[q17] at h17;obtain⟨c18,r18,e18,h18,n18⟩:=n17;obtain⟨u18,q18⟩:=kG h18;rw[q18] at h18;obtain⟨u19,q19⟩:=kG n18;rw[q19] at n18;exact⟨u1_0,u14,u15,u16,u17,u18,u19,by rw[e0,e1,e2,e3,e4,e5,e6,e7,e8,e9,e10,e11,e12,e13,e14,e15,e16,e17,e18,q0,q1,q2,q3,q4,q5,q6,q7,q8,q9,q10,q11,q12,q13,q14,q15,q16,q17,q18,q19];rfl,hq1_0,h14,h15,h16,h17,h18,n18⟩
theorem aRZ(d:aI){v1:Value}{v2:Value}{v3:Value}{v4:Value}{v5:Value}{v6:Value}:OP [.bool d.bU,.bool d.Batch.Collect,v0,VI d.aG,VI d.Pc,VI d.At,VI d.K,VI d.bX,VI d.eJ,VI d.H,VI d.gO,VI d.Node.Key,VI d.Node.dM,VI d.Node.Next,.bool d.Found,VI d.Code,VI d.Sub.Kind,VI d.Sub.A,VI d.Sub.Pc,VI d.Sub.E,VI d.Sub.Row,VI d.Sub.B,VI d.Sub.H,VI d.Sub.Out,VI d.Sub.Code,.bool d.Sub.gU,v1,v2,v3,v4,v5,v6] d [eQ [v0] d.Batch.bM,eQ [v1] d.Reads,eQ [v2] d.aH,eQ [v3] d.fV,eQ [v4] d.gK,eQ [v5] d.bG,eQ [v6] d.b9]:=(show OP _ (aXY d) _ from(eP (c1:=[.bool d.bU]) (A:=[]) (dZ rfl) (eP (c1:=[.bool d.Batch.Collect,v0]) (A:=[eQ [v0] d.Batch.bM]) (aUR _) (eP (c1:=[VI d.aG]) (A:=[]) (dZ rfl) (eP (c1:=[VI d.Pc]) (A:=[]) (dZ rfl) (eP (c1:=[VI d.At]) (A:=[]) (dZ rfl) (eP (c1:=[VI d.K]) (A:=[]) (dZ rfl) (eP (c1:=[VI d.bX]) (A:=[]) (dZ rfl) (eP (c1:=[VI d.eJ]) (A:=[]) (dZ rfl) (eP (c1:=[VI d.H]) (A:=[]) (dZ rfl) (eP (c1:=[VI d.gO]) (A:=[]) (dZ rfl) (eP (c1:=[VI d.Node.Key,VI d.Node.dM,VI d.Node.Next]) (A:=[]) (dZ (a8D _)) (eP (c1:=[.bool d.Found]) (A:=[]) (dZ rfl) (eP (c1:=[VI d.Code]) (A:=[]) (dZ rfl) (eP (c1:=[VI d.Sub.Kind,VI d.Sub.A,VI d.Sub.Pc,VI d.Sub.E,VI d.Sub.Row,VI d.Sub.B,VI d.Sub.H,VI d.Sub.Out,VI d.Sub.Code,.bool d.Sub.gU]) (A:=[]) (dZ (bIE _)) (eP (c1:=[v1]) (A:=[eQ [v1] d.Reads]) HR (eP (c1:=[v2]) (A:=[eQ [v2] d.aH]) HR (eP (c1:=[v3]) (A:=[eQ [v3] d.fV]) HR (eP (c1:=[v4]) (A:=[eQ [v4] d.gK]) HR (eP (c1:=[v5]) (A:=[eQ [v5] d.bG]) HR HR rfl) rfl) rfl) rfl) rfl) rfl) rfl) rfl) rfl) rfl) rfl) rfl) rfl) rfl) rfl) rfl) rfl) rfl) rfl))
structure iD where
 Kind:Int
 Who:Int
 aG:Int
 Code:Int
 bM:List iB
 fV:List fV
 deriving DecidableEq,Inhabited
abbrev a8I(d:iD):=(d.Kind,d.Who,d.aG,d.Code,d.bM,d.fV)
instance:aM iD:=aM.via a8I
instance:Fits iD:=Fits.via a8I
theorem bIH{S:cC}{cs:List Value}{d:iD}(h:aM.rd S w cs d):∃v0 v1:Value,cs=[VI d.Kind,VI d.Who,VI d.aG,VI d.Code,v0,v1]/\aM.rd S w [v0] d.bM/\aM.rd S w [v1] d.fV:=by obtain⟨c0,r0,e0,h0,n0⟩:=h;have q0:c0=[_]:=h0;obtain⟨c1,r1,e1,h1,n1⟩:=n0;have q1:c1=[_]:=h1;obtain⟨c2,r2,e2,h2,n2⟩:=n1;have q2:c2=[_]:=h2;obtain⟨c3,r3,e3,h3,n3⟩:=n2;have q3:c3=[_]:=h3;obtain⟨c4,r4,e4,h4,n4⟩:=n3;obtain⟨u4,q4⟩:=kG h4;rw[q4] at h4;obtain⟨u5,q5⟩:=kG n4;rw[q5] at n4;exact⟨u4,u5,by rw[e0,e1,e2,e3,e4,q0,q1,q2,q3,q4,q5];rfl,h4,n4⟩
theorem bII(d:iD){v1:Value}:OP [VI d.Kind,VI d.Who,VI d.aG,VI d.Code,v0,v1] d [eQ [v0] d.bM,eQ [v1] d.fV]:=(show OP _ (a8I d) _ from(eP (c1:=[VI d.Kind]) (A:=[]) (dZ rfl) (eP (c1:=[VI d.Who]) (A:=[]) (dZ rfl) (eP (c1:=[VI d.aG]) (A:=[]) (dZ rfl) (eP (c1:=[VI d.Code]) (A:=[]) (dZ rfl) (eP (c1:=[v0]) (A:=[eQ [v0] d.bM]) HR HR rfl) rfl) rfl) rfl) rfl))
structure Table where
 aA:aA
 aS:List bX
 aR:List aI
 eF:List aO
 Log:List iD
 aG:Int
 deriving DecidableEq,Inhabited
abbrev a08(d:Table):=(d.aA,d.aS,d.aR,d.eF,d.Log,d.aG)
instance:aM Table:=aM.via a08
instance:Fits Table:=Fits.via a08
structure KV where
 Key:Int
 dM:Int
 deriving DecidableEq,Inhabited
abbrev bIJ(d:KV):=(d.Key,d.dM)
instance:aM KV:=aM.via bIJ
instance:Fits KV:=Fits.via bIJ
theorem bK5{S:cC}{cs:List Value}{d:KV}(h:aM.rd S w cs d):cs=[VI d.Key,VI d.dM]:=by obtain⟨c0,r0,e0,h0,n0⟩:=h;have q0:c0=[_]:=h0;have q1:r0=[_]:=n0;exact by rw[e0,q0,q1];rfl
theorem bK6{S:cC}(d:KV):aM.rd S w [VI d.Key,VI d.dM] d:=⟨[VI d.Key],[VI d.dM],rfl,rfl,rfl⟩
instance:Flat KV:=⟨λh=>Flat.own_of (O:=Int×Int) h,λh=>Flat.no (O:=Int×Int) h⟩
theorem bK7(d:KV):OP [VI d.Key,VI d.dM] d []:=(show OP _ (bIJ d) _ from(eP (c1:=[VI d.Key]) (A:=[]) (dZ rfl) (dZ rfl) rfl))
end Go.Gv
end
