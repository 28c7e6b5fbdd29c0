import Derived.Test.YtejjbceagmbdhaaGreatXUB
import Derived.Shelf.Slices.CompactI
import Derived.Shelf.Spec.SlicesInsertGrow
set_option linter.unusedVariables false
set_option linter.unusedSimpArgs false
set_option linter.unusedSectionVars false
set_option linter.constructorNameAsVariable false
set_option linter.unnecessarySimpa false
noncomputable section
namespace Go.Gv
def swN(i j n:Nat):Nat:=match Nat.beq n i with
 | true=>j
 | false => match Nat.beq n j with
  | true=>i
  | false=>n
def swC(i j:Nat):SV->SV
 | .p n o=>.p (swN i j n) o
 | x=>x
def aRQ(i j:Nat):List SV->List SV
 | []=>[]
 | x :: r=>swC i j x :: aRQ i j r
def swG(i j:Nat):SV->SV
 | .g cs=>.g (aRQ i j cs)
 | x=>swC i j x
def aY0(i j:Nat):List SV->List SV
 | []=>[]
 | x :: r=>swG i j x :: aY0 i j r
def swF(i j:Nat):List Nat->List Nat
 | []=>[]
 | n :: r=>swN i j n :: swF i j r
def swT(i j:Nat):SV->SV
 | .t cs=>.t (aY0 i j cs)
 | .f f ns=>.f f (swF i j ns)
 | x=>swG i j x
def swE(i j:Nat):SE->SE
 | []=>[]
 | (k,x) :: r=>(k,swT i j x) :: swE i j r
def swL(i j:Nat):List Ch->List Ch
 | []=>[]
 | x :: r => (match x with
  | .box n cs=>.box (swN i j n) (aRQ i j cs)
  | .ro n cs=>.ro (swN i j n) (aRQ i j cs)
  | .w n b z=>.w (swN i j n) b z
  | y=>y) :: swL i j r
noncomputable section
variable {B B':Bl} {i j:Nat}
theorem aVK(h:∀n,B'[swN i j n]?=B[n]?)(x:SV):bI B' (swC i j x)=bI B x:=by
 cases x <;> first | rfl | (simp only [swC,bI,h])
theorem aB1(h:∀n,B'[swN i j n]?=B[n]?):∀cs:List SV,aR (bI B') (aRQ i j cs)=aR (bI B) cs
 | []=>rfl
 | x :: r=>by simp only [aRQ,aR,aVK h,aB1 h r]
theorem aN2(h:∀n,B'[swN i j n]?=B[n]?)(x:SV):gV B' (swG i j x)=gV B x:=by
 cases x with
 | g cs=>simp only [swG,gV,aB1 h]
 | p n o=>exact aVK h (.p n o)
 | _=>rfl
theorem aQJ(h:∀n,B'[swN i j n]?=B[n]?):∀cs:List SV,aR (gV B') (aY0 i j cs)=aR (gV B) cs
 | []=>rfl
 | x :: r=>by simp only [aY0,aR,aN2 h,aQJ h r]
theorem aVL(h:∀n,B'[swN i j n]?=B[n]?):∀cs:List Nat,aR (N6 B') (swF i j cs)=aR (N6 B) cs
 | []=>rfl
 | x :: r=>by simp only [swF,aR,N6,h];rw [show aR (N6 B') (swF i j r)=aR (N6 B) r from aVL h r]
theorem a1V(h:∀n,B'[swN i j n]?=B[n]?)(x:SV):eC B' (swT i j x)=eC B x:=by
 cases x with
 | t cs=>simp only [swT,eC,aQJ h]
 | f f ns=>simp only [swT,eC,aVL h]
 | g cs=>exact aN2 h (.g cs)
 | p n o=>exact aN2 h (.p n o)
 | _=>rfl
theorem aVM{k:Nat}{x:SV}:∀{e:SE},A8 (swE i j e) k=some x->∃y,A8 e k=some y/\x=swT i j y
 | [],h=>by cases h
 | (k', y) :: r, h => by
  simp only [swE,A8] at h ⊢
  split at h
  ·rename_i hb;cases h;exact⟨y,rfl,rfl⟩
  ·rename_i hb;exact aVM h
theorem aQK(h:∀n,B'[swN i j n]?=B[n]?){w:World}{R:List Fact}:∀(L:List Ch),iV w (L.map (jN B)) ((swL i j L).map (jN B'))/\((∀x∈L,roF B R x)->∀x∈swL i j L,roF B' R x)
 | []=>⟨.nil,fun _ x hx=>by cases hx⟩
 | x :: L => by
  obtain⟨h1,h2⟩:=aQK h (w:=w) (R:=R) L
  refine⟨.cons (fun F hF=>?_) h1,fun hr y hy=>?_⟩
  ·cases x with
   | box n cs =>
    obtain⟨b,z,vs,k1,k2,k3⟩:=hF
    exact⟨b,z,vs,by rw [h];exact k1,by rw [aB1 h];exact k2,k3⟩
   | _=>exact hF
  ·rcases gW.1 hy with hy | hy
   ·have hx:=hr x (by simp)
    cases x with
    | box n cs=>subst hy;trivial
    | ro n cs =>
     obtain⟨b,z,vs,k1,k2,k3⟩:=hx
     subst hy
     exact⟨b,z,vs,by rw [h];exact k1,by rw [aB1 h];exact k2,k3⟩
    | w n b z=>subst hy;show B'[swN i j n]?=_;rw [h];exact hx
    | o c=>subst hy;trivial
    | no=>subst hy;trivial
    | f f=>subst hy;exact hx
   ·exact h2 (fun x hx=>hr x (nF _ hx)) y hy
end
theorem a35{B:Bl}{i j:Nat}(hi:i < B.length)(hj:j < B.length):∃B':Bl,B'.length=B.length/\(∀n,B'[swN i j n]?=B[n]?):=by
 refine⟨(B.set i B[j]).set j B[i],by simp,fun n=>?_⟩
 unfold swN
 cases h1:Nat.beq n i with
 | true =>
  have h1:=jJ h1
  subst h1
  simp only
  rw [Y9 (by simpa using hj),fT hi]
 | false =>
  have h1:n≠i:=fun h=>by rw [h] at h1;simp at h1
  cases h2:Nat.beq n j with
  | true =>
   have h2:=jJ h2
   subst h2
   simp only
   rw [QZ h1,Y9 hi,fT hj]
  | false =>
   have h2:n≠j:=fun h=>by rw [h] at h2;simp at h2
   simp only
   rw [QZ (Ne.symm h2),QZ (Ne.symm h1)]
noncomputable section
variable {n:Nat} {c:Ctx} {B0:Bl} {m:Nat} {e:SE} {L:List Ch}
theorem swR{Z:Act->World->Prop}(i j:Nat)(h:(Nat.ble B0.length i && (Nat.ble B0.length j && (Nat.blt i m && Nat.blt j m)))=true)
  (kk:∀a w,nI n c B0 m (swE i j e) (swL i j L) a w->Z a w):∀a w,nI n c B0 m e L a w->Z a w:=by
 simp only [zP,Nat.ble_eq,mQ] at h
 obtain⟨h1,h2,h3,h4⟩:=h
 intro a w ⟨B,hm,hA,hS⟩
 refine kk a w ?_
 rw [rD] at hm
 obtain⟨B',hl,hB⟩:=a35 (B:=B) (i:=i - B0.length) (j:=j - B0.length) (by omega) (by omega)
 have key:∀n,(B0++B')[swN i j n]?=(B0++B)[n]?:=by
  intro n
  have hsw:∀n,n < B0.length->swN i j n=n:=fun n hn=>by
   unfold swN
   cases e1:Nat.beq n i with
   | true=>have:=jJ e1;omega
   | false =>
    cases e2:Nat.beq n j with
    | true=>have:=jJ e2;omega
    | false=>rfl
  have hge:∀n,B0.length<=n->swN i j n=B0.length+swN (i - B0.length) (j - B0.length) (n - B0.length):=fun n hn=>by
   have q1:Nat.beq (n - B0.length) (i - B0.length)=Nat.beq n i:=by
    rw [FR];simp only [Nat.beq_eq];omega
   have q2:Nat.beq (n - B0.length) (j - B0.length)=Nat.beq n j:=by
    rw [FR];simp only [Nat.beq_eq];omega
   unfold swN
   rw [q1,q2]
   cases Nat.beq n i <;> cases Nat.beq n j <;> simp only <;> omega
  by_cases hn:n < B0.length
  ·rw [hsw n hn,IK hn,IK hn]
  ·rw [hge n (by omega),DI (by omega),DI (by omega),Nat.add_sub_cancel_left]
   exact hB _
 refine⟨B',by rw [rD];omega,⟨hA.d,hA.size,fun k x hk=>?_⟩,?_⟩
 ·obtain⟨y,g1,rfl⟩:=aVM hk
  obtain⟨v,g2,g3⟩:=hA.get k y g1
  exact⟨v,by rw [a1V key];exact g2,g3⟩
 ·obtain⟨⟨R,s1,s2⟩,s0⟩:=hS
  obtain⟨g1,g2⟩:=aQK key (w:=w) (R:=R) L
  exact⟨⟨R,s1.imp g1,g2 s2⟩,s0⟩
theorem pnR{Z:Act->World->Prop}{α:Type}[aD α](j:Nat){s:AC}{l:List α}{n0:Nat}(hl:l.length=n0)(hj:L[j]?=some (ow s l))
  (kk:∀a w,nI n c B0 m e (L.set j (.o (aZ [s.v n0] l))) a w->Z a w):∀a w,nI n c B0 m e L a w->Z a w:=by
 subst hl
 have:L.set j (.o (aZ [s.v l.length] l))=L:=by
  obtain⟨h1,h2⟩:=iE.1 hj
  rw [<-show L[j]=.o (aZ [s.v l.length] l) from h2];exact aHD h1
 rw [this] at kk
 exact kk
end
theorem fG{P:Program}{T:TT}{hT:D7 P T}{n:Nat}{c:Ctx}{B0:Bl}{N:Act->World->Prop}{X:Nat->Act->World->Prop}{Q:Act->World->Prop}{K:List Fr}{m:Nat}{e e1:SE}{L L1:List Ch}{cf:tO}(h1:aRI e=some e1)(h2:aRJ L=some L1)(k:G (.mk P T hT n c B0 N X Q) K m e1 L1 cf):G (.mk P T hT n c B0 N X Q) K m e L cf:=by
 have:=aBT h1
 have:=aBU h2
 subst e1;subst L1
 exact k
def fc1:SV->Option SV
 | .i k x=>some (.i k x)
 | .y b=>some (.y b)
 | .b c=>some (.b c)
 | .l c=>some (.l c)
 | .s l=>some (.s l)
 | .p n o=>some (.p n o)
 | .h s n=>some (.h s n)
 | .e s n i o=>some (.e s n i o)
 | .k x=>some (.k x)
 | .g cs=>some (.g cs)
 | .t cs=>some (.t cs)
 | .f f cs=>some (.f f cs)
 | .u=>some .u
def fcs:List SV->Option (List SV)
 | []=>some []
 | x :: r => match fc1 x with
  | some y => match fcs r with
   | some s=>some (y :: s)
   | none=>none
  | none=>none
def fc2:SV->Option SV
 | .g cs => match fcs cs with
  | some ds=>some (.g ds)
  | none=>none
 | x=>fc1 x
def fgs:List SV->Option (List SV)
 | []=>some []
 | x :: r => match fc2 x with
  | some y => match fgs r with
   | some s=>some (y :: s)
   | none=>none
  | none=>none
def fc3:SV->Option SV
 | .t cs => match fgs cs with
  | some ds=>some (.t ds)
  | none=>none
 | x=>fc2 x
def fdE:SE->Option SE
 | []=>some []
 | (k, v) :: r => match fc3 v with
  | some y => match fdE r with
   | some s=>some ((k,y) :: s)
   | none=>none
  | none=>none
def fdL:List Ch->Option (List Ch)
 | []=>some []
 | x :: r => match fdL r with
  | some s => match x with
   | .box n cs => match fcs cs with
    | some ds=>some (.box n ds :: s)
    | none=>none
   | .ro n cs => match fcs cs with
    | some ds=>some (.ro n ds :: s)
    | none=>none
   | y=>some (y :: s)
  | none=>none
theorem aVN{x y:SV}(h:fc1 x=some y):y=x:=by cases x <;> simp only [fc1] at h <;> cases h <;> rfl
theorem aJA:∀{l r:List SV},fcs l=some r->r=l
 | [],r,h=>by cases h;rfl
 | x :: l, r, h => by
  simp only [fcs] at h
  split at h
  ·rename_i y hy
   split at h
   ·rename_i s hs;cases h;rw [aVN hy,aJA hs]
   ·cases h
  ·cases h
theorem aVO{x y:SV}(h:fc2 x=some y):y=x:=by
 cases x with
 | g cs =>
  simp only [fc2] at h
  split at h
  ·rename_i ds hd;cases h;rw [aJA hd]
  ·cases h
 | _=>exact aVN h
theorem aVP:∀{l r:List SV},fgs l=some r->r=l
 | [],r,h=>by cases h;rfl
 | x :: l, r, h => by
  simp only [fgs] at h
  split at h
  ·rename_i y hy
   split at h
   ·rename_i s hs;cases h;rw [aVO hy,aVP hs]
   ·cases h
  ·cases h
theorem a1X{x y:SV}(h:fc3 x=some y):y=x:=by
 cases x with
 | t cs =>
  simp only [fc3] at h
  split at h
  ·rename_i ds hd;cases h;rw [aVP hd]
  ·cases h
 | _=>exact aVO h
theorem aVQ:∀{e r:SE},fdE e=some r->r=e
 | [],r,h=>by cases h;rfl
 | (k, v) :: l, r, h => by
  simp only [fdE] at h
  split at h
  ·rename_i y hy
   split at h
   ·rename_i s hs;cases h;rw [a1X hy,aVQ hs]
   ·cases h
  ·cases h
theorem aVR:∀{e r:List Ch},fdL e=some r->r=e
 | [],r,h=>by cases h;rfl
 | x :: l, r, h => by
  simp only [fdL] at h
  split at h
  ·rename_i s hs
   have:=aVR hs
   subst this
   split at h
   ·split at h
    ·rename_i ds hds;cases h;rw [aJA hds]
    ·cases h
   ·split at h
    ·rename_i ds hds;cases h;rw [aJA hds]
    ·cases h
   ·cases h;rfl
  ·cases h
theorem fD{n:Nat}{c:Ctx}{B0:Bl}{m:Nat}{e e1:SE}{L L1:List Ch}{Z:Act->World->Prop}(h1:fdE e=some e1)(h2:fdL L=some L1)(kk:∀a w,nI n c B0 m e1 L1 a w->Z a w):∀a w,nI n c B0 m e L a w->Z a w:=by
 have:=aVQ h1
 have:=aVR h2
 subst e1;subst L1
 exact kk
end Go.Gv
end
noncomputable section
namespace Go.Gv
universe u
theorem Q{α:Sort u}{a:α}:a=a:=Eq.refl a
def W{ρ:Type}(C:Prop)(r:ρ)(F:Option ρ):Prop:=F=some r->C
theorem wm{ρ:Type}{C:Prop}{r:ρ}{F F':Option ρ}(h:F'=F)(k:W C r F):W C r F':=h ▸ k
theorem wi{ρ:Type}{C:Prop}{r:ρ}{F:Option ρ}(h:F=some r)(k:W C r F):C:=k h
def VS(P:Program)(c:Ctx)(f:FuncId){ρ ex:Type}(F:Option ρ)(xs:List SV)(B0:Bl)(L0:List Ch)(sv:ρ->ex->SV)(Lf:ρ->ex->List Ch):Prop:=∀r,F=some r->FnS P f c xs B0 L0 sv Lf r
abbrev V0(P:Program)(c:Ctx)(f:FuncId){ρ:Type}(F:Option ρ)(xs:List SV)(sv:ρ->SV):Prop:=VS P c f F xs [] [] (fun r (_:Unit)=>sv r) (fun _ _=>[])
theorem VS.r{P:Program}{c:Ctx}{f:FuncId}{ρ ex:Type}{F:Option ρ}{xs:List SV}{B0:Bl}{L0:List Ch}{sv:ρ->ex->SV}{Lf:ρ->ex->List Ch}(h:VS P c f F xs B0 L0 sv Lf){r:ρ}(hF:F=some r):FnS P f c xs B0 L0 sv Lf r:=h r hF
def QR(P:Program)(fn:Func){rs:List ResultVar}(_:fn.results=rs.toArray)(c:Ctx)(B0:Bl){ρ ex:Type}(sv:ρ->ex->SV)(Lf:ρ->ex->List Ch)(r:ρ):Act->World->Prop:=QS P fn c B0 sv Lf r
def aVS(T:TT)(rs:List ResultVar)(is:List Nat)(b0:Nat)(L2:List Ch):Stop->Option (SV×List Ch)
 | .ret m e L => match aIR T e L rs with
  | some x => match vG b0 (nbS x) with
   | true => match SR b0 m e L is b0 [] L2 with
    | some ([],L3)=>some (nbS x,L3)
    | _=>none
   | false=>none
  | none=>none
 | _=>none
def aRR(is:List Nat)(b0 mj:Nat)(ej:SE)(Lj:List Ch):Stop->Option (SE×List Ch)
 | .fin m e L=>SR b0 m e L is mj ej Lj
 | _=>none
def exQ(is:List Nat)(id b0 mj:Nat)(ej:SE)(Lj:List Ch):Stop->Option (SE×List Ch)
 | .ex i m e L => match Nat.beq i id with
  | true=>SR b0 m e L is mj ej Lj
  | false=>none
 | _=>none
def a36:Stop->Stop
 | .fin m e L=>.ret m e L
 | _=>.stuck
def ixT(T:TT)(t n:Nat):Bool:=match AQ T t with
 | some ⟨.sl el, _, _, _⟩ => match AQ T el with
  | some ⟨_,_,sz,_⟩=>Nat.beq n sz
  | none=>false
 | _=>false
noncomputable section
variable {P:Program} {T:TT} {hT:D7 P T} {n:Nat} {c:Ctx} {B0:Bl} {N:Act->World->Prop} {X:Nat->Act->World->Prop} {Q:Act->World->Prop} {K K':List Fr} {m m':Nat} {e e':SE} {L L' Lv:List Ch} {cf cf' cf1 cf2:tO} {o:Oper}
theorem cT(hT:D7 P T){f:FuncId}{fn:Func}{cd:Code}{xs:List SV}{L0:List Ch}{ρ ex:Type}{sv:ρ->ex->SV}{Lf:ρ->ex->List Ch}{F:Option ρ}{rs:List ResultVar}(hc:∀args w,(callFunc f args).run P w=.ok (.enter f args) w)(hf:P.funcs[f]?=some fn)(hr:fn.results=rs.toArray)(hb:fn.body=some cd)(hm:fn.ntmps=n)
  (k:∀{r},W (G (.mk P T hT n c B0 (QR P fn hr c B0 sv Lf r) (fun _ _ _=>False) (QR P fn hr c B0 sv Lf r)) [] B0.length (aHQ 0 xs) L0 (.c cd)) r F) (hl:Nat.ble xs.length n=true:=by exact rfl):VS P c f F xs B0 L0 sv Lf:=
 fun _ hF=>en n hc hf hT hb hm hl (k hF)
theorem aQL{rs:List ResultVar}{is:List Nat}{b0:Nat}{L2 L3:List Ch}{s:SV}{st:Stop}(h:aVS T rs is b0 L2 st=some (s,L3)):∃m' e' L' x,st=.ret m' e' L'/\aIR T e' L' rs=some x/\nbS x=s/\vG b0 s=true/\SR b0 m' e' L' is b0 [] L2=some ([],L3):=by
 unfold aVS at h
 split at h
 ·split at h
  ·rename_i h1
   split at h
   ·rename_i h2
    split at h
    ·rename_i h3
     cases h
     exact⟨_,_,_,_,rfl,h1,rfl,h2,h3⟩
    ·cases h
   ·cases h
  ·cases h
 ·cases h
theorem lS{fn:Func}{ρ ex:Type}{sv:ρ->ex->SV}{Lf:ρ->ex->List Ch}{r r':ρ}{rs:List ResultVar}{hr:fn.results=rs.toArray}{zz:Option ρ}(y:ex)(is:List Nat)(hz:zz=some r')(h:aVS T rs is B0.length (Lf r' y) (i7 T n K cf m e L)=some (sv r' y,Lf r' y)):W (G (.mk P T hT n c B0 N X (QR P fn hr c B0 sv Lf r)) K m e L cf) r zz:=fun hF=>by
 obtain⟨_,_,_,_,h1,h2,h3,h4,h5⟩:=aQL h
 exact rt y is hF hz h1 hr h2 h3 h4 h5
theorem cO{fn:Func}{ρ:Type}{sv:ρ->Unit->SV}{Lf:ρ->Unit->List Ch}{r r':ρ}{rs:List ResultVar}{hr:fn.results=rs.toArray}{zz:Option ρ}(hz:zz=some r')(h:aVS T rs [] B0.length (Lf r' ()) (i7 T n K cf m e L)=some (sv r' (),Lf r' ())):W (G (.mk P T hT n c B0 N X (QR P fn hr c B0 sv Lf r)) K m e L cf) r zz:=lS () [] hz h
theorem DF{fn:Func}{ρ ex:Type}{sv:ρ->ex->SV}{Lf:ρ->ex->List Ch}{r r':ρ}{rs:List ResultVar}{hr:fn.results=rs.toArray}{zz:Option ρ}(y:ex)(is:List Nat)(hz:zz=some r')(h:aVS T rs is B0.length (Lf r' y) (a36 (i7 T n K cf m e L))=some (sv r' y,Lf r' y)):W (G (.mk P T hT n c B0 (QR P fn hr c B0 sv Lf r) X Q) K m e L cf) r zz:=fun hF=>by
 obtain⟨m',e',L',_,h1,h2,h3,h4,h5⟩:=aQL h
 refine rf y is hF hz (m':=m') (e':=e') (L':=L') ?_ hr h2 h3 h4 h5
 unfold a36 at h1
 split at h1
 ·rename_i h0;rw [h0];cases h1;rfl
 ·cases h1
theorem aQM{is:List Nat}{b0 mj:Nat}{ej e3:SE}{Lj L3:List Ch}{st:Stop}(h:aRR is b0 mj ej Lj st=some (e3,L3)):∃m' e' L',st=.fin m' e' L'/\SR b0 m' e' L' is mj ej Lj=some (e3,L3):=by
 unfold aRR at h
 split at h
 ·exact⟨_,_,_,rfl,h⟩
 ·cases h
theorem vB{π υ α:Type}{eq:π->Prop}{mj:Nat}{ej:π->υ->SE}{Lj:π->υ->List Ch}{p:π}{q:α}{zz:Option α}(u:υ)(is:List Nat)(hz:(zz=some q)=eq p)(h:aRR is B0.length mj (ej p u) (Lj p u) (i7 T n K cf m e L)=some (ej p u,Lj p u)):W (G (.mk P T hT n c B0 (JP n c B0 eq mj ej Lj) X Q) K m e L cf) q zz:=fun hF=>by
 obtain⟨_,_,_,h1,h2⟩:=aQM h
 exact jn u is (hz ▸ hF) h1 h2
theorem cA{π α:Type}{eq:π->Prop}{mj:Nat}{ej:π->Unit->SE}{Lj:π->Unit->List Ch}{p:π}{q:α}{zz:Option α}(is:List Nat)(hz:(zz=some q)=eq p)(h:aRR is B0.length mj (ej p ()) (Lj p ()) (i7 T n K cf m e L)=some (ej p (),Lj p ())):W (G (.mk P T hT n c B0 (JP n c B0 eq mj ej Lj) X Q) K m e L cf) q zz:=vB () is hz h
theorem nxW{σ ρ υ:Type}{o:Step σ ρ}{mj:Nat}{el:σ->υ->SE}{Ll:σ->υ->List Ch}{s:σ}(u:υ)(is:List Nat)(h:aRR is B0.length mj (el s u) (Ll s u) (i7 T n K cf m e L)=some (el s u,Ll s u)):W (G (.mk P T hT n c B0 (NxP n c B0 o mj el Ll) X Q) K m e L cf) o (some (Step.next s)):=fun hF=>by
 obtain⟨_,_,_,h1,h2⟩:=aQM h
 exact nx u is hF h1 h2
theorem DG{σ ρ:Type}{o:Step σ ρ}{mj:Nat}{el:σ->Unit->SE}{Ll:σ->Unit->List Ch}{s:σ}(is:List Nat)(h:aRR is B0.length mj (el s ()) (Ll s ()) (i7 T n K cf m e L)=some (el s (),Ll s ())):W (G (.mk P T hT n c B0 (NxP n c B0 o mj el Ll) X Q) K m e L cf) o (some (Step.next s)):=nxW () is h
def BkR(n:Nat)(c:Ctx)(B0:Bl){β ρ σ υ:Type}{o:Step σ ρ}{ro:ρ}(_:∀p,o=.stop p->p=ro)(enc:β->ρ)(m:Nat)(ej:β->υ->SE)(Lj:β->υ->List Ch)(id:Nat)(X:Nat->Act->World->Prop):Nat->Act->World->Prop:=BkP n c B0 ro enc m ej Lj id X
theorem bkW{σ ρ β υ:Type}{o:Step σ ρ}{ro:ρ}{enc:β->ρ}{mj id:Nat}{ej:β->υ->SE}{Lj:β->υ->List Ch}{b:β}{hr:∀p,o=.stop p->p=ro}(u:υ)(is:List Nat)(h:exQ is id B0.length mj (ej b u) (Lj b u) (i7 T n K cf m e L)=some (ej b u,Lj b u)):W (G (.mk P T hT n c B0 N (BkR n c B0 hr enc mj ej Lj id X) Q) K m e L cf) o (some (Step.stop (enc b))):=fun hF=>by
 unfold exQ at h
 split at h
 ·rename_i h0
  split at h
  ·rename_i hb
   rw [jJ hb] at h0
   exact bk u is hF hr h0 h
  ·cases h
 ·cases h
theorem A3{σ ρ β:Type}{o:Step σ ρ}{ro:ρ}{enc:β->ρ}{mj id:Nat}{ej:β->Unit->SE}{Lj:β->Unit->List Ch}{b:β}{hr:∀p,o=.stop p->p=ro}(is:List Nat)(h:exQ is id B0.length mj (ej b ()) (Lj b ()) (i7 T n K cf m e L)=some (ej b (),Lj b ())):W (G (.mk P T hT n c B0 N (BkR n c B0 hr enc mj ej Lj id X) Q) K m e L cf) o (some (Step.stop (enc b))):=bkW () is h
theorem FQ{σ ρ α:Type}{o:Step σ ρ}{p ro:ρ}{F:ρ->Option α}{q:α}{C:Prop}(hr:∀p,o=.stop p->p=ro)(hF:F ro=some q)(k:W C q (F p)):W C o (some (Step.stop p)):=fun h=>k (re h rfl hr hF)
noncomputable section
variable {b:Bool} {α:Type} {A B':Option α} {q:α}
theorem bM{o:Operand}{x y:Code}(ss:List Nat)(hs:i7 T n K cf m e L=.cond o b x y K' m' e' L')(ho:aR (A8 e') ss=some (ss.map fun _=>SV.b b))
  (k1:W (G (.mk P T hT n c B0 N X Q) K' m' (ovr true e' ss) L' (.c x)) q A) (k2:W (G (.mk P T hT n c B0 N X Q) K' m' (ovr false e' ss) L' (.c y)) q B'):W (G (.mk P T hT n c B0 N X Q) K m e L cf) q (if b=true then A else B'):=fun hF=>cs ss hs ho hF k1 k2
theorem aVT{o:Operand}{x y:Code}(ss:List Nat)(hs:i7 T n K cf m e L=.cond o b x y K' m' e' L')(ho:aR (A8 e') ss=some (ss.map fun _=>SV.b b))
  (k1:b=true->W (G (.mk P T hT n c B0 N X Q) K' m' (ovr true e' ss) L' (.c x)) q A) (k2:b=false->W (G (.mk P T hT n c B0 N X Q) K' m' (ovr false e' ss) L' (.c y)) q B'):W (G (.mk P T hT n c B0 N X Q) K m e L cf) q (if b=true then A else B'):=fun hF=>csK ss hs ho hF k1 k2
theorem eS(ss:List Nat)(hs:i7 T n K cf m e L=.case b cf' K' m' e' L')(ho:aR (A8 e') ss=some (ss.map fun _=>SV.b b))
  (k1:W (G (.mk P T hT n c B0 N X Q) K' m' (ovr true e' ss) L' cf') q A) (k2:W (G (.mk P T hT n c B0 N X Q) K' m' (ovr false e' ss) L' cf') q B'):W (G (.mk P T hT n c B0 N X Q) K m e L cf) q (if b=true then A else B'):=fun hF=>ca ss hs ho hF k1 k2
theorem a5P(ss:List Nat)(hs:i7 T n K cf m e L=.case b cf' K' m' e' L')(ho:aR (A8 e') ss=some (ss.map fun _=>SV.b b))
  (k1:b=true->W (G (.mk P T hT n c B0 N X Q) K' m' (ovr true e' ss) L' cf') q A) (k2:b=false->W (G (.mk P T hT n c B0 N X Q) K' m' (ovr false e' ss) L' cf') q B'):W (G (.mk P T hT n c B0 N X Q) K m e L cf) q (if b=true then A else B'):=fun hF=>caK ss hs ho hF k1 k2
end
noncomputable section
variable {α β:Type} {fo:Option α} {kf:α->Option β} {q:β} {d:Nat} {f:FuncId} {xs:List SV}
theorem c0{sv:α->SV}(hs:i7 T n K cf m e L=.call o (some d) f xs cf1 cf2 K' m' e' L')
  (hc:∀{w},HS c w L'->V0 P (bZ w) f fo xs sv) (k:∀x,W (G (.mk P T hT n c B0 N X Q) K' m' ((d,sv x) :: e') L' cf2) q (kf x)):W (G (.mk P T hT n c B0 N X Q) K m e L cf) q (fo.bind kf):=fun hF=>cl0 hs (fun h _ hx=>hc h _ hx) hF fun x _ h=>k x h
theorem c1{ex:Type}{sv:α->ex->SV}{Lf:α->ex->List Ch}(hs:i7 T n K cf m e L=.call o (some d) f xs cf1 cf2 K' m' e' L')
  (hc:∀{w},HS c w L'->VS P (bZ w) f fo xs [] [] sv Lf) (k:∀x,∀y:ex,W (G (.mk P T hT n c B0 N X Q) K' m' ((d,sv x y) :: e') (L'++Lf x y) cf2) q (kf x)) (hn:∀x y,noF (Lf x y)=true:=by exact fun _ _=>rfl):W (G (.mk P T hT n c B0 N X Q) K m e L cf) q (fo.bind kf):=fun hF=>cl hs hn (fun h _ hx=>hc h _ hx) hF fun x _ h y=>k x y h
theorem A6{β:Type}{kf:α->Option β}{q:β}{iR:aD α}(C:E2 α){d t:Nat}{s:AC}{i:Int}{ls:List α}(hs:i7 T n K cf m e L=.idx o d t s ls.length i Lv cf1 cf2 K' m' e' L')(h1:bY c s ls)(ht:ixT T t (aD.n α)=true)
  (k:∀x,∀y:C.ex,C.sub c.S0 c.w0 x y->W (G (.mk P T hT n c B0 N X Q) K' (m'+1) ((d,.p m' 0) :: e') (L' ++ [.ro m' (C.cs x y)]) (cf2.ext [.ro m' (C.cs x y)])) q (kf x)):W (G (.mk P T hT n c B0 N X Q) K m e L cf) q ((idx ls i).bind kf):=fun hF=>by
 unfold ixT at ht
 split at ht
 ·rename_i h2
  split at ht
  ·rename_i h3
   exact ix C hs h1 hF h2 h3 (jJ ht) fun x _ h y hy=>k x y hy h
  ·cases ht
 ·cases ht
theorem Q8{β:Type}{kf:Int->Option β}{q:β}{d t:Nat}{s:AC}{i:Int}{ls:List Int}(hs:i7 T n K cf m e L=.idx o d t s ls.length i Lv cf1 cf2 K' m' e' L')(h1:bY c s ls)(ht:ixT T t 1=true)
  (k:∀x,W (G (.mk P T hT n c B0 N X Q) K' (m'+1) ((d,.p m' 0) :: e') (L' ++ [.ro m' [.i .i64 x]]) (cf2.ext [.ro m' [.i .i64 x]])) q (kf x)):W (G (.mk P T hT n c B0 N X Q) K m e L cf) q ((idx ls i).bind kf):=A6 cI hs h1 ht fun x _ _=>k x
theorem iO(hm:P.follows .mixedOrders=true){id:Nat}{ops:Array Oper}{zz:Option β}(is:List Nat)(hs:i7 T n K cf m e L=.rgn id ops K' m' e' L')
  (k:∀{B1},W (G (.mk P T hT n c B0 N X Q) K' m' e' L' (.d B1 ops (List.replicate ops.size false) is (kl L' is) (kl L' is))) q zz) (hf:(aKW ops && (okL m' (kl L' is) && (cW is && is.all fun j=>Nat.blt j L'.length)))=true:=by kernel_rfl):W (G (.mk P T hT n c B0 N X Q) K m e L cf) q zz:=fun hF=>dr is hs hm hf fun _=>k hF
theorem eI{π υ:Type}{zz:Option β}(j mj:Nat)(Fj:π->Option β)(ks:List Nat)(ej:π->υ->SE)(is:List Nat)(Lj:π->υ->List Ch)(hs:TB (i7 T n K cf m e L)=some (K',cf',m',e',L'))
  (k1:W (G (.mk P T hT n c B0 (JP n c B0 (fun p=>Fj p=some q) mj (fun p u=>ej p u++kp e' ks) (fun p u=>Lj p u++kl L' is)) (XK (.mk P T hT n c B0 N X Q) (K'.drop j)) Q) (K'.take j) m' e' L' cf') q zz)
  (k2:∀p u,W (G (.mk P T hT n c B0 N X Q) (K'.drop j) mj (ej p u++kp e' ks) (Lj p u++kl L' is) .n) q (Fj p)):W (G (.mk P T hT n c B0 N X Q) K m e L cf) q zz:=fun hF=>cut j mj (fun p=>Fj p=some q) ks ej is Lj hs (k1 hF) fun p u h=>k2 p u h
theorem eD{zz:Option β}(j mj:Nat)(Fj:Bool->Option β)(ks:List Nat)(v:Nat)(is:List Nat)(hs:TB (i7 T n K cf m e L)=some (K',cf',m',e',L'))
  (k1:W (G (.mk P T hT n c B0 (JP n c B0 (fun p=>Fj p=some q) mj (fun p (_:Unit)=>[(v,.b p)]++kp e' ks) (fun _ _=>[]++kl L' is)) (XK (.mk P T hT n c B0 N X Q) (K'.drop j)) Q) (K'.take j) m' e' L' cf') q zz)
  (k2:∀p,W (G (.mk P T hT n c B0 N X Q) (K'.drop j) mj ([(v,.b p)]++kp e' ks) ([]++kl L' is) .n) q (Fj p)):W (G (.mk P T hT n c B0 N X Q) K m e L cf) q zz:=eI j mj Fj ks (fun p (_:Unit)=>[(v,.b p)]) is (fun _ _=>[]) hs k1 fun p _=>k2 p
theorem S2{σ ρ υ γ ω:Type}{id:Nat}{y:Code}{fb:σ->Option (Step σ ρ)}{s0:σ}{gk:ρ->Option β}(u0:υ)(ks:List Nat)(el:σ->υ->SE)(is0 is:List Nat)(Ll:σ->υ->List Ch)(enc:γ->ρ)(kb:List Nat)(ej:γ->ω->SE)(ib:List Nat)(Lj:γ->ω->List Ch)
  (hs:i7 T n K cf m e L=.loop id y K' m' e' L')
  (h0:SR B0.length m' e' L' is0 m' (el s0 u0++kp e' ks) (Ll s0 u0++kl L' is)=some (el s0 u0++kp e' ks,Ll s0 u0++kl L' is))
  (k1:∀{ro o},gk ro=some q->∀s u,(hr:∀p,o=.stop p->p=ro)->W (G (.mk P T hT n c B0 (NxP n c B0 o m' (fun s u=>el s u++kp e' ks) (fun s u=>Ll s u++kl L' is)) (BkR n c B0 hr enc m' (fun b u=>ej b u++kp e' kb) (fun b u=>Lj b u++kl L' ib) id (XK (.mk P T hT n c B0 N X Q) K')) Q) [] m' (el s u++kp e' ks) (Ll s u++kl L' is) (.c y)) o (fb s))
  (k2:∀b u,W (G (.mk P T hT n c B0 N X Q) K' m' (ej b u++kp e' kb) (Lj b u++kl L' ib) .n) q (gk (enc b))):W (G (.mk P T hT n c B0 N X Q) K m e L cf) q ((loop fb s0).bind gk):=fun hF=>
 lp u0 ks el is0 is Ll enc kb ej ib Lj hs hF h0 (fun ro h1 s u o h2 h3=>k1 h1 s u h3 h2) fun b u h=>k2 b u h
theorem IG{ρ:Type}{id:Nat}{y:Code}{fb:Int->Option (Step Int ρ)}{s0:Int}{gk:ρ->Option β}(v:Nat)(ks:List Nat)(is:List Nat)(enc:Unit->ρ)(kb:List Nat)(ib:List Nat)
  (hs:i7 T n K cf m e L=.loop id y K' m' e' L')
  (h0:SR B0.length m' e' L' is m' ([(v,.i .i64 s0)]++kp e' ks) ([]++kl L' is)=some ([(v,.i .i64 s0)]++kp e' ks,[]++kl L' is))
  (k1:∀{ro o},gk ro=some q->∀s,(hr:∀p,o=.stop p->p=ro)->W (G (.mk P T hT n c B0 (NxP n c B0 o m' (fun s (_:Unit)=>[(v,.i .i64 s)]++kp e' ks) (fun _ _=>[]++kl L' is)) (BkR n c B0 hr enc m' (fun _ (_:Unit)=>[]++kp e' kb) (fun _ _=>[]++kl L' ib) id (XK (.mk P T hT n c B0 N X Q) K')) Q) [] m' ([(v,.i .i64 s)]++kp e' ks) ([]++kl L' is) (.c y)) o (fb s))
  (k2:W (G (.mk P T hT n c B0 N X Q) K' m' ([]++kp e' kb) ([]++kl L' ib) .n) q (gk (enc ()))):W (G (.mk P T hT n c B0 N X Q) K m e L cf) q ((loop fb s0).bind gk):=
 S2 () ks (fun s (_:Unit)=>[(v,.i .i64 s)]) is is (fun _ _=>[]) enc kb (fun _ (_:Unit)=>[]) ib (fun _ _=>[]) hs h0 (fun h s _ hr=>k1 h s hr) fun _ _=>k2
theorem lrW{σ ρ υ:Type}{id:Nat}{y:Code}{fb:σ->Option (Step σ ρ)}{s0:σ}{gk:ρ->Option β}(u0:υ)(ks:List Nat)(el:σ->υ->SE)(is0 is:List Nat)(Ll:σ->υ->List Ch)
  (hs:i7 T n K cf m e L=.loop id y K' m' e' L')
  (h0:SR B0.length m' e' L' is0 m' (el s0 u0++kp e' ks) (Ll s0 u0++kl L' is)=some (el s0 u0++kp e' ks,Ll s0 u0++kl L' is))
  (k1:∀{ro o},gk ro=some q->∀s u,(hr:∀p,o=.stop p->p=ro)->W (G (.mk P T hT n c B0 (NxP n c B0 o m' (fun s u=>el s u++kp e' ks) (fun s u=>Ll s u++kl L' is)) (BkP n c B0 ro (fun b:Empty=>nomatch b) m' (fun(b:Empty) (_:Unit)=>nomatch b) (fun b _=>nomatch b) id (XK (.mk P T hT n c B0 N X Q) K')) Q) [] m' (el s u++kp e' ks) (Ll s u++kl L' is) (.c y)) o (fb s)):W (G (.mk P T hT n c B0 N X Q) K m e L cf) q ((loop fb s0).bind gk):=fun hF=>
 lr u0 ks el is0 is Ll hs hF h0 fun ro h1 s u o h2 h3=>k1 h1 s u h3 h2
theorem qA{β:Type}{kf:α->Option β}{q:β}[aD α](E:CO α)(j:Nat){t:TypeId}{s:AC}{i:Int}{ls:List α}(hs:i7 T n K cf m e L=.idx o d t s ls.length i Lv cf1 cf2 K' m' e' L')(hj:L'[j]?=some (ow s ls))(hz:fJ j cf1.wR=true)
  (k:∀x,idx ls i=some x->∀y:E.ex,Shp s ls.length->W (G (.mk P T hT n c B0 N X Q) K' (m'+1) e' (L'.set j .no++([.o (qB (s.v ls.length) ls i.toNat),.box m' (E.cs x y),wOf α m' s ls.length i.toNat]++E.Lx x y)) (cf1.ext [wOf α m' s ls.length i.toNat])) q (kf x)):W (G (.mk P T hT n c B0 N X Q) K m e L cf) q ((idx ls i).bind kf):=fun hF=>oe E j hs hj hz hF fun x h1 h2 y h3=>k x h1 y h3 h2
end
noncomputable section
variable {α β ex:Type} {fo:Option α} {kf:α->Option β} {q:β} {d:Option Nat} {f:FuncId} {xs xs0:List SV} {M:List Ch} {sv:α->ex->SV} {Lr:α->ex->List Ch}
theorem J1(is:List Nat)
  (hs:cpS (i7 T n K cf m e L)=some (o,d,f,xs,cf1,cf2,K',m',e',L')) (hi:aR (fun i=>L'[i]?) is=some M) (hx:aR (rnP [] 0) xs=some xs0)
  (hk:(E3 M && (cW is && is.all fun j=>fJ j cf1.wR))=true)
  (hc:∀{κ:Ctx},HG c κ L' is->VS P κ f fo xs0 [] M sv Lr)
  (k:∀x,∀y:ex,W (G (.mk P T hT n c B0 N X Q) K' m' (ZS d (sv x y) e') (FX L' is++Lr x y) cf2) q (kf x)) (hn:∀x y,(E3 (Lr x y) && vG 0 (sv x y))=true:=by exact fun _ _=>rfl):W (G (.mk P T hT n c B0 N X Q) K m e L cf) q (fo.bind kf):=fun hF=>
 cw0 is hs hi hx hk hn (fun h _ hx=>hc h _ hx) hF fun x _ h y=>k x y h
theorem eB{c1:List SV}{a1:α->ex->List SV}(i1 n1 o1 k1:Nat)(is:List Nat)
  (hs:cpS (i7 T n K cf m e L)=some (o,d,f,xs,cf1,cf2,K',m',e',L')) (hb:aC5 L' [(i1,n1,o1,k1)]=some [c1]) (hi:aR (fun i=>L'[i]?) is=some M) (hx:aR (rnP [(i1,n1,o1,k1)] 0) xs=some xs0)
  (hk:(E3 M && ([c1].all (vG.okC 0) && (cW (i1 :: is) && (i1 :: is).all fun j=>fJ j cf1.wR)))=true)
  (hc:∀{κ:Ctx},HG c κ L' (i1 :: is)->∀{b1:Nat×Nat},VS P κ f fo xs0 [b1] (.box 0 c1 :: M) sv (fun x y=>.box 0 (a1 x y) :: Lr x y))
  (k:∀x,∀y:ex,W (G (.mk P T hT n c B0 N X Q) K' m' (ZS d (sv x y) e') (J0 L' (FX L' (i1 :: is)++Lr x y) [(i1,n1,o1,k1)] [a1 x y]) cf2) q (kf x)) (hn:∀x y,(V7 [(i1,n1,o1,k1)] [a1 x y] && ([a1 x y].all (vG.okC 0) && (E3 (Lr x y) && vG 0 (sv x y))))=true:=by exact fun _ _=>rfl):W (G (.mk P T hT n c B0 N X Q) K m e L cf) q (fo.bind kf):=fun hF=>
 cw1 i1 n1 o1 k1 is hs hb hi hx hk hn (fun h _ _ hx=>hc h _ hx) hF fun x _ h y=>k x y h
theorem aJB{c1 c2:List SV}{a1 a2:α->ex->List SV}(i1 n1 o1 k1:Nat)(i2 n2 o2 k2:Nat)(is:List Nat)
  (hs:cpS (i7 T n K cf m e L)=some (o,d,f,xs,cf1,cf2,K',m',e',L')) (hb:aC5 L' [(i1,n1,o1,k1),(i2,n2,o2,k2)]=some [c1,c2]) (hi:aR (fun i=>L'[i]?) is=some M) (hx:aR (rnP [(i1,n1,o1,k1),(i2,n2,o2,k2)] 0) xs=some xs0)
  (hk:(E3 M && ([c1,c2].all (vG.okC 0) && (cW (i1 :: i2 :: is) && (i1 :: i2 :: is).all fun j=>fJ j cf1.wR)))=true)
  (hc:∀{κ:Ctx},HG c κ L' (i1 :: i2 :: is)->∀{b1 b2:Nat×Nat},VS P κ f fo xs0 [b1,b2] (.box 0 c1 :: .box 1 c2 :: M) sv (fun x y=>.box 0 (a1 x y) :: .box 1 (a2 x y) :: Lr x y))
  (k:∀x,∀y:ex,W (G (.mk P T hT n c B0 N X Q) K' m' (ZS d (sv x y) e') (J0 L' (FX L' (i1 :: i2 :: is)++Lr x y) [(i1,n1,o1,k1),(i2,n2,o2,k2)] [a1 x y,a2 x y]) cf2) q (kf x)) (hn:∀x y,(V7 [(i1,n1,o1,k1),(i2,n2,o2,k2)] [a1 x y,a2 x y] && ([a1 x y,a2 x y].all (vG.okC 0) && (E3 (Lr x y) && vG 0 (sv x y))))=true:=by exact fun _ _=>rfl):W (G (.mk P T hT n c B0 N X Q) K m e L cf) q (fo.bind kf):=fun hF=>
 cw2 i1 n1 o1 k1 i2 n2 o2 k2 is hs hb hi hx hk hn (fun h _ _ _ hx=>hc h _ hx) hF fun x _ h y=>k x y h
theorem a5Q{c1 c2 c3:List SV}{a1 a2 a3:α->ex->List SV}(i1 n1 o1 k1:Nat)(i2 n2 o2 k2:Nat)(i3 n3 o3 k3:Nat)(is:List Nat)
  (hs:cpS (i7 T n K cf m e L)=some (o,d,f,xs,cf1,cf2,K',m',e',L')) (hb:aC5 L' [(i1,n1,o1,k1),(i2,n2,o2,k2),(i3,n3,o3,k3)]=some [c1,c2,c3]) (hi:aR (fun i=>L'[i]?) is=some M) (hx:aR (rnP [(i1,n1,o1,k1),(i2,n2,o2,k2),(i3,n3,o3,k3)] 0) xs=some xs0)
  (hk:(E3 M && ([c1,c2,c3].all (vG.okC 0) && (cW (i1 :: i2 :: i3 :: is) && (i1 :: i2 :: i3 :: is).all fun j=>fJ j cf1.wR)))=true)
  (hc:∀{κ:Ctx},HG c κ L' (i1 :: i2 :: i3 :: is)->∀{b1 b2 b3:Nat×Nat},VS P κ f fo xs0 [b1,b2,b3] (.box 0 c1 :: .box 1 c2 :: .box 2 c3 :: M) sv (fun x y=>.box 0 (a1 x y) :: .box 1 (a2 x y) :: .box 2 (a3 x y) :: Lr x y))
  (k:∀x,∀y:ex,W (G (.mk P T hT n c B0 N X Q) K' m' (ZS d (sv x y) e') (J0 L' (FX L' (i1 :: i2 :: i3 :: is)++Lr x y) [(i1,n1,o1,k1),(i2,n2,o2,k2),(i3,n3,o3,k3)] [a1 x y,a2 x y,a3 x y]) cf2) q (kf x)) (hn:∀x y,(V7 [(i1,n1,o1,k1),(i2,n2,o2,k2),(i3,n3,o3,k3)] [a1 x y,a2 x y,a3 x y] && ([a1 x y,a2 x y,a3 x y].all (vG.okC 0) && (E3 (Lr x y) && vG 0 (sv x y))))=true:=by exact fun _ _=>rfl):W (G (.mk P T hT n c B0 N X Q) K m e L cf) q (fo.bind kf):=fun hF=>
 cw3 i1 n1 o1 k1 i2 n2 o2 k2 i3 n3 o3 k3 is hs hb hi hx hk hn (fun h _ _ _ _ hx=>hc h _ hx) hF fun x _ h y=>k x y h
end
theorem aRS{α β:Type}{iR:aD α}{C:E2 α}{sr:β->SV}{g:FuncId}{w:World}{p:α->Option β}(hc:∀args w,(callFunc g args).run P w=.ok (.enter g args) w)(hn:∀{κ:Ctx} {x y},C.sub κ.S0 κ.w0 x y->V0 P κ g (p x) [C.sv x y] sr):V6 P (bZ w) C sr g [] p:=fu1 hc (by intro κ x y h q hq;exact hn h _ hq)
theorem aLD{α β:Type}{iR:aD α}{C:E2 α}{sr:β->SV}{g:FuncId}{w:World}{Bs:Bl}{cs:List (Nat×List SV)}{p:α->Option β}(hc:∀args w,(callFunc g args).run P w=.ok (.enter g args) w)(hB:∀w1,dL F0 w w1->kV (bZ w1) w1 Bs (roL 0 cs))(hl:aR (eC Bs) (aU2 0 cs)=some (M8 Bs))(hn:∀{w1 x y},dL F0 w w1->C.sub (MT w1) w1 x y->VS P (bZ w1) g (p x) (C.sv x y :: aU2 0 cs) Bs (roL 0 cs) (fun r (_:Unit)=>sr r) (fun _ _=>[]))(hz:∀q,vG 0 (sr q)=true:=by exact fun _=>rfl):V6 P (bZ w) C sr g (M8 Bs) p:=fk1 hc hB hl hz (by intro w1 x y h h' q hq;exact hn h h' _ hq)
noncomputable section
variable {α β:Type} {fo:Option α} {kf:α->Option β} {q:β} {d:Nat} {f g:FuncId} {xs:List SV} {sv:α->SV}
theorem aLE{n1:Nat}{c1:List SV}(is:List Nat)(hs:i7 T n K cf m e L=.callp o (some d) f xs cf1 cf2 K' m' e' L')(hk:kl L' is=[.ro n1 c1])(ho:(aK2 [(n1,c1)] && okA xs.dropLast)=true)(hx:xs=xs.dropLast ++ [.f g [n1]])
  (hc:∀{w},HS c w L'->∀{b1:Nat×Nat},(∀w1,dL F0 w w1->kV (bZ w1) w1 [b1] [.ro 0 c1])->V0 P (bZ w) f fo (xs.dropLast ++ [.k (.func (.func g) #[] (M8 [b1]).toArray)]) sv)
  (k:∀x,W (G (.mk P T hT n c B0 N X Q) K' m' ((d,sv x) :: e') L' cf2) q (kf x)):W (G (.mk P T hT n c B0 N X Q) K m e L cf) q (fo.bind kf):=fun hF=>
 a5H is hs hk ho hx (fun h _ h2 _ hx=>hc h h2 _ hx) hF fun x _ h=>k x h
end
end
end Go.Gv
end
noncomputable section
namespace Go.Gv
def pV(y:Nat×Nat):Value:=.pointer (some ⟨y.1,y.2,none⟩)
noncomputable section
variable {P:Program} {T:TT} {hT:D7 P T} {n:Nat} {c:Ctx} {B0:Bl} {N:Act->World->Prop} {X:Nat->Act->World->Prop} {Q:Act->World->Prop} {K K':List Fr} {m m':Nat} {e e':SE} {L L':List Ch} {cf cf1 cf2:tO} {o:Oper}
abbrev VP(P:Program)(c:Ctx)(f:FuncId){ρ:Type}(F:Option ρ)(xs:List SV)(cs:ρ->List SV):Prop:=VS P c f F xs [] [] (fun _ (y:Nat×Nat)=>.k (pV y)) (fun r y=>[.o (N7 [y] 0 (cs r))])
theorem rtP{fn:Func}{ρ:Type}{r r':ρ}{t:Nat}{hr:fn.results=[ResultVar.tmp t].toArray}{zz:Option ρ}{cs:ρ->List SV}(is:List Nat)(hz:zz=some r')(hs:i7 T n K cf m e L=.ret m' e' L')(hL:SR 0 m' e' L' is 1 [(t,.p 0 0)] [.box 0 (cs r')]=some ([(t,.p 0 0)],[.box 0 (cs r')]))(ho:vG.okC 0 (cs r')=true):W (G (.mk P T hT n c [] N X (QR P fn hr c [] (fun _ (y:Nat×Nat)=>.k (pV y)) (fun r y=>[.o (N7 [y] 0 (cs r))]) r)) K m e L cf) r zz:=fun hF=>by
 subst hz;cases hF
 refine fY (g:=.mk P T hT n c [] N X _) ?_
 rw [hs]
 intro a w hr'
 obtain⟨B,hm,hA,hS⟩:=nI.SR hr' is hL
 have hB:∃y,B=[y]:=by
  cases B with
  | nil=>simp at hm
  | cons y B => cases B with
   | nil=>exact⟨y,rfl⟩
   | cons z B=>simp at hm
 obtain⟨y,rfl⟩:=hB
 have hS:kV c w [y] [.box 0 (cs r)]:=hS
 have hA:fV n [y] [(t,.p 0 0)] a:=hA
 have hv:aIR T [(t,.p 0 0)] [.box 0 (cs r)] [ResultVar.tmp t]=some (.p 0 0):=by simp [aIR,aUA,A8]
 obtain⟨v,h1,h2⟩:=aBX hr hT hA hS hv
 have hv':v=pV y:=by
  simp only [eC,gV,bI,List.getElem?_cons_zero] at h1
  cases h1;rfl
 subst hv'
 refine⟨hA.d,_,h2,y,by simp [eC,gV,bI,pV,Value.oneCell'],?_⟩
 obtain⟨⟨R,s1,s2⟩,s0⟩:=hS
 exact⟨⟨R,s1.imp (.cons (fun F h=>h) .nil),fun x hx=>by rcases gW.1 hx with rfl | hx <;> first | trivial | simp at hx⟩,s0⟩
theorem cP{α β:Type}{fo:Option α}{kf:α->Option β}{q:β}{d:Nat}{f:FuncId}{xs:List SV}{cs:α->List SV}(hs:i7 T n K cf m e L=.call o (some d) f xs cf1 cf2 K' m' e' L')
  (hc:∀{w},HS c w L'->VP P (bZ w) f fo xs cs) (k:∀x,W (G (.mk P T hT n c B0 N X Q) K' (m'+1) ((d,.p m' 0) :: e') (L' ++ [.box m' (cs x)]) cf2) q (kf x)) (hk:∀x,vG.okC 0 (cs x)=true:=by exact fun _=>rfl):W (G (.mk P T hT n c B0 N X Q) K m e L cf) q (fo.bind kf):=fun hF=>by
 refine fY (g:=.mk P T hT n c B0 N X Q) ?_
 rw [hs]
 intro fo' args ats ho hd hf ⟨ys,hys,hxs⟩ hA0 hdn hE
 subst hxs
 cases hfo:fo with
 | none=>rw [hfo] at hF;cases hF
 | some x =>
  rw [hfo] at hF
  refine hE Unit (fun _=>m'+1) (fun _=>(d,.p m' 0) :: e') (fun _=>L' ++ [.box m' (cs x)]) (fun _=>vH _) (fun B a w next Q' hm hA hS hnext=>?_) (fun _=>k x hF)
  obtain⟨hcall,hrun⟩:=hc ⟨_,hS⟩ x hfo
  obtain⟨vs,h1,h2⟩:=T1 hA hys
  obtain⟨v,h3,h4⟩:=dR hA hf
  simp [eC,aR] at h3
  subst h3
  have h5:=hrun vs (V5 hA0 (by rw [KH];exact h1)) (aRN w)
  have h6:=M7 (w:=w) hcall ho h4 h2
  unfold Oper.wp
  rw [h6 _ a hA.env,Oper.upon_enter]
  refine Calls.mono h5 fun en w' ⟨v,hv,y,g1,g2⟩=>?_
  subst hv
  rw [hd]
  have hv':v=pV y:=by simpa [eC,gV,bI,pV,Value.oneCell'] using g1.symm
  subst hv'
  have hb:∀{F:cB},(N7 [y] 0 (cs x)).P w' F->(N7 ((T0 (.mk P T hT n c B0 N X Q) cf1++B) ++ [y]) m' (cs x)).P w' F:=fun⟨b,z,us,k1,k2,k3⟩=>by
   simp only [List.getElem?_cons_zero,Option.some.injEq] at k1
   refine⟨y.1,y.2,us,?_,?_,by rw [k1];exact k3⟩
   ·rw [DI (by omega),hm];simp
   ·simpa using dW (fun x v h=>by simpa using eX (B:=[]) (T0 (.mk P T hT n c B0 N X Q) cf1++B ++ [y]) h) (yJ (hk x) k2)
  have g3:eC ((T0 (.mk P T hT n c B0 N X Q) cf1++B) ++ [y]) (.p m' 0)=some (pV y):=by
   simp only [eC,gV,bI]
   rw [DI (by omega),hm]
   simp [pV]
  refine hnext () _ _ ⟨[y],by simp only [rD,GU,aKM] at hm ⊢;omega,hA.ext g3 (hA.env.put (by simpa [oY,mQ] using hdn) _),?_⟩
  obtain⟨⟨R,s1,s2⟩,s0⟩:=(hS.after (L2:=[.o (N7 [y] 0 (cs x))]) rfl g2).app [y]
  refine⟨⟨R,s1.imp ?_,fun z hz=>?_⟩,s0⟩
  ·rw [wI,wI]
   exact iV.append (iV.refl _) (.cons (fun F h=>hb h) .nil)
  ·rcases gC.1 hz with hz | hz
   ·exact s2 z (ZA _ hz)
   ·rcases gW.1 hz with rfl | hz <;> first | trivial | simp at hz
def a1Y(b:Bool)(off sz:Nat)(cs:List SV):Option SV:=match b with
 | true=>some (.g ((cs.drop off).take sz))
 | false => match cs[off]? with
  | some x => match x with
   | .g _=>none
   | .t _=>none
   | .f _ _=>none
   | .u=>none
   | y=>some y
  | none=>none
theorem a5R{α:Type}{F0:Option α}{q:α}{t ix sz d:Nat}{b:Bool}{k:TK}{z cs:List SV}{Fs:Array Field}{F:Field}{x:Operand}{r:SV}{Lv:List Ch}(hu:P.underlying t=some (.struct Fs))(hf:Fs[ix]?=some F)(hl:AQ T F.type=some ⟨k,b,sz,z⟩)(hs:opS (i7 T n K cf m e L)=some (o,Lv,cf1,cf2,K',m',e',L'))(ho:(o.op,o.dst)=(.field t x ix,some d))(hx:hU e' x=some (.g cs))(hr:a1Y b F.offset sz cs=some r)(hz:(!b || Nat.ble (F.offset+sz) cs.length)=true)
  (kk:W (G (.mk P T hT n c B0 N X Q) K' m' ((d,r) :: e') L' cf2) q F0):W (G (.mk P T hT n c B0 N X Q) K m e L cf) q F0:=fun hF=>
 pu hs (congrArg Prod.snd ho) (fun B a w hA _=>by
  obtain⟨v,h1,h2⟩:=dR hA hx
  simp only [eC,gV] at h1
  split at h1
  case h_2=>cases h1
  rename_i vs hv
  cases h1
  have hlen:=j3 hv
  have h0:o.op=.field t x ix:=congrArg Prod.fst ho
  have hag:=hT.agg _ _ hl
  have hsz:=hT.size _ _ hl
  cases b with
  | true =>
   have hz':=tQ (by simpa using hz)
   simp only [a1Y] at hr;cases hr
   refine⟨.agg ((vs.drop F.offset).take sz).toArray,by simp only [eC,gV,M5 sz (M4 F.offset hv)],fun _ a hA=>?_⟩
   have e:vs.toArray.extract F.offset (F.offset+sz)=((vs.drop F.offset).take sz).toArray:=by
    apply Array.ext'
    simp [List.extract_eq_take_drop]
   simp [execOp,h0,hA.eval h2,Instr.field,run_underlying hu,hf,part,asAgg,hag,hsz,e]
  | false =>
   simp only [a1Y] at hr
   split at hr
   case h_2=>cases hr
   rename_i y hy
   obtain⟨u,h4,h5⟩:=M3 hv hy
   have hr':r=y:=by cases y <;> simp at hr <;> exact hr.symm
   subst hr'
   refine⟨u,aPT h4,fun _ a hA=>?_⟩
   simp [execOp,h0,hA.eval h2,Instr.field,run_underlying hu,hf,part,asAgg,hag,h5]) (kk hF)
end
end Go.Gv
end
noncomputable section
namespace Go.Gv
noncomputable section
variable {n:Nat} {c:Ctx} {B0:Bl} {m:Nat} {e:SE} {L:List Ch}
def kf(L xs:List Ch)(k:Nat):List Nat->List Ch
 | []=>[]
 | i :: is => match Nat.blt i k with
  | true => match L[i]? with
   | some x=>x :: kf L xs k is
   | none=>kf L xs k is
  | false => match xs[i - k]? with
   | some x=>x :: kf L xs k is
   | none=>kf L xs k is
end
end Go.Gv
end
noncomputable section
namespace Go.Gv
noncomputable section
variable {P:Program} {T:TT} {hT:D7 P T} {n:Nat} {c:Ctx} {B0:Bl} {N:Act->World->Prop} {X:Nat->Act->World->Prop} {Q:Act->World->Prop} {K K':List Fr} {m m':Nat} {e e':SE} {L L' Lv:List Ch} {cf cf' cf1 cf2:tO} {o:Oper}
theorem aLF{α β:Type}{f:α->Option β}:∀{xs ys:List α} {vs:List β},aR f (xs++ys)=some vs->∃v1 v2,aR f xs=some v1/\aR f ys=some v2/\vs=v1++v2
 | [],ys,vs,h=>⟨[],vs,rfl,h,rfl⟩
 | x :: xs, ys, vs, h => by
  simp only [TW,aR] at h
  split at h
  ·cases h
  ·rename_i h1
   split at h
   ·cases h
   ·rename_i h2
    cases h
    obtain⟨v1,v2,q1,q2,rfl⟩:=aLF h2
    exact⟨_ :: v1,v2,by simp [aR,h1,q1],q2,rfl⟩
theorem aLG{α β:Type}{f:α->Option β}:∀{xs ys:List α} {v1 v2:List β},aR f xs=some v1->aR f ys=some v2->aR f (xs++ys)=some (v1++v2)
 | [],ys,v1,v2,h1,h2=>by cases h1;exact h2
 | x :: xs, ys, v1, v2, h1, h2 => by
  simp only [aR] at h1
  split at h1
  ·cases h1
  ·rename_i g1
   split at h1
   ·cases h1
   ·rename_i g2
    cases h1
    simp [aR,g1,aLG g2 h2]
theorem a5S{α β:Type}{iR:aD α}{C:E2 α}{sr:β->SV}{g:FuncId}{κ:Ctx}{b1:Nat×Nat}{c1:List SV}{p:α->Option β}(hc:∀args w,(callFunc g args).run P w=.ok (.enter g args) w)(hB:∀w1,dL κ.W κ.w0 w1->kV (bZ w1) w1 [b1] [.ro 0 c1])
  (hn:∀{w1 x y},C.sub (MT w1) w1 x y->VS P (bZ w1) g (p x) [C.sv x y,.p 0 0] [b1] [.ro 0 c1] (fun r (_:Unit)=>sr r) (fun _ _=>[])) (hz:∀q,vG 0 (sr q)=true:=by exact fun _=>rfl):V6 P κ C sr g (M8 [b1]) p:=
 ⟨hc,fun w1 hk x y hy q hq v hv=>by
  have hv':eC [b1] (C.sv x y)=some v:=by simpa using sW (B:=[]) [b1] hv
  have hl:eC [b1] (.p 0 0)=some (.pointer (some ⟨b1.1,b1.2,none⟩)):=by simp [eC,gV,bI]
  refine Calls.mono ((hn hy _ hq).run (v :: M8 [b1]) (by simp [aR,hv',hl,M8]) (hB w1 hk)) fun en w' ⟨v',h1,y',h2,h3⟩=>⟨v',h1,?_,?_⟩
  ·exact aHS (hz q) h2
  ·simpa using V2 (m:=0) h3 rfl⟩
theorem a5T{α β ex:Type}{fo:Option α}{kf:α->Option β}{q:β}{d:Option Nat}{f g:FuncId}{xs xs0:List SV}{M:List Ch}{sv:α->ex->SV}{Lr:α->ex->List Ch}{n1:Nat}{c1:List SV}(jc:Nat)(is:List Nat)
  (hs:cpS (i7 T n K cf m e L)=some (o,d,f,xs,cf1,cf2,K',m',e',L')) (hro:L'[jc]?=some (.ro n1 c1)) (hi:aR (fun i=>L'[i]?) is=some M) (hxl:xs=xs.dropLast ++ [.f g [n1]]) (hx:aR (rnP [] 0) xs.dropLast=some xs0)
  (hk:(vG.okC 0 c1 && (E3 M && (cW is && is.all fun j=>fJ j cf1.wR)))=true)
  (hc:∀{κ:Ctx},HG c κ L' is->∀{b1:Nat×Nat},(∀w1,dL κ.W κ.w0 w1->kV (bZ w1) w1 [b1] [.ro 0 c1])->VS P κ f fo (xs0 ++ [.k (.func (.func g) #[] (M8 [b1]).toArray)]) [] M sv Lr)
  (k:∀x,∀y:ex,W (G (.mk P T hT n c B0 N X Q) K' m' (ZS d (sv x y) e') (FX L' is++Lr x y) cf2) q (kf x)) (hn:∀x y,(E3 (Lr x y) && vG 0 (sv x y))=true:=by exact fun _ _=>rfl):W (G (.mk P T hT n c B0 N X Q) K m e L cf) q (fo.bind kf):=fun hF=>by
 refine fY (g:=.mk P T hT n c B0 N X Q) (aVE hs ?_)
 intro fo' args ats ho hd hf ⟨ys,hys,hxs⟩ hdn hE
 simp only [zP] at hk hn
 obtain⟨hk1,hkM,hka,hkz⟩:=hk
 cases hfo:fo with
 | none=>rw [hfo] at hF;cases hF
 | some x =>
  rw [hfo] at hF
  refine hE ex (fun _=>m') (fun y=>ZS d (sv x y) e') (fun y=>FX L' is++Lr x y) (fun y=>N9 _ hkz) (fun B a w next Q' hm hA hS hnext=>?_) (fun y=>k x y hF)
  generalize hBB:T0 (.mk P T hT n c B0 N X Q) cf1++B=BB at hm hA hS hnext
  obtain⟨⟨R,s1,s2⟩,s0⟩:=hS
  have f1:=s1.front is hka
  rw [KK hi] at f1
  obtain⟨κ,k1,k2,k3,k4,k5,k6,k7⟩:=f1.a0F s0
  subst k1
  have hHG:HG c κ L' is:=by
   refine⟨fun{α} _ {s d} h=>k4 (zQ [s.v d.length] d) h,fun{α} _ {s d} i hi hj=>?_,fun{α} _ {s d} i hi=>k5 _ (s2 _ (tP hi))⟩
   have:(blank (L'.map (jN BB)) is)[i]?=some (aZ [s.v d.length] d):=by
    rw [X2 (X9 hj),DJ,hi];rfl
   exact k6 _ (tP this) (zQ [s.v d.length] d) fun w F h=>aD.own_rd h
  obtain⟨b,z,vs1,g1,g2,g3⟩:=s2 _ (tP hro)
  have hc0:=yJ hk1 g2
  rw [VT] at hc0
  have hB:∀w1,dL κ.W κ.w0 w1->kV (bZ w1) w1 [(b,z)] [.ro 0 c1]:=fun w1 hkp=>by
   have h1:=k5 _ g3
   have h2:(fAt b z vs1).P κ.S0 w1:=(fAt b z vs1).agree h1 fun b' o' hS=>hkp.cell b' o' (k2 b' o' hS) fun hw=>k3.apart b' o' hw hS
   have h3:(fAt b z vs1).P (MT w1) w1:=(fAt b z vs1).mono h2 fun b' o' hS=>MS (k2 b' o' hS) hkp.size
   have h4:St (bZ w1) w1 [] [fAt b z vs1]:=St.enter (by simpa using h3)
   refine⟨⟨[fAt b z vs1],St.more (ch:=FT) h4 (dL.refl _ _) ⟨F0,fun _ _ h=>h,fun _ _ h=>h.elim⟩,fun x hx=>?_⟩,fun _ _ h=>h⟩
   simp at hx;subst hx
   exact⟨b,z,vs1,by simp,dW (fun x v h=>by simpa using eX (B:=[]) _ h) hc0,by simp⟩
  obtain⟨hcall,hrun⟩:=hc hHG hB x hfo
  obtain⟨vs,h1,h2⟩:=T1 hA hys
  obtain⟨v,h3,h4⟩:=dR hA hf
  simp [eC,aR] at h3
  subst h3
  have h1':aR (eC BB) xs=some vs:=by rw [<-hxs,KH];exact h1
  have hvs:aR (eC []) (xs0 ++ [.k (.func (.func g) #[] (M8 [(b,z)]).toArray)])=some vs:=by
   rw [hxl] at h1'
   obtain⟨va,vb,q1,q2,rfl⟩:=aLF h1'
   have q3:=aI7 (Bs:=[]) (ps:=[]) (ds:=[]) (pv:=[]) (L:=L') (B:=BB) trivial (fun i=>by simp [blP]) hx q1
   simp only [aR,eC,gV,N6,g1] at q2
   cases q2
   exact aLG q3 (by simp [aR,eC,gV,bI,M8];rfl)
  have hst:kV κ κ.w0 [] M:=by
   refine⟨⟨[],?_,fun x hx=>?_⟩,k2⟩
   ·rw [Q6 (B':=BB) hkM];exact k3
   ·exact Q7 hkM x hx
  have h5:=hrun vs hvs hst
  have h6:=M7 (w:=κ.w0) hcall ho h4 h2
  unfold Oper.wp
  rw [h6 _ a hA.env,Oper.upon_enter]
  refine Calls.mono h5 fun en w' ⟨v,hv,y,g1,g2⟩=>?_
  subst hv
  obtain⟨n3,n4⟩:=hn x y
  have g3:=sW BB (aHS n4 g1)
  rw [aCG] at g3
  obtain⟨⟨R',t1,t2⟩,t0⟩:=g2
  have t3:St κ w' ((Lr x y).map (jN BB)) R':=by rw [<-Q6 (B:=[]) n3];exact t1
  have t4:=k7 w' _ R' t3
  have t6:kV c w' BB (FX L' is++Lr x y):=by
   refine⟨⟨R,?_,fun z hz=>?_⟩,s0⟩
   ·rw [wI,D8]
    exact t4.rot
   ·rcases gC.1 hz with hz | hz
    ·rcases KJ _ _ hz with hz | hz
     ·exact s2 z hz
     ·subst hz;trivial
    ·exact Q7 n3 z hz
  rw [hd]
  cases d with
  | none=>exact hnext y _ _ ⟨[],by simpa using hm,by simpa [ZS,Act.put] using hA,by simpa using t6⟩
  | some d=>exact hnext y _ _ ⟨[],by simpa using hm,by simpa [ZS] using hA.of g3 (hA.env.put (by simpa [oY,mQ] using hdn) v),by simpa using t6⟩
end
end Go.Gv
end
noncomputable section
namespace Go.Gv
def vI(l:List Int):List Int:=l.foldl (fun a x=>if a.getLast?=some x then a else a ++ [x]) []
theorem YA(l:List Int)(x:Int):vI (l ++ [x])=if (vI l).getLast?=some x then vI l else vI l ++ [x]:=by
 unfold vI;rw [List.foldl_append];rfl
theorem aRT:∀(l:List Int),(vI l).getLast?=l.getLast?:=by
 intro l
 rcases List.eq_nil_or_concat l with rfl | ⟨l,x,rfl⟩
 ·rfl
 ·rw [List.concat_eq_append,YA]
  split
  ·rename_i h;rw [h];simp
  ·simp
theorem aY1(l:List Int):(vI l).length<=l.length:=by
 suffices h:∀(l a:List Int),(l.foldl (fun a x=>if a.getLast?=some x then a else a ++ [x]) a).length<=a.length+l.length by
  have:=h l []
  rw [aKM,AM] at this
  exact this
 intro l
 induction l with
 | nil=>intro a;simp
 | cons x l ih =>
  intro a
  rw [List.foldl_cons]
  refine sS (ih _) ?_
  split
  ·simp
  ·simp;omega
def slices_Compact_int(s:List Int):Option (List Int):=some (vI s)
end Go.Gv
end
noncomputable section
namespace Go.Gv
theorem aQN(l:List Int):Lib.compact l=vI l:=by
 have h:∀m,m<=l.length->Lib.compactUpTo l.toArray m=vI (l.take m):=by
  intro m
  induction m with
  | zero=>intro _;rfl
  | succ m ih =>
   intro hm
   have hm':m < l.length:=hm
   rw [Lib.compactUpTo_succ,ih (by omega),TZ hm',YA,aRT]
   have e1:l.toArray[m]! = l[m]:=by simp [hm']
   have key:(Lib.keeps l.toArray m=true)↔¬(l.take m).getLast?=some l[m]:=by
    cases m with
    | zero=>simp [Lib.keeps]
    | succ k =>
     have e2:l.toArray[k]! = l[k]:=by simp [show k < l.length by omega]
     rw [TZ (by omega:k < l.length),List.getLast?_concat]
     simp only [Lib.keeps,decide_eq_true_eq,e1,Nat.add_sub_cancel,e2]
     simp [eq_comm]
   rw [e1]
   by_cases hk:Lib.keeps l.toArray m=true
   ·rw [if_pos hk,if_neg (key.1 hk)]
   ·rw [if_neg hk,if_pos (Decidable.not_not.1 fun hh=>hk (key.2 hh)),xG]
 have:=h l.length (jA _)
 rw [Q0] at this
 exact this
open Go.Sort in
theorem aLH{w:World}{b off q:Nat}{d0 d:Array Int}(h0:Holds (Value.int .i64) w b off d0)(hs:d.size=d0.size):dL (dK b off d.size) w (putRow (Value.int .i64) (Sort.ahead w q) b off d):=by
 have hc:∀b' o,b' < w.heap.size->¬dK b off d.size b' o->(putRow (Value.int .i64) (Sort.ahead w q) b off d).cell? ⟨b',o,none⟩=w.cell? ⟨b',o,none⟩:=fun b' o _ hn=>by
  rw [cell?_putRow_other _ _ _ _ _ _ (by
   by_cases e:b'=b
   ·right
    by_cases h1:o < off
    ·exact .inl h1
    ·right
     by_cases h2:o < off+d.size
     ·exact absurd ⟨e,by omega,h2⟩ hn
     ·show off+d.size<=o;omega
   ·exact .inl e)]
  rfl
 refine⟨rfl,rfl,rfl,by simp,fun b' hb hn=>?_,hc,fun b' o _=>by rw [frozen?_putRow];rfl,fun b' o h=>?_⟩
 ·show (w.heap.modify b _)[b']? = _
  rw [Array.getElem?_modify]
  split
  ·rename_i e
   subst e
   have hz:d.size=0:=by
    rcases Nat.eq_zero_or_pos d.size with h | h
    ·exact h
    ·exact absurd ⟨rfl,jA _,by omega⟩ (hn off)
   cases hh:w.heap[b]? with
   | none=>rfl
   | some o =>
    cases o with
    | cells c e fr =>
     simp only [KC,onCells]
     have:putCells (Value.int .i64) off d c=c:=by
      apply Array.ext_getElem?
      intro k
      simp only [putCells,Array.getElem?_mapIdx,hz]
      cases c[k]? with
      | none=>rfl
      | some y=>simp only [KC];rw [if_neg (by omega)]
     rw [this]
    | _=>rfl
  ·rfl
 ·by_cases hn:dK b off d.size b' o
  ·obtain⟨rfl,h1,h2⟩:=hn
   have:=cell?_putRow (Value.int .i64) (Sort.ahead w q) b' off d0 d h0 hs (o - off) (by omega)
   rw [show off+(o - off)=o from by omega] at this
   rw [this];rfl
  ·rw [hc b' o (iS h) hn];exact h
open Go.Proofs in
theorem a5U{P:Program}{ρ:_}{κ:Ctx}(Ly:Lays2.n20 P ρ)(hcall:∀args w,(callFunc (ρ.f 20) args).run P w=.ok (.enter (ρ.f 20) args) w){s:List Int}{s1:AC}:VS P κ (ρ.f 20) (slices_Compact_int s) [.h s1 s.length] [] [ow s1 s] (fun r (y:AC)=>.h y r.length) (fun r y=>[ow y r]):=fun r hr=>by
 cases hr
 refine⟨hcall,fun vs hv hS=>?_⟩
 simp [aR,eC,gV,bI] at hv
 subst hv
 obtain⟨⟨R,h1,h2⟩,h0⟩:=hS
 have h1:St κ κ.w0 [aZ [s1.v s.length] s] R:=by simpa [jN] using h1
 obtain⟨F,hF⟩:=h1.chunk 0 rfl
 have hF:aD.own κ.w0 [s1.v s.length] s F:=hF
 obtain⟨a,cp,he,hl1,hl2,hrest⟩:=(show E1 κ.w0 _ s F from hF)
 obtain⟨sa,sc⟩:=s1
 simp only [AC.v,List.cons.injEq,Value.slice.injEq,and_true,true_and] at he
 obtain⟨rfl,rfl⟩:=he
 rcases hrest with ⟨rfl,rfl,hno⟩ | ⟨b,off,Fs,rfl,hrow,hel,hdj,hdr,hFF⟩
 ·have hs:s=[]:=lM (by omega)
  subst hs
  refine(Any.slices_Compact_int_empty Ly none 0 κ.w0).mono ?_
  rintro e w' ⟨rfl,rfl⟩
  exact⟨_,rfl,⟨none,0⟩,by simp [eC,gV,bI,AC.v,vI],⟨R,by simpa [jN,AC.v,vI] using h1,fun x hx=>by simp at hx;subst hx;trivial⟩,h0⟩
 ·have hn:aD.n Int=1:=rfl
  have hH:Sort.Holds (Value.int .i64) κ.w0 b off s.toArray:=fun j hj=>by
   have hj':j < s.length:=by simpa using hj
   obtain⟨ec,c1,c2⟩:=hel j hj'
   have c3:ec=[Value.int .i64 s[j]]:=(show _=_/\_ from c2).1
   have:=c1 0 (.int .i64 s[j]) (by rw [c3];rfl)
   rw [hn,Nat.mul_one,KB] at this
   refine⟨by rw [this];simp [hj'],(hrow (off+j) ⟨rfl,by omega,by rw [hn];omega⟩).2⟩
  have hlen:(Lib.compact s).length<=s.length:=by
   rw [aQN];exact aY1 s
  refine(Any.slices_Compact_int Ly b off sc s κ.w0 hH (sS hl1 (sS hl2 (by decide))) hl1).mono ?_
  rintro e w' ⟨rfl,q,rfl⟩
  rw [aQN] at hlen ⊢
  have hsz:(vI s++List.replicate (s.length - (vI s).length) 0).toArray.size=s.toArray.size:=by simp;omega
  have hsa:s.toArray.size=s.length:=by simp
  have hK:=aLH (q:=q) hH hsz
  refine⟨_,rfl,⟨some ⟨b,off,none⟩,sc⟩,by simp [eC,gV,bI,AC.v],⟨R,?_,by simp [roF]⟩,h0⟩
  have := h1.VU (w' := Sort.putRow (Value.int .i64) (Sort.ahead κ.w0 q) b off (vI s ++ List.replicate (s.length - (vI s).length) 0).toArray) (ch' := aZ [(⟨some ⟨b, off, none⟩, sc⟩ : AC).v (vI s).length] (vI s)) 0 rfl fun F2 hF2 => by
   have hF2:aD.own κ.w0 [_] s F2:=hF2
   obtain⟨a',cp',he',_,_,hrest'⟩:=(show E1 κ.w0 _ s F2 from hF2)
   simp only [AC.v,List.cons.injEq,Value.slice.injEq,and_true,true_and] at he'
   obtain⟨rfl,rfl⟩:=he'
   rcases hrest' with ⟨h,_⟩ | ⟨b',off',Fs',h,hrow',hel',hdj',hdr',hFF'⟩
   ·cases h
   ·cases h
    have hemp:∀i (hi:i < s.length) b' o,¬Fs' i b' o:=fun i hi b' o h=>by
     obtain⟨ec,_,c2⟩:=hel' i hi
     exact(show _/\∀b o,¬Fs' i b o from c2).2 b' o h
    refine⟨dK b off (sc * 1),dK b off (vI s++List.replicate (s.length - (vI s).length) 0).toArray.size,hK,fun b' o h=>(hFF' b' o).2 (.inl ?_),?_,fun b' o h=>.inl ((hFF' b' o).2 (.inl h))⟩
    ·obtain⟨h3,h4,h5⟩:=h
     exact⟨h3,h4,by rw [hsz,hsa] at h5;rw [hn];omega⟩
    ·refine⟨_,sc,rfl,by omega,hl2,.inr ⟨b,off,fun _=>F0,rfl,fun o ho=>?_,fun i hi=>?_,fun _ _ _ _ _ _ _ h _=>h,fun _ _ _ _ h _=>h,fun b' o=>by simp [F0,hn]⟩⟩
     ·have:=hrow' o ho
      exact⟨hK.stay b o this.1,(hK.wR b o (iS this.1)).trans this.2⟩
     ·refine⟨[.int .i64 (vI s)[i]],fun j v hj=>?_,rfl,fun _ _ h=>h⟩
      have hj0:j=0:=by
       have:=(iE.1 hj).1
       simp at this;exact this
      subst hj0
      simp at hj;subst hj
      rw [hn,Nat.mul_one,KB]
      have:=Sort.cell?_putRow (Value.int .i64) (Sort.ahead κ.w0 q) b off s.toArray (vI s++List.replicate (s.length - (vI s).length) 0).toArray hH hsz i (by rw [hsz];simp;omega)
      rw [this]
      congr 2
      have hlt:i < (vI s++List.replicate (s.length - (vI s).length) 0).length:=by simp;omega
      rw [getElem!_pos _ i (by simpa using hlt)]
      show(vI s++List.replicate (s.length - (vI s).length) 0)[i]=_
      rw [List.getElem_append_left hi]
  simpa [jN] using this
end Go.Gv
end
noncomputable section
namespace Go.Gv
theorem fkP{P:Program}{α β:Type}{iR:aD α}{C:E2 α}{sr:β->SV}{g:FuncId}{w:World}{Bs:Bl}{L0:List Ch}{xs:List SV}{cap:List Value}{p:α->Option β}(hc:∀args w,(callFunc g args).run P w=.ok (.enter g args) w)(hB:∀w1,dL F0 w w1->kV (bZ w1) w1 Bs L0)(hl:aR (eC Bs) xs=some cap)
  (hn:∀{w1 x y},dL F0 w w1->C.sub (MT w1) w1 x y->VS P (bZ w1) g (p x) (C.sv x y :: xs) Bs L0 (fun r (_:Unit)=>sr r) (fun _ _=>[])) (hz:∀q,vG 0 (sr q)=true:=by exact fun _=>rfl):V6 P (bZ w) C sr g cap p:=
 ⟨hc,fun w1 hk x y hy q hq v hv=>by
  have hv':eC Bs (C.sv x y)=some v:=by simpa using sW (B:=[]) Bs hv
  refine Calls.mono ((hn hk hy q hq).run (v :: cap) (by simp [aR,hv',hl]) (hB w1 hk)) fun en w' ⟨v',h1,y',h2,h3⟩=>⟨v',h1,?_,?_⟩
  ·exact aHS (hz q) h2
  ·simpa using V2 (m:=0) h3 rfl⟩
theorem aY2{c:Ctx}{w:World}{B:Bl}{L:List Ch}{n1 n2 n3:Nat}{c1 c3:List SV}{b1 b2:Nat×Nat}(hS:kV c w B L)(h1:Ch.ro n1 c1∈L)(h2:Ch.ro n2 [.p n3 0]∈L)(h3:Ch.ro n3 c3∈L)(o1:vG.okC 0 c1=true)(o3:vG.okC 0 c3=true)(g1:B[n1]?=some b1)(g2:B[n2]?=some b2) :
  ∃b3:Nat×Nat,∀w1,dL F0 w w1->kV (bZ w1) w1 [b1,b2,b3] [.ro 0 c1,.ro 1 [.p 2 0],.ro 2 c3]:=by
 obtain⟨⟨R,s1,s2⟩,s0⟩:=hS
 obtain⟨p1,z1,v1,e1,m1,f1⟩:=s2 _ h1
 obtain⟨p2,z2,v2,e2,m2,f2⟩:=s2 _ h2
 obtain⟨p3,z3,v3,e3,m3,f3⟩:=s2 _ h3
 rw [g1] at e1;cases e1
 rw [g2] at e2;cases e2
 simp only [aR,bI,e3] at m2
 cases m2
 have q1:=yJ o1 m1
 have q3:=yJ o3 m3
 rw [VT] at q1 q3
 refine⟨(p3,z3),fun w1 hkp=>?_⟩
 have fct:∀f∈R,f.P (MT w1) w1:=fun f hf=>by
  obtain⟨i,hi⟩:=aCD hf
  exact aZ5 (s1.fact i hi) hkp
 refine⟨⟨[fAt p1 z1 v1,fAt p2 z2 [.pointer (some ⟨p3,z3+0,none⟩)],fAt p3 z3 v3],?_,?_⟩,fun _ _ h=>h⟩
 ·have h4:St (bZ w1) w1 [] [fAt p1 z1 v1,fAt p2 z2 [.pointer (some ⟨p3,z3+0,none⟩)],fAt p3 z3 v3]:=St.enter (by
   intro f hf
   simp only [gW,MR,or_false] at hf
   rcases hf with rfl | rfl | rfl
   ·exact fct _ f1
   ·exact fct _ f2
   ·exact fct _ f3)
  have more:∀{M:List Chunk} {R:List Fact},St (bZ w1) w1 M R->St (bZ w1) w1 (M ++ [FT]) R:=fun h=>St.more (ch:=FT) h (dL.refl _ _) ⟨F0,fun _ _ h=>h,fun _ _ h=>h.elim⟩
  exact more (more (more h4))
 ·intro x hx
  simp only [gW,MR,or_false] at hx
  rcases hx with rfl | rfl | rfl
  ·exact⟨p1,z1,v1,rfl,dW (fun x v h=>by simpa using eX (B:=[]) [(p1,z1),(p2,z2),(p3,z3)] h) q1,by simp⟩
  ·exact⟨p2,z2,_,rfl,rfl,by simp⟩
  ·exact⟨p3,z3,v3,rfl,dW (fun x v h=>by simpa using eX (B:=[]) [(p1,z1),(p2,z2),(p3,z3)] h) q3,by simp⟩
noncomputable section
variable {P:Program} {T:TT} {hT:D7 P T} {n:Nat} {c:Ctx} {B0:Bl} {N:Act->World->Prop} {X:Nat->Act->World->Prop} {Q:Act->World->Prop} {K K':List Fr} {m m':Nat} {e e':SE} {L L':List Ch} {cf cf1 cf2:tO} {o:Oper} {Lv:List Ch} {d:Nat}
theorem a5V{α β:Type}{fo:Option α}{kf:α->Option β}{q:β}{f g:FuncId}{xs:List SV}{sv:α->SV}{n1 n2 n3:Nat}{c1 c3:List SV}(is:List Nat)(hs:i7 T n K cf m e L=.callp o (some d) f xs cf1 cf2 K' m' e' L')(hk:kl (shr [n3] L') is=[.ro n1 c1,.ro n2 [.p n3 0],.ro n3 c3])(ho:((vG.okC 0 c1 && vG.okC 0 c3) && okA xs.dropLast)=true)(hx:xs=xs.dropLast ++ [.f g [n1,n2]])
  (hc:∀{w},HS c w L'->∀{b1 b2 b3:Nat×Nat},(∀w1,dL F0 w w1->kV (bZ w1) w1 [b1,b2,b3] [.ro 0 c1,.ro 1 [.p 2 0],.ro 2 c3])->∀{x},fo=some x->Fn0 P f (bZ w) (xs.dropLast ++ [.k (.func (.func g) #[] (M8 [b1,b2]).toArray)]) sv x) (hF:fo.bind kf=some q)
  (k:∀x,fo=some x->kf x=some q->G (.mk P T hT n c B0 N X Q) K' m' ((d,sv x) :: e') L' cf2):G (.mk P T hT n c B0 N X Q) K m e L cf:=by
 refine fY (g:=.mk P T hT n c B0 N X Q) ?_
 rw [hs]
 intro fo' args ats ho' hd hf ⟨ys,hys,hxs⟩ hdn hE
 rw [zP] at ho
 cases hfo:fo with
 | none=>rw [hfo] at hF;cases hF
 | some x =>
  rw [hfo] at hF
  refine hE Unit (fun _=>m') (fun _=>(d,sv x) :: e') (fun _=>L') (fun _=>by simpa using vH (L:=L') []) (fun B a w next Q' hm hA hS hnext=>?_) (fun _=>k x hfo hF)
  obtain⟨vs,h1,h2⟩:=T1 hA hys
  obtain⟨v,h3,h4⟩:=dR hA hf
  simp [eC,aR] at h3
  subst h3
  rw [<-KH,hxs] at h1
  rw [hx] at h1
  have split:∀{qs:List SV} {b:SV} {vs:List Value} {B:Bl},aR (eC B) (qs ++ [b])=some vs->∃us v,aR (eC B) qs=some us/\eC B b=some v/\vs=us ++ [v]:=by
   intro qs
   induction qs with
   | nil =>
    intro b vs B h
    simp only [aCG,aR] at h
    split at h
    ·cases h
    ·rename_i v hv;cases h;exact⟨[],v,rfl,hv,rfl⟩
   | cons a qs ih =>
    intro b vs B h
    simp only [TW,aR] at h
    split at h
    ·cases h
    ·rename_i u hu
     split at h
     ·cases h
     ·rename_i us' hus
      cases h
      obtain⟨us,v,g1,g2,rfl⟩:=ih hus
      exact⟨u :: us,v,by simp [aR,hu,g1],g2,rfl⟩
  obtain⟨us,fv,g1,g2,rfl⟩:=split h1
  simp only [eC] at g2
  split at g2
  ·rename_i cap hcap
   cases g2
   obtain⟨Bs,b1,b2,b3⟩:=aU3 (cs:=[(n1,c1),(n2,[.p n3 0])]) hcap
   subst b1
   obtain⟨d1,d2,rfl⟩:∃d1 d2,Bs=[d1,d2]:=by
    match Bs,b2 with
    | [d1,d2],_=>exact⟨d1,d2,rfl⟩
   have hmem:∀x∈[Ch.ro n1 c1,.ro n2 [.p n3 0],.ro n3 c3],x∈shr [n3] L':=fun x hx=>aCZ (is:=is) (by rw [hk];exact hx)
   rw [zP] at ho
   obtain⟨q1,y1,y2⟩:=b3 0 n1 c1 rfl
   obtain⟨q2,y3,y4⟩:=b3 1 n2 _ rfl
   simp at y1 y3
   subst y1 y3
   obtain⟨d3,hst⟩:=aY2 (n3:=n3) (c1:=c1) (c3:=c3) (aI1 [n3] [] L' hS) (hmem (.ro n1 c1) (by simp)) (hmem (.ro n2 [.p n3 0]) (by simp)) (hmem (.ro n3 c3) (by simp)) ho.1.1 ho.1.2 y2 y4
   obtain⟨hcall,hrun⟩:=hc ⟨_,hS⟩ hst hfo
   have join:∀{qs:List SV} {us:List Value} {b:SV} {v:Value},aR (eC []) qs=some us->eC [] b=some v->aR (eC []) (qs ++ [b])=some (us ++ [v]):=by
    intro qs
    induction qs with
    | nil=>intro us b v h hb;cases h;simp [aR,hb]
    | cons a qs ih =>
     intro us b v h hb
     simp only [aR] at h
     split at h
     ·cases h
     ·rename_i u hu
      split at h
      ·cases h
      ·rename_i us' hus;cases h;simp [aR,hu,ih hus hb]
   have h5:=hrun (us ++ [.func (.func g) #[] (M8 [d1,d2]).toArray]) (join (V5 ho.2 g1) (by simp [eC,gV,bI,Value.oneCell'])) (aRN w)
   have h6:=M7 (w:=w) hcall ho' h4 h2
   unfold Oper.wp
   rw [h6 _ a hA.env,Oper.upon_enter]
   refine Calls.mono h5 fun en w' ⟨v,hv,y,e1,e2⟩=>?_
   subst hv
   rw [hd]
   have g3:=sW (T0 (.mk P T hT n c B0 N X Q) cf1++B) e1
   exact hnext () _ _ ⟨[],by simpa using hm,by simpa using hA.of (by simpa using g3) (hA.env.put (by simpa [oY,mQ] using hdn) v),by simpa using hS.after (L2:=[]) rfl e2⟩
  ·cases g2
theorem clP{α β:Type}{fo:Option α}{kf:α->Option β}{q:β}{f g:FuncId}{xs:List SV}{sv:α->SV}{n1 n2 n3:Nat}{c1 c3:List SV}(is:List Nat)(hs:i7 T n K cf m e L=.callp o (some d) f xs cf1 cf2 K' m' e' L')(hk:kl (shr [n3] L') is=[.ro n1 c1,.ro n2 [.p n3 0],.ro n3 c3])(ho:((vG.okC 0 c1 && vG.okC 0 c3) && okA xs.dropLast)=true)(hx:xs=xs.dropLast ++ [.f g [n1,n2]])
  (hc:∀{w},HS c w L'->∀{b1 b2 b3:Nat×Nat},(∀w1,dL F0 w w1->kV (bZ w1) w1 [b1,b2,b3] [.ro 0 c1,.ro 1 [.p 2 0],.ro 2 c3])->V0 P (bZ w) f fo (xs.dropLast ++ [.k (.func (.func g) #[] (M8 [b1,b2]).toArray)]) sv)
  (k:∀x,W (G (.mk P T hT n c B0 N X Q) K' m' ((d,sv x) :: e') L' cf2) q (kf x)):W (G (.mk P T hT n c B0 N X Q) K m e L cf) q (fo.bind kf):=fun hF=>
 a5V is hs hk ho hx (fun h _ _ _ h2 _ hx=>hc h h2 _ hx) hF fun x _ h=>k x h
def noD:tO->Bool
 | .d _ _ _ _ _ _=>false
 | .o _ _ _ _ _ _ _=>false
 | _=>true
theorem shS(ns:List Nat){cf':tO}(hs:TB (i7 T n K cf m e L)=some (K',cf',m',e',L'))(hf:noD cf'=true)(k:G (.mk P T hT n c B0 N X Q) K' m' e' (shr ns L') cf'):G (.mk P T hT n c B0 N X Q) K m e L cf:=by
 refine go hs (chg (fun _:Unit=>m') (fun _=>e') (fun _=>shr ns L') (fun B a w hm hA hS=>⟨(),[],by simpa using hm,by simpa using hA,by simpa using aI1 ns [] L' hS⟩) (fun _=>?_) (fun _=>k))
 cases cf' with
 | d _ _ _ _ _ _=>cases hf
 | o _ _ _ _ _ _ _=>cases hf
 | _=>trivial
end
end Go.Gv
end
noncomputable section
namespace Go.Gv
abbrev R2:=Raw×Raw
def XY:List Value->List R2
 | a :: b :: r=>(⟨a⟩,⟨b⟩) :: XY r
 | _=>[]
theorem OB:∀{n:Nat} {cs:List Value},cs.length=n * 2->(XY cs).length=n
 | 0, cs, h => by
  have:cs=[]:=lM (by omega)
  rw [this];rfl
 | n + 1, cs, h => by
  match cs,h with
  | a :: b :: r,h=>simp only [XY,GU] at *;rw [OB (n:=n) (by omega)]
  | [_],h=>simp at h;omega
  | [],h=>simp at h
theorem aB2:∀{n:Nat} {cs ds:List Value},cs.length=n * 2->XY (cs++ds)=XY cs++XY ds
 | 0, cs, ds, h => by
  have:cs=[]:=lM (by omega)
  rw [this];rfl
 | n + 1, cs, ds, h => by
  match cs,h with
  | a :: b :: r,h=>simp only [XY,TW,GU] at *;rw [aB2 (n:=n) (by omega)]
  | [_],h=>simp at h;omega
  | [],h=>simp at h
theorem aQO{w:World}{a b:Value}(ha:a.oneCell'=true)(hb:b.oneCell'=true):aD.own w [a,b] ((⟨a⟩,⟨b⟩):R2) F0:=
 ⟨[a],[b],F0,F0,rfl,⟨⟨rfl,ha⟩,fun _ _ h=>h⟩,⟨⟨rfl,hb⟩,fun _ _ h=>h⟩,fun _ _ h=>h.elim,fun _ _=>by simp [F0]⟩
theorem aY3{w:World}{cs:List Value}{u:R2}{F:cB}(h:aD.own w cs u F):cs=[u.1.v,u.2.v]/\∀b o,¬F b o:=by
 obtain⟨c1,c2,F1,F2,e,h1,h2,_,hF⟩:=h
 refine⟨by rw [e,h1.1.1,h2.1.1];rfl,fun b o p=>((hF b o).1 p).elim (h1.2 b o) (h2.2 b o)⟩
noncomputable section
variable {α:Type} [aD α] (hn:aD.n α=2) {w:World}
include hn
theorem aQP:∀{l:List α} {cs:List Value} {F:cB},cJ w cs l F->cJ w cs (XY cs) F0
 | [],cs,F,h=>by rw [h.1];exact⟨rfl,fun _ _ h=>h⟩
 | x :: r, cs, F, ⟨c1, c2, F1, F2, e, h1, h2, hd, hF⟩ => by
  have a:=aD.jM (aD.own_rd h1)
  have o:=aD.rd_one (aD.own_rd h1)
  rw [hn] at a
  match c1,a,o with
  | [u, v], _, o =>
   subst e
   exact⟨[u,v],c2,F0,F0,rfl,aQO (o u (by simp)) (o v (by simp)),aQP h2,fun _ _ h=>h.elim,fun _ _=>by simp [F0]⟩
theorem aJC{l:List α}{cs:List Value}{F:cB}(h:cJ w cs l F):cs.length=l.length * 2:=by rw [h.length,hn]
omit hn in
theorem aHU:∀{us:List R2} {cs:List Value} {F:cB},cJ w cs us F->us=XY cs/\∀b o,¬F b o
 | [],cs,F,h=>by rw [h.1];exact⟨rfl,h.2⟩
 | u :: r, cs, F, ⟨c1, c2, F1, F2, e, h1, h2, hd, hF⟩ => by
  obtain⟨e1,f1⟩:=aY3 h1
  obtain⟨e2,f2⟩:=aHU h2
  subst e;subst e1
  exact⟨by rw [show XY ([u.1.v,u.2.v]++c2)=u :: XY c2 from rfl,<-e2],fun b o p=>((hF b o).1 p).elim (f1 b o) (f2 b o)⟩
theorem aVU{s:Value}{us:List R2}{l:List α}{cs:List Value}{G Fe:cB}(h:aD.own w [s] us G)(ho:cJ w cs l Fe)(hu:us=XY cs)(hd:G.C9 Fe):aD.own w [s] l (fun b o=>G b o\/Fe b o):=by
 have hcl:=aJC hn ho
 have hp:=OB hcl
 rw [<-hu] at hp
 obtain⟨a,c,e,h1,h2,h3⟩:=kD.1 h
 refine kD.2 ⟨a,c,by rw [e,hp],by rw [<-hp];exact h1,h2,?_⟩
 rcases h3 with ⟨rfl,rfl,k⟩ | ⟨b,off,cc,Ge,rfl,hr,hc,ho',hdj,hFF⟩
 ·have hl:l=[]:=lM (by omega)
  subst hl
  exact .inl ⟨rfl,rfl,fun b o p=>p.elim (k b o) (ho.2 b o)⟩
 ·obtain ⟨q1, q2⟩ := aHU ho'
  have hcc:cc.length=us.length * 2:=ho'.length
  have e2:cc=cs:=by
   have hj:∀{n:Nat} {x y:List Value},x.length=n * 2->y.length=n * 2->XY x=XY y->x=y:=by
    intro n
    induction n with
    | zero=>intro x y hx hy _;rw [lM (l:=x) (by omega),lM (l:=y) (by omega)]
    | succ n ih =>
     intro x y hx hy hxy
     match x,y,hx,hy,hxy with
     | a :: b :: r, a' :: b' :: r', hx, hy, hxy =>
      simp only [XY,List.cons.injEq,Prod.mk.injEq,Raw.mk.injEq,GU] at *
      exact⟨hxy.1.1,hxy.1.2,ih (by omega) (by omega) hxy.2⟩
     | [],_,hx,_,_=>simp at hx
     | [_],_,hx,_,_=>simp at hx;omega
     | _ :: _ :: _,[],_,hy,_=>simp at hy
     | _ :: _ :: _,[_],_,hy,_=>simp at hy;omega
   exact hj (n:=us.length) hcc (by rw [hcl,hp]) (by rw [<-q1,hu])
  subst e2
  have hG:∀b' o,G b' o↔dK b off (c * 2) b' o:=fun b' o=>by
   rw [hFF];exact⟨fun q=>q.elim id fun q=>(q2 b' o q).elim,.inl⟩
  refine .inr ⟨b,off,cc,Fe,rfl,by rw [hn];exact hr,hc,ho,fun b' o p q=>hd b' o ((hG b' o).2 (by rw [hn] at q;exact q)) p,fun b' o=>by rw [hG,hn]⟩
def cIn(cs:List Value)(l:List α):Chunk:=⟨fun w F=>cJ w cs l F,fun h hk hd=>cJ.keep hk h hd,fun h hf=>cJ.lt h hf⟩
end
def a37{α:Type}(l:List α)(i j:Int):Option (List α):=need (0<=i/\i<=j/\j<=(l.length:Int)) (some (l.take i.toNat++l.drop j.toNat))
def zR2:R2:=(⟨.bool false⟩,⟨.slice none 0 0⟩)
theorem a1Z{w:World}:aD.rd F0 w [.bool false,.slice none 0 0] zR2:=⟨[_],[_],rfl,⟨rfl,rfl⟩,⟨rfl,rfl⟩⟩
theorem aY4{α:Type}{l:List α}{a b:Nat}(hab:a<=b)(hb:b<=l.length):((cM l a (l.drop b)).take (a+(l.length - b))).drop 0=l.take a++l.drop b:=by
 have h1:(l.take a).length=a:=by rw [AL];omega
 have h2:(l.drop b).length=l.length - b:=by simp
 unfold cM
 rw [MP,aHF (l:=l.drop b) (by rw [h2];omega),<-tN,show a+(l.length - b)=(l.take a++l.drop b).length by rw [rD,h1,h2]]
 exact List.take_left
theorem aLI{α:Type}{p:Prop}[Decidable p]{k:Option α}(h:p):need p k=k:=if_pos h
def aVV(s:List R2)(i j:Int):Option (List R2):=
 need (0<=(i:Int)/\(i:Int)<=(j:Int)/\(j:Int)<=((s.length:Int):Int)/\((s.length:Int):Int)<=(s.length:Int)) ((if i == j then some s else need (0<=(i:Int)/\(i:Int)<=(s.length:Int)) (need (0<=(j:Int)/\(j:Int)<=(s.length:Int)) (need (i.toNat<=j.toNat) (need (0<=(((((cM s i.toNat (s.drop j.toNat)).take (i.toNat+(s.length - j.toNat))).drop 0).length:Int):Int)/\(((((cM s i.toNat (s.drop j.toNat)).take (i.toNat+(s.length - j.toNat))).drop 0).length:Int):Int)<=((s.length:Int):Int)/\((s.length:Int):Int)<=((cM s i.toNat (s.drop j.toNat)).length:Int)) (some (((cM s i.toNat (s.drop j.toNat)).take (i.toNat+(s.length - j.toNat))).drop 0)))))))
theorem aY5{us:List R2}{i j:Int}(h:0<=i/\i<=j/\j<=(us.length:Int)):aVV us i j=some (us.take i.toNat++us.drop j.toNat):=by
 unfold aVV
 rw [aLI (by omega)]
 by_cases e:i=j
 ·subst e
  rw [if_pos (by simp),TY]
 ·rw [if_neg (by simpa using e),aLI (by omega),aLI (by omega),aLI (by omega),aY4 (by omega) (by omega),aLI]
  rw [eQ (by omega)]
  simp only [rD,AL,GV]
  omega
end Go.Gv
end
noncomputable section
namespace Go.Gv
theorem aVW{α:Type}[aD α](hn:aD.n α=2){w:World}{s:Value}{l:List α}{ec:List Value}{F:cB}(hl:ec.length=2)(ho:∀v∈ec,v.oneCell'=true)(h:Sep w [qB s l 0,QV (MW s) (MO (aD.n α) 0 s) ec] F) :
  ∃c2,c2.length=(l.drop 1).length * 2/\l.length=(l.drop 1).length+1/\∀F,Sep w [qB s l 0,QV (MW s) (MO (aD.n α) 0 s) ec] F->∃G Fe,aD.own w [s] (XY (ec++c2)) G/\cJ w c2 (l.drop 1) Fe/\G.C9 Fe/\∀b o,F b o↔G b o\/Fe b o:=by
 obtain⟨G1,G2,⟨a,c,b,off,c1,c2,F1,F3,e,h1,h2,hk,rfl,hr,k1,k3,o1,o3,d1,d2,d3,hG1⟩,_,_,_⟩:=h
 have hc2:=aJC hn o3
 have hdl:(l.drop 1).length=l.length - 1:=by simp
 have hdl':(l.drop (0+1)).length=l.length - 1:=by simp
 refine⟨c2,hc2,by omega,fun F h=>?_⟩
 obtain⟨G1',G2',⟨a',c',b',off',c1',c2',F1',F3',e',h1',h2',hk',e3,hr',k1',k3',o1',o3',d1',d2',d3',hG1'⟩,hAt,dG,hF⟩:=h
 rw [e] at e';cases e';cases e3
 have hcc:c2'=c2:=UR k3' k3 (by rw [aJC hn o3',hc2])
 subst hcc
 have hAt:(QV (MW s) (MO (aD.n α) 0 s) ec).P w G2':=Sep.one.1 hAt
 obtain⟨k2,hz,hH⟩:=hAt
 subst e
 simp only [MW,MO,Nat.zero_mul,KB,hl] at k2 hz hH
 have hF1:∀b o,¬F1' b o:=by
  have:l.take 0=[]:=rfl
  rw [this] at o1'
  exact o1'.2
 rw [hn] at hr' k3' d3' hG1'
 have hp:(XY (ec++c2')).length=l.length:=by
  rw [aB2 (n:=1) (by omega),rD,OB (n:=1) (by omega),OB hc2];omega
 have hraw:cJ w (ec++c2') (XY (ec++c2')) F0:=by
  match ec,hl,ho with
  | [u,v],_,ho=>exact⟨[u,v],c2',F0,F0,rfl,aQO (ho u (by simp)) (ho v (by simp)),aQP hn o3',fun _ _ h=>h.elim,fun _ _=>by simp [F0]⟩
 refine⟨dK b off (c * 2),F3',kD.2 ⟨_,c,by rw [hp],by rw [hp];exact h1',h2',.inr ⟨b,off,ec++c2',F0,rfl,fun o p=>?_,?_,hraw,fun _ _ h=>h.elim,fun _ _=>?_⟩⟩,o3',fun b o p q=>d3' b o q p,fun b' o=>?_⟩
 ·by_cases q:dK b off 2 b o
  ·refine⟨?_,hz o q⟩
   obtain⟨_,q1,q2⟩:=q
   have:=k2 (o - off) _ (fT (by omega))
   rw [show off+(o - off)=o by omega] at this
   rw [this];rfl
  ·exact hr' o p (by simpa using q)
 ·refine IN k2 ?_
  rw [hl];simpa using k3'
 ·exact⟨.inl,fun q=>q.elim id fun q=>q.elim⟩
 ·rw [hF,hG1',hH]
  constructor
  ·rintro((⟨p,_⟩ | p | p) | p)
   ·exact .inl p
   ·exact(hF1 b' o p).elim
   ·exact .inr p
   ·obtain⟨rfl,p1,p2⟩:=p
    have:1 * 2<=c * 2:=oW _ (by omega)
    exact .inl ⟨rfl,p1,by omega⟩
  ·rintro(p | p)
   ·by_cases q:dK b off 2 b' o
    ·exact .inr q
    ·exact .inl (.inl ⟨p,by simpa using q⟩)
   ·exact .inl (.inr (.inr p))
theorem aHV{B:Bl}:∀{cs:List SV} {vs:List Value},aR (bI B) cs=some vs->∀v∈vs,v.oneCell'=true
 | [],vs,h,v,hv=>by cases h;simp at hv
 | x :: r, vs, h, v, hv => by
  simp only [aR] at h
  split at h
  ·cases h
  ·rename_i y hy
   split at h
   ·cases h
   ·rename_i ys hys
    cases h
    rcases gW.1 hv with rfl | hv
    ·exact aCW hy
    ·exact aHV hys v hv
noncomputable section
variable {P:Program} {T:TT} {hT:D7 P T} {n:Nat} {c:Ctx} {B0:Bl} {N:Act->World->Prop} {X:Nat->Act->World->Prop} {Q:Act->World->Prop} {K K':List Fr} {m m':Nat} {e e':SE} {L L':List Ch} {cf cf' cf1 cf2:tO} {o:Oper} {Lv:List Ch} {d:Nat}
theorem hzR{α:Type}[aD α](hn:aD.n α=2){s:AC}{l:List α}{nb n0:Nat}{cs:List SV}(h h2 hv:Nat)(hs:TB (i7 T n K cf m e L)=some (K',cf',m',e',L'))(hh:L'[h]?=some (.o (qB (s.v l.length) l 0)))(hb:L'[h2]?=some (.box nb cs))(hw:L'[hv]?=some (wOf α nb s n0 0))(hl:cs.length=2)(ha:cW [h,h2]=true)(hz:([h,h2].all fun j=>fJ j cf'.wR)=true)
  (k:∀(us:List R2) (c2:List Value),us.length=l.length->us.drop 1=XY c2->l.length=(l.drop 1).length+1->G (.mk P T hT n c B0 N X Q) K' m' e' (FX L' [h,h2] ++ [ow s us,.o (cIn c2 (l.drop 1))]) cf'):G (.mk P T hT n c B0 N X Q) K m e L cf:=by
 refine go hs (chg (ι:={p:List R2×List Value // p.1.length=l.length/\p.1.drop 1=XY p.2/\l.length=(l.drop 1).length+1}) (fun _=>m') (fun _=>e') (fun p=>FX L' [h,h2] ++ [ow s p.1.1,.o (cIn p.1.2 (l.drop 1))]) (fun B a w hm hA hS=>?_) (fun _=>N9 _ hz) (fun p=>k p.1.1 p.1.2 p.2.1 p.2.2.1 p.2.2.2))
 obtain⟨⟨R,s1,s2⟩,s0⟩:=hS
 have f1:=s1.front [h,h2] ha
 rw [KK (M:=[.o (qB (s.v l.length) l 0),.box nb cs]) (by simp [aR,hh,hb])] at f1
 obtain⟨F,S,hsep,_⟩:=f1.sep
 obtain⟨Fa,Fb,hab,_⟩:=Sep.append.1 hsep
 have hB:=s2 _ (tP hw)
 simp only [roF] at hB
 obtain⟨G1,G2,g1,g2,g3,g4⟩:=hab
 have g2:(N7 B nb cs).P w G2:=Sep.one.1 g2
 obtain⟨b,z,vs,q1,q2,q3⟩:=g2
 rw [hB] at q1;cases q1
 have hlv:vs.length=2:=by rw [<-hl];exact(j3 q2)
 have e1:MW (s.v n0)=MW (s.v l.length):=a0I s _ _
 have e2:MO (aD.n α) 0 (s.v n0)=MO (aD.n α) 0 (s.v l.length):=a0J s _ _ _ _
 rw [e1,e2] at q3
 obtain⟨c2,z1,z2,z3⟩:=aVW hn hlv (aHV q2) (F:=Fa) ⟨G1,G2,g1,Sep.one.2 q3,g3,g4⟩
 have hpl:(XY (vs++c2)).length=l.length:=by rw [aB2 (n:=1) (by omega),rD,OB (n:=1) (by omega),OB z1];omega
 have hpd:(XY (vs++c2)).drop 1=XY c2:=by rw [aB2 (n:=1) (by omega)];exact List.drop_left' (OB (n:=1) (by omega))
 refine⟨⟨(XY (vs++c2),c2),hpl,hpd,z2⟩,[],by simpa using hm,by simpa using hA,⟨⟨R,?_,fun x hx=>?_⟩,s0⟩⟩
 ·rw [xG,wI,D8]
  have:=s1.shift [h,h2] ha (A':=[aZ [s.v (XY (vs++c2)).length] (XY (vs++c2)),cIn c2 (l.drop 1)]) (fun F hF=>by
   rw [KK (M:=[.o (qB (s.v l.length) l 0),.box nb cs]) (by simp [aR,hh,hb])] at hF
   obtain⟨G1,G2,g1,g2,g3,g4⟩:=hF
   have g2:(N7 B nb cs).P w G2:=Sep.one.1 g2
   obtain⟨b',z',vs',q1',q2',q3'⟩:=g2
   rw [hB] at q1';cases q1'
   rw [q2] at q2';cases q2'
   rw [e1,e2] at q3'
   obtain⟨G,Fe,a1,a2,a3,a4⟩:=z3 F ⟨G1,G2,g1,Sep.one.2 q3',g3,g4⟩
   rw [hpl]
   exact⟨G,Fe,a1,Sep.one.2 a2,a3,a4⟩)
  exact this
 ·rw [xG]
  rcases gC.1 hx with hx | hx
  ·rcases KJ _ _ hx with hx | hx
   ·exact s2 x hx
   ·subst hx;trivial
  ·simp only [gW,MR,or_false] at hx
   rcases hx with rfl | rfl <;> trivial
theorem joR{α:Type}[aD α](hn:aD.n α=2){s:AC}{us:List R2}{l:List α}{cs:List Value}(i j:Nat)(hi:L[i]?=some (ow s us))(hj:L[j]?=some (.o (cIn cs l)))(hu:us=XY cs)(ha:cW [i,j]=true)(hz:([i,j].all fun j=>fJ j cf.wR)=true)(hl:us.length=l.length)
  (k:G (.mk P T hT n c B0 N X Q) K m e (FX L [i,j] ++ [ow s l]) cf):G (.mk P T hT n c B0 N X Q) K m e L cf:=by
 refine chg (fun _:Unit=>m) (fun _=>e) (fun _=>FX L [i,j] ++ [ow s l]) (fun B a w hm hA hS=>?_) (fun _=>N9 _ hz) (fun _=>k)
 obtain⟨⟨R,s1,s2⟩,s0⟩:=hS
 refine⟨(),[],by simpa using hm,by simpa using hA,⟨⟨R,?_,fun x hx=>?_⟩,s0⟩⟩
 ·rw [xG,wI,D8]
  exact s1.shift [i,j] ha (A':=[aZ [s.v l.length] l]) (fun F hF=>by
   rw [KK (M:=[ow s us,.o (cIn cs l)]) (by simp [aR,hi,hj])] at hF
   obtain⟨G1,G2,g1,g2,g3,g4⟩:=hF
   have g2:cJ w cs l G2:=Sep.one.1 g2
   have g1:aD.own w [s.v us.length] us G1:=g1
   rw [hl] at g1
   have:=aVU hn g1 g2 hu g3
   exact Sep.one.2 (by
    have e:F=fun b o=>G1 b o\/G2 b o:=by funext b o;exact propext (g4 b o)
    rw [e];exact this))
 ·rw [xG]
  rcases gC.1 hx with hx | hx
  ·rcases KJ _ _ hx with hx | hx
   ·exact s2 x hx
   ·subst hx;trivial
  ·simp only [gW,MR,or_false] at hx
   subst hx;trivial
theorem dlW{α β:Type}[aD α](hn:aD.n α=2){f:FuncId}{kf:List α->Option β}{q:β}{s:AC}{l:List α}{us:List R2}{c2:List Value}(i j:Nat)
  (hs:cpS (i7 T n K cf m e L)=some (o,some d,f,[.h s l.length,.i .i64 0,.i .i64 1],cf1,cf2,K',m',e',L')) (hi:L'[i]?=some (ow s us)) (hj:(FX L' [i] ++ [ow s us])[j]?=some (.o (cIn c2 (l.drop 1)))) (hz:fJ i cf1.wR=true) (ha:cW [L'.length,j]=true) (hz2:([L'.length,j].all fun j=>fJ j cf2.wR)=true)
  (hu:us.length=l.length) (hd:us.drop 1=XY c2) (hl:l.length=(l.drop 1).length+1)
  (H:∀{κ:Ctx} {us:List R2},VS P κ f (aVV us 0 1) [.h s us.length,.i .i64 0,.i .i64 1] [] [ow s us] (fun(r:List R2) (y:AC)=>.h y r.length) (fun r y=>[ow y r]))
  (k:∀y:AC,W (G (.mk P T hT n c B0 N X Q) K' m' ((d,.h y (l.drop 1).length) :: e') (FX (FX L' [i] ++ [ow y (us.drop 1)]) [L'.length,j] ++ [ow y (l.drop 1)]) cf2) q (kf (l.drop 1))):W (G (.mk P T hT n c B0 N X Q) K m e L cf) q ((a37 l 0 1).bind kf):=fun hF=>by
 have hlen:(FX L' [i]).length=L'.length:=by simp [FX]
 have hdl:∀{x},a37 l 0 1=some x->x=l.drop 1:=fun h=>by
  obtain⟨_,h⟩:=iU h
  cases h;simp
 refine cw0 (sv:=fun(r:List α) (y:AC)=>.h y r.length) (Lr:=fun _ y=>[ow y (us.drop 1)]) (M:=[ow s us]) (xs0:=[.h s l.length,.i .i64 0,.i .i64 1]) [i] hs (by simp [aR,hi]) rfl (by simp [E3,cW,hz]) (fun _ _=>rfl) (fun{κ} _ {x} hx=>?_) hF (fun x h1 h2 y=>?_)
 ·have hr:aVV us 0 1=some (us.drop 1):=by rw [aY5 (by omega)];simp
  have h:=H (κ:=κ) (us:=us) _ hr
  rw [hu] at h
  refine⟨h.call,fun vs hvs hst=>Calls.mono (h.run vs hvs hst) fun en w' hE=>?_⟩
  obtain⟨v,hv,y,e1,e2⟩:=hE
  refine⟨v,hv,y,?_,e2⟩
  rw [hdl hx,show(l.drop 1).length=(us.drop 1).length by simp [hu]];exact e1
 ·obtain rfl:=hdl h1
  refine joR hn L'.length j (by rw [DI (by omega)];simp [hlen]) ?_ hd ha hz2 (by simp [hu]) (k y h2)
  have hjl:j < L'.length:=by
   have h3:j < (FX L' [i] ++ [ow s us]).length:=(iE.1 hj).1
   have h4:j≠L'.length:=by
    intro e;subst e;simp [cW,fJ] at ha
   rw [rD,hlen] at h3;simp at h3;omega
  rw [IK (by omega)] at hj ⊢
  exact hj
end
end Go.Gv
end
noncomputable section
namespace Go.Gv
open Go.Lib Go.Proofs
theorem OC{P:Program}(w:World)(dT sT ty elem:TypeId)(k b o dLen dCap:Nat)(a:Addr)(sLen sCap m:Nat)(cs:List Value)
  (hu:P.underlying dT=some (.slice elem)) (hs:(P.info? elem).map (·.size)=some k) (hm:Nat.min sLen dLen=m) (hn:cs.length=m * k)
  (hsrc:∀j v,cs[j]?=some v->w.cell? (a.add j)=some v) (hc:∀j,j < cs.length->(w.cell? ⟨b,o+j,none⟩).isSome=true) (hf:∀j,j < cs.length->w.frozen? ⟨b,o+j,none⟩=false) (h1:∀v∈cs,v.oneCell'=true) :
  (Builtin.copy_ #[dT,sT] ty #[.slice (some ⟨b,o,none⟩) dLen dCap,.slice (some a) sLen sCap]).run P w=.ok (goInt m) (w.setCells b o cs):=by
 have hl:=run_loadCells_list (P:=P) w a cs hsrc
 have hst:=run_storeCells_cells (P:=P) b o cs 0 w (by simpa using hc) (by simpa using hf) h1
 subst hm
 cases hq:P.info? elem with
 | none=>simp [hq] at hs
 | some i =>
  have hi:i.size=k:=by simpa [hq] using hs
  simp [Builtin.copy_,run_underlying hu,Builtin.lenOf,Builtin.firstCells,sizeOf,typeInfo,hq,hi,<-hn,hl,hst]
theorem xI(b o0 m:Nat):∀(vs:List Value) (o:Nat) (w:World),o0<=o->o+vs.length<=o0+m->dL (dK b o0 m) w (w.setCells b o vs)
 | [],_,w,_,_=>dL.refl _ _
 | v :: r, o, w, h1, h2 => by
  simp only [GU] at h2
  rw [World.setCells]
  exact(dL.setCell _ w ⟨b,o,none⟩ v ⟨rfl,h1,by show o < _;omega⟩ rfl).trans (xI b o0 m r (o+1) _ (by omega) (by omega)) fun _ _ _ h=>h
theorem ZG{w w1:World}(b:Nat)(hb:w.heap.size<=b){vs:List Value}{o:Nat}(h:dL F0 w w1):dL F0 w (w1.setCells b o vs):=
 h.trans ((xI b o vs.length vs o w1 (jA _) (jA _)).mono (G:=dK b o vs.length) fun _ _ _ h=>h) (F:=F0) fun b' o' hlt hr=>by
  obtain⟨rfl,_⟩:=hr
  omega
theorem A9{w:World}{b o:Nat}{vs:List Value}(h:∀j,j < vs.length->(w.cell? ⟨b,o+j,none⟩).isSome=true):aV (w.setCells b o vs) b o vs:=fun j v hj=>by
 have hl:=(iE.1 hj).1
 rw [World.cell?_setCells_in b vs o w h j hl]
 exact(fT hl).symm.trans hj
theorem nW{w:World}{b o o':Nat}{vs cs:List Value}(h:aV w b o' cs)(hd:o'+cs.length<=o\/o+vs.length<=o'):aV (w.setCells b o vs) b o' cs:=fun j v hj=>by
 have hl:=(iE.1 hj).1
 rw [World.cell?_setCells_out b vs o w ⟨b,o'+j,none⟩ (fun _ _=>by show o'+j < o\/o+vs.length<=o'+j;omega)]
 exact h j v hj
theorem NA{w:World}{b o:Nat}{cs ds:List Value}(h:aV w b o cs)(k:aV w b (o+cs.length) ds):aV w b o (cs++ds):=fun j v hj=>by
 by_cases hl:j < cs.length
 ·rw [IK hl] at hj;exact h j v hj
 ·rw [DI (by omega)] at hj
  have:=k _ v hj
  rw [show o+cs.length+(j - cs.length)=o+j by omega] at this
  exact this
theorem aN3{w:World}{b o n:Nat}{cs:List Value}(h:aV w b o cs):aV w b o (cs.take n):=fun j v hj=>by
 rw [DK] at hj
 split at hj
 ·exact h j v hj
 ·cases hj
theorem V9{w:World}{b o n o':Nat}{vs:List Value}(h:Row w b o n)(ho:o<=o'/\o'+vs.length<=o+n):Row (w.setCells b o' vs) b o n:=fun q hq=>by
 obtain⟨_,h2,h3⟩:=hq
 refine⟨Go.Proofs.isSome_setCells b vs o' w (fun j hj=>(h (o'+j) ⟨rfl,by omega,by omega⟩).1) q (h q ⟨rfl,h2,h3⟩).1,?_⟩
 rw [World.frozen?_setCells];exact(h q ⟨rfl,h2,h3⟩).2
def a5W(w:World)(k n:Nat)(ad:Option Addr)(c:Nat)(ccs:List Value)(e:Ending)(w':World):Prop:=
 ∃b o c',e=.returned (.slice (some ⟨b,o,none⟩) (n+1) c')/\n+1<=c'/\c'<=maxLen/\aV w' b o ccs/\Row w' b o (c' * k) /\
  ((ad=some ⟨b,o,none⟩/\c'=c/\dL (dK b o (c * k)) w w')\/(w.heap.size<=b/\dL F0 w w'))
def a5X(P:Program)(f k:Nat):Prop:=∀(b off n c i vb:Nat) (cs vs:List Value) (w:World),i < n->n+1<=c->c<=9223372036854775807->vb≠b->cs.length=n * k->vs.length=k ->
  aV w b off cs->(∀j,j < c * k->(w.cell? ⟨b,off+j,none⟩).isSome=true)->(∀j,j < c * k->w.frozen? ⟨b,off+j,none⟩=false) ->
  aV w vb 0 vs->(∀v∈cs,v.oneCell'=true)->(∀v∈vs,v.oneCell'=true) ->
  ∀(tA tB:TypeId) (kA kB:Nat),w.shape? vb=some (tA,kA)->w.shape? b=some (tB,kB)->kB≠0->w.frozen? ⟨vb,0,none⟩=false->w.frozen? ⟨vb,kA,none⟩=false ->
  Calls P f #[.slice (some ⟨b,off,none⟩) n c,.int .i64 i,.slice (some ⟨vb,0,none⟩) 1 1] w fun e w'=>
   e=.returned (.slice (some ⟨b,off,none⟩) (n+1) c)/\w'=(w.drew.setCells b (off+(i+1) * k) (cs.drop (i * k))).setCells b (off+i * k) vs
def a5Y(P:Program)(f k:Nat):Prop:=∀(b off n c vb:Nat) (vs:List Value) (w:World),n+1<=c->c<=9223372036854775807->vs.length=k ->
  (∀j,j < c * k->(w.cell? ⟨b,off+j,none⟩).isSome=true)->(∀j,j < c * k->w.frozen? ⟨b,off+j,none⟩=false)->aV w vb 0 vs->(∀v∈vs,v.oneCell'=true) ->
  Calls P f #[.slice (some ⟨b,off,none⟩) n c,.int .i64 n,.slice (some ⟨vb,0,none⟩) 1 1] w fun e w'=>
   e=.returned (.slice (some ⟨b,off,none⟩) (n+1) c)/\w'=w.setCells b (off+n * k) vs
def a5Z(P:Program)(f k el:Nat)(z:Value):Prop:=∀(base:Option Addr) (n c vb:Nat) (cs vs:List Value) (w:World),n<=c->c < n+1->n+1<=1073741824->cs.length=n * k->vs.length=k->(base=none->n=0) ->
  (∀a,base=some a->∀j v,cs[j]?=some v->w.cell? (a.add j)=some v)->aV w vb 0 vs->(∀v∈vs,v.oneCell'=true) ->
  Calls P f #[.slice base n c,.int .i64 n,.slice (some ⟨vb,0,none⟩) 1 1] w fun e w'=>
   e=.returned (.slice (some ⟨w.heap.size,0,none⟩) (n+1) (grownCap w (n+1) c el)) /\
   w'=w.drew.alloc (.cells ((cs++vs).toArray++Builtin.zeroCells z.cells (grownCap w (n+1) c el - (n+1))) el)
def a50(P:Program)(f k el:Nat)(z:Value):Prop:=∀(b off n c i vb:Nat) (cs vs:List Value) (w:World),i < n->n<=c->c < n+1->n+1<=1073741824->cs.length=n * k->vs.length=k ->
  aV w b off cs->aV w vb 0 vs->(∀v∈cs,v.oneCell'=true)->(∀v∈vs,v.oneCell'=true) ->
  Calls P f #[.slice (some ⟨b,off,none⟩) n c,.int .i64 i,.slice (some ⟨vb,0,none⟩) 1 1] w fun e w'=>
   e=.returned (.slice (some ⟨w.heap.size,0,none⟩) (n+1) (grownCap w (n+1) c el)) /\
   w'=(((w.alloc (.cells ((cs.take (i * k)).toArray++Builtin.zeroCells z.cells (n+1 - i)++Builtin.zeroCells z.cells (grownCap w (n+1) c el - (n+1))) el)).drew.setCells w.heap.size (i * k) vs).drew).setCells w.heap.size ((i+1) * k) (cs.drop (i * k))
def a38(P:Program)(f k:Nat):Prop:=∀(ad:Option Addr) (n c i vb:Nat) (cs vs:List Value) (w:World),i<=n->n<=c->c<=maxLen->n+1<=1073741824->cs.length=n * k->vs.length=k ->
  aV w vb 0 vs->(∀v∈cs,v.oneCell'=true)->(∀v∈vs,v.oneCell'=true)->(∀o,w.frozen? ⟨vb,o,none⟩=false) ->
  ((ad=none/\c=0)\/∃b off,ad=some ⟨b,off,none⟩/\Row w b off (c * k)/\aV w b off cs/\(0 < c->vb≠b)) ->
  Calls P f #[.slice ad n c,.int .i64 i,.slice (some ⟨vb,0,none⟩) 1 1] w (a5W w k n ad c (cs.take (i * k)++vs++cs.drop (i * k)))
theorem aLJ{w:World}{b o:Nat}(h:(w.cell? ⟨b,o,none⟩).isSome=true):∃t k,w.shape? b=some (t,k)/\k≠0:=by
 unfold World.cell? at h
 unfold World.shape?
 cases hh:w.heap[b]? with
 | none=>simp [hh] at h
 | some ob =>
  cases ob with
  | cells c el fr =>
   refine⟨el,c.size,rfl,?_⟩
   intro h0
   simp [hh,Array.eq_empty_of_size_eq_zero h0] at h
  | _=>simp [hh] at h
theorem aY6{P:Program}{f k el:Nat}{z:Value}(hk:0 < k)(hz:z.cells.size=k)(hS:a5X P f k)(hR:a5Y P f k)(hE:a5Z P f k el z)(hG:a50 P f k el z):a38 P f k:=by
 intro ad n c i vb cs vs w hi hnc hcm hb hcl hvl hvs h1c h1v hfz hrow
 have hgc:n+1<=grownCap w (n+1) c el:=grownCap_ge _ _ _ _
 have hgm:grownCap w (n+1) c el<=maxLen:=grownCap_le_maxLen w (n+1) c el (by unfold maxLen;omega)
 have hnk:(n+1) * k=n * k+k:=by rw [fU];omega
 by_cases hin:i=n
 ·subst hin
  have e1:cs.take (i * k)=cs:=by rw [<-hcl];exact Q0
  have e2:cs.drop (i * k)=[]:=by rw [<-hcl];exact List.drop_length
  rw [e1,e2,xG]
  by_cases hroom:i+1<=c
  ·rcases hrow with ⟨_,h0⟩ | ⟨b,off,rfl,hr,hc,_⟩
   ·omega
   have hck:(i+1) * k<=c * k:=oW _ hroom
   refine(hR b off i c vb vs w hroom hcm hvl (fun j hj=>(hr _ ⟨rfl,by omega,by omega⟩).1) (fun j hj=>(hr _ ⟨rfl,by omega,by omega⟩).2) hvs h1v).mono ?_
   rintro e w' ⟨rfl,rfl⟩
   refine⟨b,off,c,rfl,hroom,hcm,NA (nW hc (.inl (by omega))) (by rw [hcl];exact A9 fun j hj=>(hr _ ⟨rfl,by omega,by omega⟩).1),V9 hr ⟨by omega,by omega⟩,.inl ⟨rfl,rfl,xI b off _ vs _ w (by omega) (by omega)⟩⟩
  ·refine(hE ad i c vb cs vs w hnc (by omega) hb hcl hvl (fun h=>?_) (fun a ha=>?_) hvs h1v).mono ?_
   ·rcases hrow with ⟨_,h0⟩ | ⟨b,off,h1,_⟩
    ·omega
    ·rw [h] at h1;cases h1
   ·rcases hrow with ⟨h0,_⟩ | ⟨b,off,h1,hr,hc,_⟩
    ·rw [h0] at ha;cases ha
    ·rw [ha] at h1;cases h1
     intro j v hj
     rw [Addr.add_lit];exact hc j v hj
   rintro e w' ⟨rfl,rfl⟩
   have hsz:((cs++vs).toArray++Builtin.zeroCells z.cells (grownCap w (i+1) c el - (i+1))).size=grownCap w (i+1) c el * k:=by
    rw [Array.size_append,size_zeroCells,hz,List.size_toArray,rD,hcl,hvl,Nat.sub_mul,hnk]
    have:(i+1) * k<=grownCap w (i+1) c el * k:=oW _ hgc
    omega
   refine⟨w.heap.size,0,_,rfl,hgc,hgm,fun j v hj=>?_,fun o ho=>⟨?_,World.frozen?_alloc_at (w:=w.drew) _ _ w.heap.size o rfl⟩,.inr ⟨jA _,(dL.drew F0 w).trans (dL.alloc _ _ _) fun _ _ _ h=>h⟩⟩
   ·rw [AM,World.cell?_alloc_at (w:=w.drew) _ _ w.heap.size j rfl]
    have hl:=(iE.1 hj).1
    rw [Array.getElem?_append_left (by simpa using hl)]
    simpa using hj
   ·obtain⟨_,_,h3⟩:=ho
    rw [World.cell?_alloc_at (w:=w.drew) _ _ w.heap.size o rfl,Array.getElem?_eq_getElem (by rw [hsz];omega)];rfl
 ·have hlt:i < n:=by omega
  have hik:(i+1) * k=i * k+k:=by rw [fU];omega
  have hink:(i+1) * k<=n * k:=oW _ hlt
  have htl:(cs.take (i * k)).length=i * k:=by rw [AL];omega
  have hdl:(cs.drop (i * k)).length=n * k - i * k:=by rw [GV,hcl]
  rcases hrow with ⟨_,h0⟩ | ⟨b,off,rfl,hr,hc,hne⟩
  ·omega
  have hsv:=aLJ (w:=w) (b:=vb) (o:=0) (by rw [show(0:Nat)=0+0 from rfl,hvs 0 _ (fT (by omega))];rfl)
  obtain⟨tA,kA,hsa,_⟩:=hsv
  by_cases hroom:n+1<=c
  ·have hck:(n+1) * k<=c * k:=oW _ hroom
   obtain⟨tB,kB,hsb,hkB⟩:=aLJ (w:=w) (b:=b) (o:=off) (hr off ⟨rfl,by omega,by omega⟩).1
   refine(hS b off n c i vb cs vs w hlt hroom hcm (hne (by omega)) hcl hvl hc (fun j hj=>(hr _ ⟨rfl,by omega,by omega⟩).1) (fun j hj=>(hr _ ⟨rfl,by omega,by omega⟩).2) hvs h1c h1v tA tB kA kB hsa hsb hkB (hfz _) (hfz _)).mono ?_
   rintro e w' ⟨rfl,rfl⟩
   have hc':aV w.drew b off cs:=hc
   have hr':Row w.drew b off (c * k):=hr
   have hr1:=V9 (o':=off+(i+1) * k) (vs:=cs.drop (i * k)) hr' ⟨by omega,by omega⟩
   refine⟨b,off,c,rfl,hroom,hcm,?_,V9 hr1 ⟨by omega,by omega⟩,.inl ⟨rfl,rfl,((dL.drew _ w).trans (xI b off _ _ _ _ (by omega) (by omega)) fun _ _ _ h=>h).trans (xI b off _ vs _ _ (by omega) (by omega)) fun _ _ _ h=>h⟩⟩
   refine NA (NA ?_ ?_) ?_
   ·exact nW (nW (aN3 hc') (.inl (by omega))) (.inl (by omega))
   ·rw [htl];exact A9 fun j hj=>(hr1 _ ⟨rfl,by omega,by omega⟩).1
   ·rw [rD,htl,hvl,<-hik]
    exact nW (A9 fun j hj=>(hr' _ ⟨rfl,by omega,by omega⟩).1) (.inr (by omega))
  ·refine(hG b off n c i vb cs vs w hlt hnc (by omega) hb hcl hvl hc hvs h1c h1v).mono ?_
   rintro e w' ⟨rfl,rfl⟩
   obtain⟨ROW,hROW⟩:∃ROW:Array Value,ROW=(cs.take (i * k)).toArray++Builtin.zeroCells z.cells (n+1 - i)++Builtin.zeroCells z.cells (grownCap w (n+1) c el - (n+1)):=⟨_,rfl⟩
   rw [<-hROW]
   have hsz:ROW.size=grownCap w (n+1) c el * k:=by
    rw [hROW,Array.size_append,Array.size_append,size_zeroCells,size_zeroCells,hz,List.size_toArray,htl,<-fU,<-fU]
    congr 1
    omega
   have hgk:(n+1) * k<=grownCap w (n+1) c el * k:=oW _ hgc
   have hcN:∀j,(w.alloc (.cells ROW el)).cell? ⟨w.heap.size,j,none⟩=ROW[j]?:=fun j=>World.cell?_alloc_at (w:=w) ROW _ w.heap.size j rfl
   have hr0:Row (w.alloc (.cells ROW el)).drew w.heap.size 0 (grownCap w (n+1) c el * k):=fun o ho=>by
    obtain⟨_,_,h3⟩:=ho
    refine⟨?_,World.frozen?_alloc_at (w:=w) _ _ w.heap.size o rfl⟩
    show((w.alloc (.cells ROW el)).cell? _).isSome=true
    rw [hcN,Array.getElem?_eq_getElem (by rw [hsz];omega)];rfl
   have hc0:aV (w.alloc (.cells ROW el)).drew w.heap.size 0 (cs.take (i * k)):=fun j v hj=>by
    show(w.alloc (.cells ROW el)).cell? _=_
    have hl:=(iE.1 hj).1
    rw [AM,hcN,hROW,Array.append_assoc,Array.getElem?_append_left (by simpa using hl)]
    simpa using hj
   have hr1:=V9 (o':=i * k) (vs:=vs) hr0 ⟨by omega,by omega⟩
   have hr1':Row ((w.alloc (.cells ROW el)).drew.setCells w.heap.size (i * k) vs).drew w.heap.size 0 (grownCap w (n+1) c el * k):=hr1
   refine⟨w.heap.size,0,_,rfl,hgc,hgm,?_,V9 hr1' ⟨by omega,by omega⟩,.inr ⟨jA _,ZG _ (jA _) ((ZG _ (jA _) ((dL.alloc _ _ _).trans (dL.drew _ _) fun _ _ _ h=>h)).trans (dL.drew _ _) fun _ _ _ h=>h)⟩⟩
   refine NA (NA ?_ ?_) ?_
   ·exact nW (show aV _ _ _ _ from nW hc0 (.inl (by omega))) (.inl (by omega))
   ·rw [htl,AM]
    refine nW (show aV _ _ _ _ from A9 fun j hj=>?_) (.inl (by omega))
    have:=(hr0 (i * k+j) ⟨rfl,by omega,by omega⟩).1
    exact this
   ·rw [rD,htl,hvl,<-hik,AM]
    exact A9 fun j hj=>(hr1' _ ⟨rfl,by omega,by omega⟩).1
def a10{α:Type}[aD α](s:AC)(x:α):Chunk where
 P w F:=∃b cs,s=⟨some ⟨b,0,none⟩,1⟩/\b < w.heap.size/\(∀o,w.frozen? ⟨b,o,none⟩=false)/\aV w b 0 cs/\(∀w,aD.own w cs x F0)/\∀b' o,F b' o↔b'=b
 keep:=fun⟨b,cs,h1,h2,h3,h4,h5,h6⟩ hk hd=>⟨b,cs,h1,MS h2 hk.size,fun o=>(hk.wR b o h2).trans (h3 o),fun j v hj=>(hk.cell b _ h2 fun hg=>hd b _ ((h6 b _).2 rfl) hg).trans (h4 j v hj),h5,h6⟩
 lt:=fun⟨b,cs,h1,h2,h3,h4,h5,h6⟩ hF=>by rw [(h6 _ _).1 hF];exact h2
def cLs{α:Type}[aD α](s:AC)(v:List α):Chunk where
 P w F:=∃x,v=[x]/\(a10 s x).P w F
 keep:=fun⟨x,h1,h2⟩ hk hd=>⟨x,h1,(a10 s x).keep h2 hk hd⟩
 lt:=fun⟨x,_,h2⟩ hF=>(a10 s x).lt h2 hF
def a39{α:Type}(l:List α)(i:Int)(v:List α):Option (List α):=need (0<=i/\i<=(l.length:Int)/\l.length+v.length<=1073741824) (some (l.take i.toNat++v++l.drop i.toNat))
theorem aVX{α:Type}[aD α]{w:World}{cs:List Value}{x:α}(h:aD.own w cs x F0):cJ w cs [x] F0:=⟨cs,[],F0,F0,(xG _).symm,h,⟨rfl,fun _ _ h=>h⟩,fun _ _ h=>h.elim,fun _ _=>by simp [F0]⟩
theorem WA{α:Type}[aD α][Flat α]{w w':World}:∀{l:List α} {cs:List Value} {F:cB},cJ w cs l F->cJ w' cs l F0
 | [],cs,F,h=>⟨h.1,fun _ _ h=>h⟩
 | x :: r,cs,F,⟨c1,c2,F1,F2,e,h1,h2,hd,hF⟩=>⟨c1,c2,F0,F0,e,aTF h1,WA h2,fun _ _ h=>h.elim,fun _ _=>by simp [F0]⟩
theorem aQQ{α:Type}[aD α]{w:World}:∀{l:List α} {cs:List Value} {F:cB},cJ w cs l F->∀v∈cs,v.oneCell'=true
 | [],cs,F,h,v,hv=>by rw [h.1] at hv;cases hv
 | x :: r, cs, F, ⟨c1, c2, F1, F2, e, h1, h2, hd, hF⟩, v, hv => by
  rw [e] at hv
  exact(gC.1 hv).elim (aD.rd_one (aD.own_rd h1) v) (aQQ h2 v)
theorem a51{P:Program}{κ:Ctx}{f:FuncId}{α:Type}[aD α][Flat α]{k:Nat}(hn:aD.n α=k)(hk:0 < k)(hC:a38 P f k)(hcall:∀args w,(callFunc f args).run P w=.ok (.enter f args) w){s v:List α}{i:Int}{s1 s2:AC} :
  VS P κ f (a39 s i v) [.h s1 s.length,.i .i64 i,.h s2 v.length] [] [ow s1 s,.o (cLs s2 v)] (fun r (y:AC)=>.h y r.length) (fun r y=>[ow y r]):=fun r hr=>by
 unfold a39 at hr
 obtain⟨⟨hi0,hi1,hb⟩,hr⟩:=iU hr
 obtain⟨j,rfl⟩:∃j:Nat,i=j:=⟨i.toNat,by omega⟩
 rw [JZ] at hr
 cases hr
 refine⟨hcall,fun vs hv hS=>?_⟩
 simp [aR,eC,gV,bI] at hv
 subst hv
 obtain⟨⟨R,h1,h2⟩,h0⟩:=hS
 have h1:St κ κ.w0 [aZ [s1.v s.length] s,cLs s2 v] R:=by simpa [jN] using h1
 obtain⟨F,S,⟨F1,F2,hs1,⟨F3,F4,hs2,_,_,hF34⟩,hdj,_⟩,_⟩:=h1.sep
 obtain⟨x,rfl,vb,cv,rfl,hvb,hvf,hvc,hvo,hvF⟩:=hs2
 have hs1:aD.own κ.w0 [s1.v s.length] s F1:=hs1
 obtain⟨a,c,he,hl1,hl2,hrest⟩:=kD.1 hs1
 obtain⟨sa,sc⟩:=s1
 simp only [AC.v,Value.slice.injEq,true_and] at he
 obtain⟨rfl,rfl⟩:=he
 have hvl:cv.length=k:=by rw [<-hn];exact aD.jM (aD.own_rd (hvo κ.w0))
 have hv1:∀v∈cv,v.oneCell'=true:=aD.rd_one (aD.own_rd (hvo κ.w0))
 obtain⟨cs,hcl,hc1,hrow,hall⟩:∃cs,cs.length=s.length * k/\(∀v∈cs,v.oneCell'=true)/\((sa=none/\sc=0)\/∃b off,sa=some ⟨b,off,none⟩/\Row κ.w0 b off (sc * k)/\aV κ.w0 b off cs/\(0 < sc->vb≠b))/\∀w,cJ w cs s F0:=by
  rcases hrest with ⟨rfl,rfl,_⟩ | ⟨b,off,cc,Fe,rfl,hr,hc,ho,_,hF⟩
  ·have hsn:s=[]:=lM (by omega)
   subst hsn
   exact⟨[],by simp,by simp,.inl ⟨rfl,rfl⟩,fun _=>⟨rfl,fun _ _ h=>h⟩⟩
  ·rw [hn] at hr hF
   refine⟨cc,by rw [<-hn];exact ho.length,aQQ ho,.inr ⟨b,off,rfl,hr,hc,fun h0 e=>?_⟩,fun _=>WA ho⟩
   subst e
   have hk:0 < sc * k:=Nat.mul_pos h0 hk
   exact hdj vb off ((hF vb off).2 (.inl ⟨rfl,jA _,by omega⟩)) ((hF34 vb off).2 (.inl ((hvF vb off).2 rfl)))
 refine(hC sa s.length sc j vb cs cv κ.w0 (by omega) hl1 hl2 hb hcl hvl hvc hc1 hv1 hvf hrow).mono ?_
 rintro e w' ⟨b,o,c',rfl,hlc,hcm,hcc,hrw,hkk⟩
 have hlen:(s.take j ++ [x]++s.drop j).length=s.length+1:=by simp only [rD,AL,GU,aKM,GV];omega
 refine⟨_,rfl,⟨some ⟨b,o,none⟩,c'⟩,by simp [eC,gV,bI,AC.v];omega,⟨R,?_,by simp [roF]⟩,h0⟩
 have hcs:∀w,cJ w (cs.take (j * k)++cv++cs.drop (j * k)) (s.take j ++ [x]++s.drop j) F0:=fun w=>by
  have h:=hall w
  rw [<-TY j s] at h
  obtain⟨c1,c2,G1,G2,e,k1,k2,_,_⟩:=cJ.split h
  have hl:c1.length=j * k:=by rw [k1.length,hn,AL];congr 1;omega
  rw [e,List.take_left' hl,List.drop_left' hl,tN,tN]
  exact cJ.app (WA k1) (show cJ w (cv++c2) ([x]++s.drop j) F0 from cJ.app (aVX (hvo w)) (WA k2) (fun _ _ h=>h.elim) fun _ _=>by simp [F0]) (fun _ _ h=>h.elim) fun _ _=>by simp [F0]
 have:=h1.aTJ (w':=w') [0,1] rfl (A':=[aZ [(⟨some ⟨b,o,none⟩,c'⟩:AC).v (s.take j ++ [x]++s.drop j).length] (s.take j ++ [x]++s.drop j)]) (fun F hF=>by
  obtain⟨F1',F2',q1,q2,q3,q4⟩:=hF
  have q1:aD.own κ.w0 [_] s F1':=q1
  have hown:aD.own w' [(⟨some ⟨b,o,none⟩,c'⟩:AC).v (s.take j ++ [x]++s.drop j).length] (s.take j ++ [x]++s.drop j) (dK b o (c' * k)):=
   kD.2 ⟨_,c',rfl,by rw [hlen];exact hlc,hcm,.inr ⟨b,o,_,F0,rfl,by rw [hn];exact hrw,hcc,hcs w',fun _ _ h=>h.elim,fun b' o'=>by rw [hn];simp [F0]⟩⟩
  rcases hkk with ⟨rfl,rfl,hK⟩ | ⟨hnew,hK⟩
  ·obtain⟨a',c'',he',_,_,hr'⟩:=kD.1 q1
   simp only [AC.v,Value.slice.injEq,true_and] at he'
   obtain⟨rfl,rfl⟩:=he'
   rcases hr' with ⟨h,_⟩ | ⟨b2,o2,cc2,Fe2,h,_,_,_,_,hF2⟩
   ·cases h
   ·cases h
    rw [hn] at hF2
    exact⟨_,_,hK,fun b' o' g=>(q4 b' o').2 (.inl ((hF2 b' o').2 (.inl g))),Sep.one.2 hown,fun b' o' g=>.inl ((q4 b' o').2 (.inl ((hF2 b' o').2 (.inl g))))⟩
  ·exact⟨_,F0,hK,fun _ _ h=>h.elim,Sep.one.2 hown,fun b' o' g=>.inr (by obtain⟨rfl,_⟩:=g;exact hnew)⟩)
 exact this.MZ [2] rfl
noncomputable section
variable {P:Program} {T:TT} {hT:D7 P T} {n:Nat} {c:Ctx} {B0:Bl} {N:Act->World->Prop} {X:Nat->Act->World->Prop} {Q:Act->World->Prop} {K K':List Fr} {m m':Nat} {e e':SE} {L L' Lv:List Ch} {cf cf' cf1 cf2:tO} {o:Oper} {d:Nat}
variable {x:Operand} {t t2 el sz:Nat} {b1 b2 b3:Bool} {n1 n2 n3:Nat} {z1 z2 z3:List SV}
theorem ltL{α:Type}[aD α][Flat α](E:CO α)(y:E.ex)(q:α){zv:Value}(hinf:QW P el sz zv)(hs:i7 T n K cf m e L=.op o Lv cf1 cf2 K' m' e' L')(ho:(o.op,o.dst)=(.buildSlice t 1 #[(0,x)],some d))(ht:AQ T t=some ⟨.sl el,b1,n1,z1⟩)(hn:aD.n α=sz)(hm:Nat.ble 1 sz=true)(hsm:Nat.ble (1 * sz) 16777216=true)(hev:aR (fun p=>(hU e' p.2).map fun v=>nbL (nV v)) [((0:Nat),x)]=some ([q].map fun q=>E.cs q y))(hec:([q].all fun q=>Nat.beq (E.cs q y).length sz && (aR (bI []) (E.cs q y)).isSome)=true)(hL:∀q,E.Lx q y=[])
  (k:∀s':AC,G (.mk P T hT n c B0 N X Q) K' m' ((d,.h s' [q].length) :: e') (L' ++ [.o (cLs s' [q])]) cf2):G (.mk P T hT n c B0 N X Q) K m e L cf:=by
 refine aNW (l:=[q]) (fun s'=>L' ++ [.o (cLs s' [q])]) hs (congrArg Prod.snd ho) (fun _=>vH _) (fun B a w hA hS=>?_) k
 obtain⟨⟨R,s1,s2⟩,s0⟩:=hS
 obtain⟨vs,cells,g1,g2,g3,g4,g5⟩:=lits E y (sz:=sz) hA hL hev hec
 obtain⟨v,rfl⟩:∃v,vs=[v]:=by
  match vs,g2 with
  | [v],_=>exact⟨v,rfl⟩
 obtain⟨ti,hi,hz,hsz,hby⟩:=hinf
 obtain⟨h1,h2⟩:=g5.get hn
 have hcl:cells.length=sz:=by simpa using h1
 have hc:=aCU (len:=1) (m:=sz) (vs:=[v]) (ps:=[(0,x)]) (F:=fun i=>(if 1 * sz=0 then #[] else zv.cells)[i % (if 1 * sz=0 then #[] else zv.cells).size]!) rfl rfl g3 g4
 have hu:=FW ht hT
 have hm0:¬1 * sz=0:=by have:=tQ hm;omega
 have hsm':¬1 * sz > 2 ^ 24:=by have:=tQ hsm;omega
 refine⟨⟨some ⟨w.heap.size,0,none⟩,1⟩,w.alloc (.cells cells.toArray el),fun _ a hA'=>?_,⟨R,?_,fun z hz=>?_⟩,s0⟩
 ·have hps:a.eval x=v:=by
   have:=HC hA' g1
   simpa using this
  have ho':=congrArg Prod.fst ho
  simp only at ho'
  simp only [hm0,if_false] at hc
  have hm1:¬sz=0:=by omega
  have hs1:¬sz > 16777216:=by omega
  simp only [Nat.one_mul,hm1,if_false] at hc
  simp [execOp,ho',Instr.buildSlice,run_underlying hu,sizeOf,typeInfo,zeroValue,hi,hz,hsz,hps,hm1,hs1,AC.v]
  try simp at hc
  simp [hc,newRow]
 ·have:=s1.more (dL.alloc F0 w (.cells cells.toArray el)) (ch:=cLs ⟨some ⟨w.heap.size,0,none⟩,1⟩ [q]) ⟨fun b _=>b=w.heap.size,⟨q,rfl,w.heap.size,cells,rfl,by simp,fun o=>World.frozen?_alloc_at (w:=w) _ _ w.heap.size o rfl,fun j v hj=>?_,fun w'=>?_,fun _ _=>Iff.rfl⟩,fun b o hb=>PG hb.symm⟩
  ·simpa [jN] using this
  ·rw [AM,World.cell?_alloc_at (w:=w) _ _ w.heap.size j rfl];simpa using hj
  ·have:=h2 0 q rfl
   rw [show DL cells sz 0=cells by unfold DL;rw [Nat.zero_mul,MP,<-hcl];exact Q0] at this
   exact Flat.own_of this
 ·rcases gC.1 hz with hz | hz
  ·exact s2 z hz
  ·simp at hz;subst hz;trivial
end
end Go.Gv
end
noncomputable section
namespace Go.Gv
def aLK(k:Nat):List Nat->Bool
 | []=>false
 | a :: r => match Nat.beq k a with
  | true=>true
  | false=>aLK k r
def YB(is:List Nat):Nat->List Ch->List Ch
 | _,[]=>[]
 | k, x :: r => match aLK k is with
  | true=>.no :: YB is (k+1) r
  | false=>x :: YB is (k+1) r
theorem aLL:∀(L:List Ch) (k:Nat),YB [] k L=L
 | [],_=>rfl
 | x :: L,k=>by simp only [YB,aLK,aLL L]
theorem aQR{k i:Nat}(r:List Nat)(h:k≠i):aLK k (i :: r)=aLK k r:=by
 have:Nat.beq k i=false:=by
  cases e:Nat.beq k i
  ·rfl
  ·exact absurd (jJ e) h
 simp only [aLK,this]
theorem aY7(i:Nat)(r:List Nat):aLK i (i :: r)=true:=by
 simp only [aLK,Nat.beq_refl]
theorem aQS(i:Nat)(r:List Nat):∀(L:List Ch) (k:Nat),i < k->YB (i :: r) k L=YB r k L
 | [],_,_=>rfl
 | x :: L, k, h => by
  simp only [YB,aQR r (show k≠i by omega),aQS i r L (k+1) (by omega)]
theorem aLM(i:Nat)(r:List Nat):∀(L:List Ch) (k:Nat),k<=i->YB (i :: r) k L=YB r k (L.set (i - k) .no)
 | [],_,_=>rfl
 | x :: L, k, h => by
  by_cases e:k=i
  ·subst e
   rw [Nat.sub_self]
   simp only [List.set,YB,aY7,aQS k r L (k+1) (by omega)]
   split <;> rfl
  ·obtain⟨d,hd⟩:∃d,i - k=d+1:=⟨i - k - 1,by omega⟩
   have h2:i - (k+1)=d:=by omega
   rw [hd]
   simp only [List.set,YB,aQR r e,aLM i r L (k+1) (by omega),h2]
theorem aVY:∀(is:List Nat) (L:List Ch),FX L is=YB is 0 L
 | [],L=>(aLL L 0).symm
 | i :: r, L => by
  rw [aLM i r L 0 (jK _),Nat.sub_zero]
  exact aVY r _
noncomputable section
variable {P:Program} {T:TT} {hT:D7 P T} {n:Nat} {c:Ctx} {B0:Bl} {N:Act->World->Prop} {X:Nat->Act->World->Prop} {Q:Act->World->Prop} {K K':List Fr} {m m':Nat} {e e':SE} {L L' Lv:List Ch} {cf cf' cf1 cf2:tO} {o:Oper}
variable {α β ex:Type} {fo:Option α} {kf:α->Option β} {q:β} {d:Option Nat} {f:FuncId} {xs xs0:List SV} {M:List Ch} {sv:α->ex->SV} {Lr:α->ex->List Ch}
theorem a4A{c1 c2 c3:List SV}{a1 a2 a3:α->ex->List SV}(i1 n1 o1 k1:Nat)(i2 n2 o2 k2:Nat)(i3 n3 o3 k3:Nat)(is:List Nat)
  (hs:cpS (i7 T n K cf m e L)=some (o,d,f,xs,cf1,cf2,K',m',e',L')) (hb:aC5 L' [(i1,n1,o1,k1),(i2,n2,o2,k2),(i3,n3,o3,k3)]=some [c1,c2,c3]) (hi:aR (fun i=>L'[i]?) is=some M) (hx:aR (rnP [(i1,n1,o1,k1),(i2,n2,o2,k2),(i3,n3,o3,k3)] 0) xs=some xs0)
  (hk:(E3 M && ([c1,c2,c3].all (vG.okC 0) && (cW (i1 :: i2 :: i3 :: is) && (i1 :: i2 :: i3 :: is).all fun j=>fJ j cf1.wR)))=true)
  (hc:∀{κ:Ctx},HG c κ L' (i1 :: i2 :: i3 :: is)->∀{b1 b2 b3:Nat×Nat},VS P κ f fo xs0 [b1,b2,b3] (.box 0 c1 :: .box 1 c2 :: .box 2 c3 :: M) sv (fun x y=>.box 0 (a1 x y) :: .box 1 (a2 x y) :: .box 2 (a3 x y) :: Lr x y))
  (k:∀x,∀y:ex,W (G (.mk P T hT n c B0 N X Q) K' m' (ZS d (sv x y) e') (J0 L' (YB (i1 :: i2 :: i3 :: is) 0 L'++Lr x y) [(i1,n1,o1,k1),(i2,n2,o2,k2),(i3,n3,o3,k3)] [a1 x y,a2 x y,a3 x y]) cf2) q (kf x)) (hn:∀x y,(V7 [(i1,n1,o1,k1),(i2,n2,o2,k2),(i3,n3,o3,k3)] [a1 x y,a2 x y,a3 x y] && ([a1 x y,a2 x y,a3 x y].all (vG.okC 0) && (E3 (Lr x y) && vG 0 (sv x y))))=true:=by exact fun _ _=>rfl):W (G (.mk P T hT n c B0 N X Q) K m e L cf) q (fo.bind kf):=
 a5Q i1 n1 o1 k1 i2 n2 o2 k2 i3 n3 o3 k3 is hs hb hi hx hk hc (fun x y=>by rw [aVY];exact k x y) hn
end
end Go.Gv
end
noncomputable section
namespace Go.Gv
structure cY where
 b:List UInt8
 i:Int
 h:Int
 deriving DecidableEq,Inhabited
instance:aD cY:=aD.via (fun d=>(d.b,d.i,d.h))
instance:Fits cY:=Fits.via (fun d=>(d.b,d.i,d.h))
structure iG where
 Kind:Int
 Key:Int
 dO:Int
 deriving DecidableEq,Inhabited
instance:aD iG:=aD.via (fun d=>(d.Kind,d.Key,d.dO))
instance:Fits iG:=Fits.via (fun d=>(d.Kind,d.Key,d.dO))
theorem a11{S:cB}{w:World}{cs:List Value}{d:iG}(h:aD.rd S w cs d):cs=[.int .i64 (d.Kind),.int .i64 (d.Key),.int .i64 (d.dO)]:=by
 obtain⟨c0,r0,e0,h0,n0⟩:=h
 have q0:c0=[_]:=h0
 obtain⟨c1,r1,e1,h1,n1⟩:=n0
 have q1:c1=[_]:=h1
 have q2:r1=[_]:=n1
 exact by rw [e0,e1,q0,q1,q2];rfl
instance:Flat iG:=⟨fun h=>Flat.own_of (α:=Int×Int×Int) h,fun h=>Flat.no (α:=Int×Int×Int) h⟩
theorem a12(d:iG):OP [.int .i64 (d.Kind),.int .i64 (d.Key),.int .i64 (d.dO)] d []:=(show OP (α:=Int×Int×Int) _ (d.Kind,d.Key,d.dO) _ from (dU (c1:=[.int .i64 (d.Kind)]) (c2:=[.int .i64 (d.Key),.int .i64 (d.dO)]) (A:=[]) (B:=[]) (dN rfl) (dU (c1:=[.int .i64 (d.Key)]) (c2:=[.int .i64 (d.dO)]) (A:=[]) (B:=[]) (dN rfl) (dN rfl) rfl) rfl))
structure Batch where
 Collect:Bool
 bK:List iG
 deriving DecidableEq,Inhabited
instance:aD Batch:=aD.via (fun d=>(d.Collect,d.bK))
instance:Fits Batch:=Fits.via (fun d=>(d.Collect,d.bK))
theorem aLN{S:cB}{w:World}{cs:List Value}{d:Batch}(h:aD.rd S w cs d):∃v0:Value,cs=[.bool (d.Collect),v0]/\aD.rd S w [v0] d.bK:=by
 obtain⟨c0,r0,e0,h0,n0⟩:=h
 have q0:c0=[_]:=h0
 obtain⟨u1,q1⟩:=iF n0
 rw [q1] at n0
 exact⟨u1,by rw [e0,q0,q1];rfl,n0⟩
theorem aLO(d:Batch){v0:Value}:OP [.bool (d.Collect),v0] d [aZ [v0] d.bK]:=(show OP (α:=Bool×(List iG)) _ (d.Collect,d.bK) _ from (dU (c1:=[.bool (d.Collect)]) (c2:=[v0]) (A:=[]) (B:=[aZ [v0] d.bK]) (dN rfl) FV rfl))
structure aI where
 List:List Batch
 deriving DecidableEq,Inhabited
instance:aD aI:=aD.via (fun d=>(d.List))
instance:Fits aI:=Fits.via (fun d=>(d.List))
theorem aRU{S:cB}{w:World}{cs:List Value}{d:aI}(h:aD.rd S w cs d):∃v0:Value,cs=[v0]/\aD.rd S w [v0] d.List:=by
 obtain⟨u0,q0⟩:=iF h
 rw [q0] at h
 exact⟨u0,q0,h⟩
theorem aRV(d:aI){v0:Value}:OP [v0] d [aZ [v0] d.List]:=(show OP (α:=(List Batch)) _ (d.List) _ from FV)
structure vJ where
 gZ:List aI
 iX:List Int
 deriving DecidableEq,Inhabited
instance:aD vJ:=aD.via (fun d=>(d.gZ,d.iX))
instance:Fits vJ:=Fits.via (fun d=>(d.gZ,d.iX))
structure Heap where
 Bytes:List Int
 Class:List Int
 deriving DecidableEq,Inhabited
instance:aD Heap:=aD.via (fun d=>(d.Bytes,d.Class))
instance:Fits Heap:=Fits.via (fun d=>(d.Bytes,d.Class))
structure aO where
 aQ:List Int
 deriving DecidableEq,Inhabited
instance:aD aO:=aD.via (fun d=>(d.aQ))
instance:Fits aO:=Fits.via (fun d=>(d.aQ))
theorem aLP{S:cB}{w:World}{cs:List Value}{d:aO}(h:aD.rd S w cs d):∃v0:Value,cs=[v0]/\aD.rd S w [v0] d.aQ:=by
 obtain⟨u0,q0⟩:=iF h
 rw [q0] at h
 exact⟨u0,q0,h⟩
theorem BA(d:aO){v0:Value}:OP [v0] d [aZ [v0] d.aQ]:=(show OP (α:=(List Int)) _ (d.aQ) _ from FV)
theorem _root_.Go.Gv.St.aVZ{c:Ctx}{L:List Chunk}{R:List Fact}{w:World}{s:Value}{l:List aO}{i:Nat}{x:aO}(h:St c w L R)(j:Nat)(hj:R[j]?=some (zQ [s] l))(hi:l[i]?=some x):∃v0:Value,aV w (MW s) (MO 1 i s) [v0]/\St c w L (R ++ [zQ [v0] x.aQ]):=by
 obtain⟨S,hS,hk⟩:=h.aTD hj
 obtain⟨ec,h1,h2⟩:=aKO hS hi
 obtain⟨v0,q,q0⟩:=aLP h2
 rw [q] at h1
 exact⟨v0,h1,hk _ (by intro f hf;simp only [gW,MR,or_false] at hf;subst hf;exact q0)⟩
structure aA where
 Global:List aO
 Own:List aO
 deriving DecidableEq,Inhabited
instance:aD aA:=aD.via (fun d=>(d.Global,d.Own))
instance:Fits aA:=Fits.via (fun d=>(d.Global,d.Own))
structure Mem where
 Heap:Heap
 aA:aA
 deriving DecidableEq,Inhabited
instance:aD Mem:=aD.via (fun d=>(d.Heap,d.aA))
instance:Fits Mem:=Fits.via (fun d=>(d.Heap,d.aA))
structure sC where
 On:Bool
 aM:Int
 gP:Bool
 Seen:Int
 deriving DecidableEq,Inhabited
instance:aD sC:=aD.via (fun d=>(d.On,d.aM,d.gP,d.Seen))
instance:Fits sC:=Fits.via (fun d=>(d.On,d.aM,d.gP,d.Seen))
theorem a13{S:cB}{w:World}{cs:List Value}{d:sC}(h:aD.rd S w cs d):cs=[.bool (d.On),.int .i64 (d.aM),.bool (d.gP),.int .i64 (d.Seen)]:=by
 obtain⟨c0,r0,e0,h0,n0⟩:=h
 have q0:c0=[_]:=h0
 obtain⟨c1,r1,e1,h1,n1⟩:=n0
 have q1:c1=[_]:=h1
 obtain⟨c2,r2,e2,h2,n2⟩:=n1
 have q2:c2=[_]:=h2
 have q3:r2=[_]:=n2
 exact by rw [e0,e1,e2,q0,q1,q2,q3];rfl
theorem aV0{S:cB}{w:World}(d:sC):aD.rd S w [.bool (d.On),.int .i64 (d.aM),.bool (d.gP),.int .i64 (d.Seen)] d:=⟨[.bool (d.On)],[.int .i64 (d.aM),.bool (d.gP),.int .i64 (d.Seen)],rfl,rfl,⟨[.int .i64 (d.aM)],[.bool (d.gP),.int .i64 (d.Seen)],rfl,rfl,⟨[.bool (d.gP)],[.int .i64 (d.Seen)],rfl,rfl,rfl⟩⟩⟩
instance:Flat sC:=⟨fun h=>Flat.own_of (α:=Bool×Int×Bool×Int) h,fun h=>Flat.no (α:=Bool×Int×Bool×Int) h⟩
theorem a14(d:sC):OP [.bool (d.On),.int .i64 (d.aM),.bool (d.gP),.int .i64 (d.Seen)] d []:=(show OP (α:=Bool×Int×Bool×Int) _ (d.On,d.aM,d.gP,d.Seen) _ from (dU (c1:=[.bool (d.On)]) (c2:=[.int .i64 (d.aM),.bool (d.gP),.int .i64 (d.Seen)]) (A:=[]) (B:=[]) (dN rfl) (dU (c1:=[.int .i64 (d.aM)]) (c2:=[.bool (d.gP),.int .i64 (d.Seen)]) (A:=[]) (B:=[]) (dN rfl) (dU (c1:=[.bool (d.gP)]) (c2:=[.int .i64 (d.Seen)]) (A:=[]) (B:=[]) (dN rfl) (dN rfl) rfl) rfl) rfl))
structure aH where
 aM:Int
 cV:List sC
 deriving DecidableEq,Inhabited
instance:aD aH:=aD.via (fun d=>(d.aM,d.cV))
instance:Fits aH:=Fits.via (fun d=>(d.aM,d.cV))
structure dE where
 Handle:Int
 aM:Int
 deriving DecidableEq,Inhabited
instance:aD dE:=aD.via (fun d=>(d.Handle,d.aM))
instance:Fits dE:=Fits.via (fun d=>(d.Handle,d.aM))
theorem aQT{S:cB}{w:World}{cs:List Value}{d:dE}(h:aD.rd S w cs d):cs=[.int .i64 (d.Handle),.int .i64 (d.aM)]:=by
 obtain⟨c0,r0,e0,h0,n0⟩:=h
 have q0:c0=[_]:=h0
 have q1:r0=[_]:=n0
 exact by rw [e0,q0,q1];rfl
theorem aY8{S:cB}{w:World}(d:dE):aD.rd S w [.int .i64 (d.Handle),.int .i64 (d.aM)] d:=⟨[.int .i64 (d.Handle)],[.int .i64 (d.aM)],rfl,rfl,rfl⟩
instance:Flat dE:=⟨fun h=>Flat.own_of (α:=Int×Int) h,fun h=>Flat.no (α:=Int×Int) h⟩
theorem aY9(d:dE):OP [.int .i64 (d.Handle),.int .i64 (d.aM)] d []:=(show OP (α:=Int×Int) _ (d.Handle,d.aM) _ from (dU (c1:=[.int .i64 (d.Handle)]) (c2:=[.int .i64 (d.aM)]) (A:=[]) (B:=[]) (dN rfl) (dN rfl) rfl))
theorem aZA{S:cB}{w:World}{s:Value}{l:List dE}{i:Nat}{x:dE}(h:aD.rd S w [s] l)(hi:l[i]?=some x):aV w (MW s) (MO 2 i s) [.int .i64 (x.Handle),.int .i64 (x.aM)]:=by
 obtain⟨ec,h1,h2⟩:=aKO h hi
 rw [aQT h2] at h1;exact h1
structure bB where
 Rows:List dE
 deriving DecidableEq,Inhabited
instance:aD bB:=aD.via (fun d=>(d.Rows))
instance:Fits bB:=Fits.via (fun d=>(d.Rows))
theorem aLQ{S:cB}{w:World}{cs:List Value}{d:bB}(h:aD.rd S w cs d):∃v0:Value,cs=[v0]/\aD.rd S w [v0] d.Rows:=by
 obtain⟨u0,q0⟩:=iF h
 rw [q0] at h
 exact⟨u0,q0,h⟩
theorem aC8(d:bB){v0:Value}:OP [v0] d [aZ [v0] d.Rows]:=(show OP (α:=(List dE)) _ (d.Rows) _ from FV)
theorem _root_.Go.Gv.St.aLR{c:Ctx}{L:List Chunk}{R:List Fact}{w:World}{s:Value}{l:List bB}{i:Nat}{x:bB}(h:St c w L R)(j:Nat)(hj:R[j]?=some (zQ [s] l))(hi:l[i]?=some x):∃v0:Value,aV w (MW s) (MO 1 i s) [v0]/\St c w L (R ++ [zQ [v0] x.Rows]):=by
 obtain⟨S,hS,hk⟩:=h.aTD hj
 obtain⟨ec,h1,h2⟩:=aKO hS hi
 obtain⟨v0,q,q0⟩:=aLQ h2
 rw [q] at h1
 exact⟨v0,h1,hk _ (by intro f hf;simp only [gW,MR,or_false] at hf;subst hf;exact q0)⟩
structure aB where
 Mem:Mem
 aH:aH
 bJ:List bB
 A4:List Int
 deriving DecidableEq,Inhabited
instance:aD aB:=aD.via (fun d=>(d.Mem,d.aH,d.bJ,d.A4))
instance:Fits aB:=Fits.via (fun d=>(d.Mem,d.aH,d.bJ,d.A4))
structure bT where
 Head:Int
 fM:Int
 fO:Int
 deriving DecidableEq,Inhabited
instance:aD bT:=aD.via (fun d=>(d.Head,d.fM,d.fO))
instance:Fits bT:=Fits.via (fun d=>(d.Head,d.fM,d.fO))
theorem a15{S:cB}{w:World}{cs:List Value}{d:bT}(h:aD.rd S w cs d):cs=[.int .i64 (d.Head),.int .i64 (d.fM),.int .i64 (d.fO)]:=by
 obtain⟨c0,r0,e0,h0,n0⟩:=h
 have q0:c0=[_]:=h0
 obtain⟨c1,r1,e1,h1,n1⟩:=n0
 have q1:c1=[_]:=h1
 have q2:r1=[_]:=n1
 exact by rw [e0,e1,q0,q1,q2];rfl
theorem sO{S:cB}{w:World}(d:bT):aD.rd S w [.int .i64 (d.Head),.int .i64 (d.fM),.int .i64 (d.fO)] d:=⟨[.int .i64 (d.Head)],[.int .i64 (d.fM),.int .i64 (d.fO)],rfl,rfl,⟨[.int .i64 (d.fM)],[.int .i64 (d.fO)],rfl,rfl,rfl⟩⟩
instance:Flat bT:=⟨fun h=>Flat.own_of (α:=Int×Int×Int) h,fun h=>Flat.no (α:=Int×Int×Int) h⟩
theorem a16(d:bT):OP [.int .i64 (d.Head),.int .i64 (d.fM),.int .i64 (d.fO)] d []:=(show OP (α:=Int×Int×Int) _ (d.Head,d.fM,d.fO) _ from (dU (c1:=[.int .i64 (d.Head)]) (c2:=[.int .i64 (d.fM),.int .i64 (d.fO)]) (A:=[]) (B:=[]) (dN rfl) (dU (c1:=[.int .i64 (d.fM)]) (c2:=[.int .i64 (d.fO)]) (A:=[]) (B:=[]) (dN rfl) (dN rfl) rfl) rfl))
structure bP where
 Key:Int
 dO:Int
 Next:Int
 deriving DecidableEq,Inhabited
instance:aD bP:=aD.via (fun d=>(d.Key,d.dO,d.Next))
instance:Fits bP:=Fits.via (fun d=>(d.Key,d.dO,d.Next))
theorem aV1{S:cB}{w:World}{cs:List Value}{d:bP}(h:aD.rd S w cs d):cs=[.int .i64 (d.Key),.int .i64 (d.dO),.int .i64 (d.Next)]:=by
 obtain⟨c0,r0,e0,h0,n0⟩:=h
 have q0:c0=[_]:=h0
 obtain⟨c1,r1,e1,h1,n1⟩:=n0
 have q1:c1=[_]:=h1
 have q2:r1=[_]:=n1
 exact by rw [e0,e1,q0,q1,q2];rfl
theorem aV2{S:cB}{w:World}(d:bP):aD.rd S w [.int .i64 (d.Key),.int .i64 (d.dO),.int .i64 (d.Next)] d:=⟨[.int .i64 (d.Key)],[.int .i64 (d.dO),.int .i64 (d.Next)],rfl,rfl,⟨[.int .i64 (d.dO)],[.int .i64 (d.Next)],rfl,rfl,rfl⟩⟩
instance:Flat bP:=⟨fun h=>Flat.own_of (α:=Int×Int×Int) h,fun h=>Flat.no (α:=Int×Int×Int) h⟩
structure Sub where
 Kind:Int
 A:Int
 Pc:Int
 E:Int
 Row:Int
 B:Int
 H:Int
 Out:Int
 Code:Int
 dJ:Bool
 deriving DecidableEq,Inhabited
instance:aD Sub:=aD.via (fun d=>(d.Kind,d.A,d.Pc,d.E,d.Row,d.B,d.H,d.Out,d.Code,d.dJ))
instance:Fits Sub:=Fits.via (fun d=>(d.Kind,d.A,d.Pc,d.E,d.Row,d.B,d.H,d.Out,d.Code,d.dJ))
theorem a17{S:cB}{w:World}{cs:List Value}{d:Sub}(h:aD.rd S w cs d):cs=[.int .i64 (d.Kind),.int .i64 (d.A),.int .i64 (d.Pc),.int .i64 (d.E),.int .i64 (d.Row),.int .i64 (d.B),.int .i64 (d.H),.int .i64 (d.Out),.int .i64 (d.Code),.bool (d.dJ)]:=by
 obtain⟨c0,r0,e0,h0,n0⟩:=h
 have q0:c0=[_]:=h0
 obtain⟨c1,r1,e1,h1,n1⟩:=n0
 have q1:c1=[_]:=h1
 obtain⟨c2,r2,e2,h2,n2⟩:=n1
 have q2:c2=[_]:=h2
 obtain⟨c3,r3,e3,h3,n3⟩:=n2
 have q3:c3=[_]:=h3
 obtain⟨c4,r4,e4,h4,n4⟩:=n3
 have q4:c4=[_]:=h4
 obtain⟨c5,r5,e5,h5,n5⟩:=n4
 have q5:c5=[_]:=h5
 obtain⟨c6,r6,e6,h6,n6⟩:=n5
 have q6:c6=[_]:=h6
 obtain⟨c7,r7,e7,h7,n7⟩:=n6
 have q7:c7=[_]:=h7
 obtain⟨c8,r8,e8,h8,n8⟩:=n7
 have q8:c8=[_]:=h8
 have q9:r8=[_]:=n8
 exact by rw [e0,e1,e2,e3,e4,e5,e6,e7,e8,q0,q1,q2,q3,q4,q5,q6,q7,q8,q9];rfl
theorem a18{S:cB}{w:World}(d:Sub):aD.rd S w [.int .i64 (d.Kind),.int .i64 (d.A),.int .i64 (d.Pc),.int .i64 (d.E),.int .i64 (d.Row),.int .i64 (d.B),.int .i64 (d.H),.int .i64 (d.Out),.int .i64 (d.Code),.bool (d.dJ)] d:=⟨[.int .i64 (d.Kind)],[.int .i64 (d.A),.int .i64 (d.Pc),.int .i64 (d.E),.int .i64 (d.Row),.int .i64 (d.B),.int .i64 (d.H),.int .i64 (d.Out),.int .i64 (d.Code),.bool (d.dJ)],rfl,rfl,⟨[.int .i64 (d.A)],[.int .i64 (d.Pc),.int .i64 (d.E),.int .i64 (d.Row),.int .i64 (d.B),.int .i64 (d.H),.int .i64 (d.Out),.int .i64 (d.Code),.bool (d.dJ)],rfl,rfl,⟨[.int .i64 (d.Pc)],[.int .i64 (d.E),.int .i64 (d.Row),.int .i64 (d.B),.int .i64 (d.H),.int .i64 (d.Out),.int .i64 (d.Code),.bool (d.dJ)],rfl,rfl,⟨[.int .i64 (d.E)],[.int .i64 (d.Row),.int .i64 (d.B),.int .i64 (d.H),.int .i64 (d.Out),.int .i64 (d.Code),.bool (d.dJ)],rfl,rfl,⟨[.int .i64 (d.Row)],[.int .i64 (d.B),.int .i64 (d.H),.int .i64 (d.Out),.int .i64 (d.Code),.bool (d.dJ)],rfl,rfl,⟨[.int .i64 (d.B)],[.int .i64 (d.H),.int .i64 (d.Out),.int .i64 (d.Code),.bool (d.dJ)],rfl,rfl,⟨[.int .i64 (d.H)],[.int .i64 (d.Out),.int .i64 (d.Code),.bool (d.dJ)],rfl,rfl,⟨[.int .i64 (d.Out)],[.int .i64 (d.Code),.bool (d.dJ)],rfl,rfl,⟨[.int .i64 (d.Code)],[.bool (d.dJ)],rfl,rfl,rfl⟩⟩⟩⟩⟩⟩⟩⟩⟩
instance:Flat Sub:=⟨fun h=>Flat.own_of (α:=Int×Int×Int×Int×Int×Int×Int×Int×Int×Bool) h,fun h=>Flat.no (α:=Int×Int×Int×Int×Int×Int×Int×Int×Int×Bool) h⟩
structure Seen where
 bT:Int
 fM:Int
 deriving DecidableEq,Inhabited
instance:aD Seen:=aD.via (fun d=>(d.bT,d.fM))
instance:Fits Seen:=Fits.via (fun d=>(d.bT,d.fM))
theorem aZB{S:cB}{w:World}{cs:List Value}{d:Seen}(h:aD.rd S w cs d):cs=[.int .i64 (d.bT),.int .i64 (d.fM)]:=by
 obtain⟨c0,r0,e0,h0,n0⟩:=h
 have q0:c0=[_]:=h0
 have q1:r0=[_]:=n0
 exact by rw [e0,q0,q1];rfl
instance:Flat Seen:=⟨fun h=>Flat.own_of (α:=Int×Int) h,fun h=>Flat.no (α:=Int×Int) h⟩
theorem aZC(d:Seen):OP [.int .i64 (d.bT),.int .i64 (d.fM)] d []:=(show OP (α:=Int×Int) _ (d.bT,d.fM) _ from (dU (c1:=[.int .i64 (d.bT)]) (c2:=[.int .i64 (d.fM)]) (A:=[]) (B:=[]) (dN rfl) (dN rfl) rfl))
structure aU where
 Key:Int
 GX:Bool
 dO:Int
 deriving DecidableEq,Inhabited
instance:aD aU:=aD.via (fun d=>(d.Key,d.GX,d.dO))
instance:Fits aU:=Fits.via (fun d=>(d.Key,d.GX,d.dO))
theorem aV3{S:cB}{w:World}{cs:List Value}{d:aU}(h:aD.rd S w cs d):cs=[.int .i64 (d.Key),.bool (d.GX),.int .i64 (d.dO)]:=by
 obtain⟨c0,r0,e0,h0,n0⟩:=h
 have q0:c0=[_]:=h0
 obtain⟨c1,r1,e1,h1,n1⟩:=n0
 have q1:c1=[_]:=h1
 have q2:r1=[_]:=n1
 exact by rw [e0,e1,q0,q1,q2];rfl
theorem aV4{S:cB}{w:World}(d:aU):aD.rd S w [.int .i64 (d.Key),.bool (d.GX),.int .i64 (d.dO)] d:=⟨[.int .i64 (d.Key)],[.bool (d.GX),.int .i64 (d.dO)],rfl,rfl,⟨[.bool (d.GX)],[.int .i64 (d.dO)],rfl,rfl,rfl⟩⟩
instance:Flat aU:=⟨fun h=>Flat.own_of (α:=Int×Bool×Int) h,fun h=>Flat.no (α:=Int×Bool×Int) h⟩
theorem aV5(d:aU):OP [.int .i64 (d.Key),.bool (d.GX),.int .i64 (d.dO)] d []:=(show OP (α:=Int×Bool×Int) _ (d.Key,d.GX,d.dO) _ from (dU (c1:=[.int .i64 (d.Key)]) (c2:=[.bool (d.GX),.int .i64 (d.dO)]) (A:=[]) (B:=[]) (dN rfl) (dU (c1:=[.bool (d.GX)]) (c2:=[.int .i64 (d.dO)]) (A:=[]) (B:=[]) (dN rfl) (dN rfl) rfl) rfl))
structure eA where
 Is:Bool
 dO:Int
 deriving DecidableEq,Inhabited
instance:aD eA:=aD.via (fun d=>(d.Is,d.dO))
instance:Fits eA:=Fits.via (fun d=>(d.Is,d.dO))
theorem a19{S:cB}{w:World}{cs:List Value}{d:eA}(h:aD.rd S w cs d):cs=[.bool (d.Is),.int .i64 (d.dO)]:=by
 obtain⟨c0,r0,e0,h0,n0⟩:=h
 have q0:c0=[_]:=h0
 have q1:r0=[_]:=n0
 exact by rw [e0,q0,q1];rfl
instance:Flat eA:=⟨fun h=>Flat.own_of (α:=Bool×Int) h,fun h=>Flat.no (α:=Bool×Int) h⟩
theorem a2A(d:eA):OP [.bool (d.Is),.int .i64 (d.dO)] d []:=(show OP (α:=Bool×Int) _ (d.Is,d.dO) _ from (dU (c1:=[.bool (d.Is)]) (c2:=[.int .i64 (d.dO)]) (A:=[]) (B:=[]) (dN rfl) (dN rfl) rfl))
structure aE where
 iY:Bool
 Batch:Batch
 aS:Int
 Pc:Int
 At:Int
 K:Int
 bT:Int
 fM:Int
 H:Int
 fF:Int
 Node:bP
 Found:Bool
 Code:Int
 Sub:Sub
 Reads:List Seen
 aJ:List aU
 eA:List eA
 fL:List Int
 aW:List Int
 cG:List Int
 deriving DecidableEq,Inhabited
instance:aD aE:=aD.via (fun d=>(d.iY,d.Batch,d.aS,d.Pc,d.At,d.K,d.bT,d.fM,d.H,d.fF,d.Node,d.Found,d.Code,d.Sub,d.Reads,d.aJ,d.eA,d.fL,d.aW,d.cG))
instance:Fits aE:=Fits.via (fun d=>(d.iY,d.Batch,d.aS,d.Pc,d.At,d.K,d.bT,d.fM,d.H,d.fF,d.Node,d.Found,d.Code,d.Sub,d.Reads,d.aJ,d.eA,d.fL,d.aW,d.cG))
theorem aZD{S:cB}{w:World}{cs:List Value}{d:aE}(h:aD.rd S w cs d):∃v0 v1 v2 v3 v4 v5 v6:Value,cs=[.bool (d.iY),.bool (d.Batch.Collect),v0,.int .i64 (d.aS),.int .i64 (d.Pc),.int .i64 (d.At),.int .i64 (d.K),.int .i64 (d.bT),.int .i64 (d.fM),.int .i64 (d.H),.int .i64 (d.fF),.int .i64 (d.Node.Key),.int .i64 (d.Node.dO),.int .i64 (d.Node.Next),.bool (d.Found),.int .i64 (d.Code),.int .i64 (d.Sub.Kind),.int .i64 (d.Sub.A),.int .i64 (d.Sub.Pc),.int .i64 (d.Sub.E),.int .i64 (d.Sub.Row),.int .i64 (d.Sub.B),.int .i64 (d.Sub.H),.int .i64 (d.Sub.Out),.int .i64 (d.Sub.Code),.bool (d.Sub.dJ),v1,v2,v3,v4,v5,v6]/\aD.rd S w [v0] d.Batch.bK/\aD.rd S w [v1] d.Reads/\aD.rd S w [v2] d.aJ/\aD.rd S w [v3] d.eA/\aD.rd S w [v4] d.fL/\aD.rd S w [v5] d.aW/\aD.rd S w [v6] d.cG:=by
 obtain⟨c0,r0,e0,h0,n0⟩:=h
 have q0:c0=[_]:=h0
 obtain⟨c1,r1,e1,h1,n1⟩:=n0
 obtain⟨u1_0,q1,hq1_0⟩:=aLN h1
 obtain⟨c2,r2,e2,h2,n2⟩:=n1
 have q2:c2=[_]:=h2
 obtain⟨c3,r3,e3,h3,n3⟩:=n2
 have q3:c3=[_]:=h3
 obtain⟨c4,r4,e4,h4,n4⟩:=n3
 have q4:c4=[_]:=h4
 obtain⟨c5,r5,e5,h5,n5⟩:=n4
 have q5:c5=[_]:=h5
 obtain⟨c6,r6,e6,h6,n6⟩:=n5
 have q6:c6=[_]:=h6
 obtain⟨c7,r7,e7,h7,n7⟩:=n6
 have q7:c7=[_]:=h7
 obtain⟨c8,r8,e8,h8,n8⟩:=n7
 have q8:c8=[_]:=h8
 obtain⟨c9,r9,e9,h9,n9⟩:=n8
 have q9:c9=[_]:=h9
 obtain⟨c10,r10,e10,h10,n10⟩:=n9
 have q10:=aV1 h10
 obtain⟨c11,r11,e11,h11,n11⟩:=n10
 have q11:c11=[_]:=h11
 obtain⟨c12,r12,e12,h12,n12⟩:=n11
 have q12:c12=[_]:=h12
 obtain⟨c13,r13,e13,h13,n13⟩:=n12
 have q13:=a17 h13
 obtain⟨c14,r14,e14,h14,n14⟩:=n13
 obtain⟨u14,q14⟩:=iF h14
 rw [q14] at h14
 obtain⟨c15,r15,e15,h15,n15⟩:=n14
 obtain⟨u15,q15⟩:=iF h15
 rw [q15] at h15
 obtain⟨c16,r16,e16,h16,n16⟩:=n15
 obtain⟨u16,q16⟩:=iF h16
 rw [q16] at h16
 obtain⟨c17,r17,e17,h17,n17⟩:=n16
 obtain⟨u17,q17⟩:=iF h17
 rw [q17] at h17
 obtain⟨c18,r18,e18,h18,n18⟩:=n17
 obtain⟨u18,q18⟩:=iF h18
 rw [q18] at h18
 obtain⟨u19,q19⟩:=iF n18
 rw [q19] at n18
 exact⟨u1_0,u14,u15,u16,u17,u18,u19,by rw [e0,e1,e2,e3,e4,e5,e6,e7,e8,e9,e10,e11,e12,e13,e14,e15,e16,e17,e18,q0,q1,q2,q3,q4,q5,q6,q7,q8,q9,q10,q11,q12,q13,q14,q15,q16,q17,q18,q19];rfl,hq1_0,h14,h15,h16,h17,h18,n18⟩
theorem lH(d:aE){v0:Value}{v1:Value}{v2:Value}{v3:Value}{v4:Value}{v5:Value}{v6:Value}:OP [.bool (d.iY),.bool (d.Batch.Collect),v0,.int .i64 (d.aS),.int .i64 (d.Pc),.int .i64 (d.At),.int .i64 (d.K),.int .i64 (d.bT),.int .i64 (d.fM),.int .i64 (d.H),.int .i64 (d.fF),.int .i64 (d.Node.Key),.int .i64 (d.Node.dO),.int .i64 (d.Node.Next),.bool (d.Found),.int .i64 (d.Code),.int .i64 (d.Sub.Kind),.int .i64 (d.Sub.A),.int .i64 (d.Sub.Pc),.int .i64 (d.Sub.E),.int .i64 (d.Sub.Row),.int .i64 (d.Sub.B),.int .i64 (d.Sub.H),.int .i64 (d.Sub.Out),.int .i64 (d.Sub.Code),.bool (d.Sub.dJ),v1,v2,v3,v4,v5,v6] d [aZ [v0] d.Batch.bK,aZ [v1] d.Reads,aZ [v2] d.aJ,aZ [v3] d.eA,aZ [v4] d.fL,aZ [v5] d.aW,aZ [v6] d.cG]:=(show OP (α:=Bool×Batch×Int×Int×Int×Int×Int×Int×Int×Int×bP×Bool×Int×Sub×(List Seen)×(List aU)×(List eA)×(List Int)×(List Int)×(List Int)) _ (d.iY,d.Batch,d.aS,d.Pc,d.At,d.K,d.bT,d.fM,d.H,d.fF,d.Node,d.Found,d.Code,d.Sub,d.Reads,d.aJ,d.eA,d.fL,d.aW,d.cG) _ from (dU (c1:=[.bool (d.iY)]) (c2:=[.bool (d.Batch.Collect),v0,.int .i64 (d.aS),.int .i64 (d.Pc),.int .i64 (d.At),.int .i64 (d.K),.int .i64 (d.bT),.int .i64 (d.fM),.int .i64 (d.H),.int .i64 (d.fF),.int .i64 (d.Node.Key),.int .i64 (d.Node.dO),.int .i64 (d.Node.Next),.bool (d.Found),.int .i64 (d.Code),.int .i64 (d.Sub.Kind),.int .i64 (d.Sub.A),.int .i64 (d.Sub.Pc),.int .i64 (d.Sub.E),.int .i64 (d.Sub.Row),.int .i64 (d.Sub.B),.int .i64 (d.Sub.H),.int .i64 (d.Sub.Out),.int .i64 (d.Sub.Code),.bool (d.Sub.dJ),v1,v2,v3,v4,v5,v6]) (A:=[]) (B:=[aZ [v0] d.Batch.bK,aZ [v1] d.Reads,aZ [v2] d.aJ,aZ [v3] d.eA,aZ [v4] d.fL,aZ [v5] d.aW,aZ [v6] d.cG]) (dN rfl) (dU (c1:=[.bool (d.Batch.Collect),v0]) (c2:=[.int .i64 (d.aS),.int .i64 (d.Pc),.int .i64 (d.At),.int .i64 (d.K),.int .i64 (d.bT),.int .i64 (d.fM),.int .i64 (d.H),.int .i64 (d.fF),.int .i64 (d.Node.Key),.int .i64 (d.Node.dO),.int .i64 (d.Node.Next),.bool (d.Found),.int .i64 (d.Code),.int .i64 (d.Sub.Kind),.int .i64 (d.Sub.A),.int .i64 (d.Sub.Pc),.int .i64 (d.Sub.E),.int .i64 (d.Sub.Row),.int .i64 (d.Sub.B),.int .i64 (d.Sub.H),.int .i64 (d.Sub.Out),.int .i64 (d.Sub.Code),.bool (d.Sub.dJ),v1,v2,v3,v4,v5,v6]) (A:=[aZ [v0] d.Batch.bK]) (B:=[aZ [v1] d.Reads,aZ [v2] d.aJ,aZ [v3] d.eA,aZ [v4] d.fL,aZ [v5] d.aW,aZ [v6] d.cG]) (aLO _) (dU (c1:=[.int .i64 (d.aS)]) (c2:=[.int .i64 (d.Pc),.int .i64 (d.At),.int .i64 (d.K),.int .i64 (d.bT),.int .i64 (d.fM),.int .i64 (d.H),.int .i64 (d.fF),.int .i64 (d.Node.Key),.int .i64 (d.Node.dO),.int .i64 (d.Node.Next),.bool (d.Found),.int .i64 (d.Code),.int .i64 (d.Sub.Kind),.int .i64 (d.Sub.A),.int .i64 (d.Sub.Pc),.int .i64 (d.Sub.E),.int .i64 (d.Sub.Row),.int .i64 (d.Sub.B),.int .i64 (d.Sub.H),.int .i64 (d.Sub.Out),.int .i64 (d.Sub.Code),.bool (d.Sub.dJ),v1,v2,v3,v4,v5,v6]) (A:=[]) (B:=[aZ [v1] d.Reads,aZ [v2] d.aJ,aZ [v3] d.eA,aZ [v4] d.fL,aZ [v5] d.aW,aZ [v6] d.cG]) (dN rfl) (dU (c1:=[.int .i64 (d.Pc)]) (c2:=[.int .i64 (d.At),.int .i64 (d.K),.int .i64 (d.bT),.int .i64 (d.fM),.int .i64 (d.H),.int .i64 (d.fF),.int .i64 (d.Node.Key),.int .i64 (d.Node.dO),.int .i64 (d.Node.Next),.bool (d.Found),.int .i64 (d.Code),.int .i64 (d.Sub.Kind),.int .i64 (d.Sub.A),.int .i64 (d.Sub.Pc),.int .i64 (d.Sub.E),.int .i64 (d.Sub.Row),.int .i64 (d.Sub.B),.int .i64 (d.Sub.H),.int .i64 (d.Sub.Out),.int .i64 (d.Sub.Code),.bool (d.Sub.dJ),v1,v2,v3,v4,v5,v6]) (A:=[]) (B:=[aZ [v1] d.Reads,aZ [v2] d.aJ,aZ [v3] d.eA,aZ [v4] d.fL,aZ [v5] d.aW,aZ [v6] d.cG]) (dN rfl) (dU (c1:=[.int .i64 (d.At)]) (c2:=[.int .i64 (d.K),.int .i64 (d.bT),.int .i64 (d.fM),.int .i64 (d.H),.int .i64 (d.fF),.int .i64 (d.Node.Key),.int .i64 (d.Node.dO),.int .i64 (d.Node.Next),.bool (d.Found),.int .i64 (d.Code),.int .i64 (d.Sub.Kind),.int .i64 (d.Sub.A),.int .i64 (d.Sub.Pc),.int .i64 (d.Sub.E),.int .i64 (d.Sub.Row),.int .i64 (d.Sub.B),.int .i64 (d.Sub.H),.int .i64 (d.Sub.Out),.int .i64 (d.Sub.Code),.bool (d.Sub.dJ),v1,v2,v3,v4,v5,v6]) (A:=[]) (B:=[aZ [v1] d.Reads,aZ [v2] d.aJ,aZ [v3] d.eA,aZ [v4] d.fL,aZ [v5] d.aW,aZ [v6] d.cG]) (dN rfl) (dU (c1:=[.int .i64 (d.K)]) (c2:=[.int .i64 (d.bT),.int .i64 (d.fM),.int .i64 (d.H),.int .i64 (d.fF),.int .i64 (d.Node.Key),.int .i64 (d.Node.dO),.int .i64 (d.Node.Next),.bool (d.Found),.int .i64 (d.Code),.int .i64 (d.Sub.Kind),.int .i64 (d.Sub.A),.int .i64 (d.Sub.Pc),.int .i64 (d.Sub.E),.int .i64 (d.Sub.Row),.int .i64 (d.Sub.B),.int .i64 (d.Sub.H),.int .i64 (d.Sub.Out),.int .i64 (d.Sub.Code),.bool (d.Sub.dJ),v1,v2,v3,v4,v5,v6]) (A:=[]) (B:=[aZ [v1] d.Reads,aZ [v2] d.aJ,aZ [v3] d.eA,aZ [v4] d.fL,aZ [v5] d.aW,aZ [v6] d.cG]) (dN rfl) (dU (c1:=[.int .i64 (d.bT)]) (c2:=[.int .i64 (d.fM),.int .i64 (d.H),.int .i64 (d.fF),.int .i64 (d.Node.Key),.int .i64 (d.Node.dO),.int .i64 (d.Node.Next),.bool (d.Found),.int .i64 (d.Code),.int .i64 (d.Sub.Kind),.int .i64 (d.Sub.A),.int .i64 (d.Sub.Pc),.int .i64 (d.Sub.E),.int .i64 (d.Sub.Row),.int .i64 (d.Sub.B),.int .i64 (d.Sub.H),.int .i64 (d.Sub.Out),.int .i64 (d.Sub.Code),.bool (d.Sub.dJ),v1,v2,v3,v4,v5,v6]) (A:=[]) (B:=[aZ [v1] d.Reads,aZ [v2] d.aJ,aZ [v3] d.eA,aZ [v4] d.fL,aZ [v5] d.aW,aZ [v6] d.cG]) (dN rfl) (dU (c1:=[.int .i64 (d.fM)]) (c2:=[.int .i64 (d.H),.int .i64 (d.fF),.int .i64 (d.Node.Key),.int .i64 (d.Node.dO),.int .i64 (d.Node.Next),.bool (d.Found),.int .i64 (d.Code),.int .i64 (d.Sub.Kind),.int .i64 (d.Sub.A),.int .i64 (d.Sub.Pc),.int .i64 (d.Sub.E),.int .i64 (d.Sub.Row),.int .i64 (d.Sub.B),.int .i64 (d.Sub.H),.int .i64 (d.Sub.Out),.int .i64 (d.Sub.Code),.bool (d.Sub.dJ),v1,v2,v3,v4,v5,v6]) (A:=[]) (B:=[aZ [v1] d.Reads,aZ [v2] d.aJ,aZ [v3] d.eA,aZ [v4] d.fL,aZ [v5] d.aW,aZ [v6] d.cG]) (dN rfl) (dU (c1:=[.int .i64 (d.H)]) (c2:=[.int .i64 (d.fF),.int .i64 (d.Node.Key),.int .i64 (d.Node.dO),.int .i64 (d.Node.Next),.bool (d.Found),.int .i64 (d.Code),.int .i64 (d.Sub.Kind),.int .i64 (d.Sub.A),.int .i64 (d.Sub.Pc),.int .i64 (d.Sub.E),.int .i64 (d.Sub.Row),.int .i64 (d.Sub.B),.int .i64 (d.Sub.H),.int .i64 (d.Sub.Out),.int .i64 (d.Sub.Code),.bool (d.Sub.dJ),v1,v2,v3,v4,v5,v6]) (A:=[]) (B:=[aZ [v1] d.Reads,aZ [v2] d.aJ,aZ [v3] d.eA,aZ [v4] d.fL,aZ [v5] d.aW,aZ [v6] d.cG]) (dN rfl) (dU (c1:=[.int .i64 (d.fF)]) (c2:=[.int .i64 (d.Node.Key),.int .i64 (d.Node.dO),.int .i64 (d.Node.Next),.bool (d.Found),.int .i64 (d.Code),.int .i64 (d.Sub.Kind),.int .i64 (d.Sub.A),.int .i64 (d.Sub.Pc),.int .i64 (d.Sub.E),.int .i64 (d.Sub.Row),.int .i64 (d.Sub.B),.int .i64 (d.Sub.H),.int .i64 (d.Sub.Out),.int .i64 (d.Sub.Code),.bool (d.Sub.dJ),v1,v2,v3,v4,v5,v6]) (A:=[]) (B:=[aZ [v1] d.Reads,aZ [v2] d.aJ,aZ [v3] d.eA,aZ [v4] d.fL,aZ [v5] d.aW,aZ [v6] d.cG]) (dN rfl) (dU (c1:=[.int .i64 (d.Node.Key),.int .i64 (d.Node.dO),.int .i64 (d.Node.Next)]) (c2:=[.bool (d.Found),.int .i64 (d.Code),.int .i64 (d.Sub.Kind),.int .i64 (d.Sub.A),.int .i64 (d.Sub.Pc),.int .i64 (d.Sub.E),.int .i64 (d.Sub.Row),.int .i64 (d.Sub.B),.int .i64 (d.Sub.H),.int .i64 (d.Sub.Out),.int .i64 (d.Sub.Code),.bool (d.Sub.dJ),v1,v2,v3,v4,v5,v6]) (A:=[]) (B:=[aZ [v1] d.Reads,aZ [v2] d.aJ,aZ [v3] d.eA,aZ [v4] d.fL,aZ [v5] d.aW,aZ [v6] d.cG]) (dN (aV2 _)) (dU (c1:=[.bool (d.Found)]) (c2:=[.int .i64 (d.Code),.int .i64 (d.Sub.Kind),.int .i64 (d.Sub.A),.int .i64 (d.Sub.Pc),.int .i64 (d.Sub.E),.int .i64 (d.Sub.Row),.int .i64 (d.Sub.B),.int .i64 (d.Sub.H),.int .i64 (d.Sub.Out),.int .i64 (d.Sub.Code),.bool (d.Sub.dJ),v1,v2,v3,v4,v5,v6]) (A:=[]) (B:=[aZ [v1] d.Reads,aZ [v2] d.aJ,aZ [v3] d.eA,aZ [v4] d.fL,aZ [v5] d.aW,aZ [v6] d.cG]) (dN rfl) (dU (c1:=[.int .i64 (d.Code)]) (c2:=[.int .i64 (d.Sub.Kind),.int .i64 (d.Sub.A),.int .i64 (d.Sub.Pc),.int .i64 (d.Sub.E),.int .i64 (d.Sub.Row),.int .i64 (d.Sub.B),.int .i64 (d.Sub.H),.int .i64 (d.Sub.Out),.int .i64 (d.Sub.Code),.bool (d.Sub.dJ),v1,v2,v3,v4,v5,v6]) (A:=[]) (B:=[aZ [v1] d.Reads,aZ [v2] d.aJ,aZ [v3] d.eA,aZ [v4] d.fL,aZ [v5] d.aW,aZ [v6] d.cG]) (dN rfl) (dU (c1:=[.int .i64 (d.Sub.Kind),.int .i64 (d.Sub.A),.int .i64 (d.Sub.Pc),.int .i64 (d.Sub.E),.int .i64 (d.Sub.Row),.int .i64 (d.Sub.B),.int .i64 (d.Sub.H),.int .i64 (d.Sub.Out),.int .i64 (d.Sub.Code),.bool (d.Sub.dJ)]) (c2:=[v1,v2,v3,v4,v5,v6]) (A:=[]) (B:=[aZ [v1] d.Reads,aZ [v2] d.aJ,aZ [v3] d.eA,aZ [v4] d.fL,aZ [v5] d.aW,aZ [v6] d.cG]) (dN (a18 _)) (dU (c1:=[v1]) (c2:=[v2,v3,v4,v5,v6]) (A:=[aZ [v1] d.Reads]) (B:=[aZ [v2] d.aJ,aZ [v3] d.eA,aZ [v4] d.fL,aZ [v5] d.aW,aZ [v6] d.cG]) FV (dU (c1:=[v2]) (c2:=[v3,v4,v5,v6]) (A:=[aZ [v2] d.aJ]) (B:=[aZ [v3] d.eA,aZ [v4] d.fL,aZ [v5] d.aW,aZ [v6] d.cG]) FV (dU (c1:=[v3]) (c2:=[v4,v5,v6]) (A:=[aZ [v3] d.eA]) (B:=[aZ [v4] d.fL,aZ [v5] d.aW,aZ [v6] d.cG]) FV (dU (c1:=[v4]) (c2:=[v5,v6]) (A:=[aZ [v4] d.fL]) (B:=[aZ [v5] d.aW,aZ [v6] d.cG]) FV (dU (c1:=[v5]) (c2:=[v6]) (A:=[aZ [v5] d.aW]) (B:=[aZ [v6] d.cG]) FV FV rfl) rfl) rfl) rfl) rfl) rfl) rfl) rfl) rfl) rfl) rfl) rfl) rfl) rfl) rfl) rfl) rfl) rfl) rfl))
structure LM where
 Kind:Int
 Who:Int
 aS:Int
 Code:Int
 bK:List iG
 eA:List eA
 deriving DecidableEq,Inhabited
instance:aD LM:=aD.via (fun d=>(d.Kind,d.Who,d.aS,d.Code,d.bK,d.eA))
instance:Fits LM:=Fits.via (fun d=>(d.Kind,d.Who,d.aS,d.Code,d.bK,d.eA))
theorem a2B{S:cB}{w:World}{cs:List Value}{d:LM}(h:aD.rd S w cs d):∃v0 v1:Value,cs=[.int .i64 (d.Kind),.int .i64 (d.Who),.int .i64 (d.aS),.int .i64 (d.Code),v0,v1]/\aD.rd S w [v0] d.bK/\aD.rd S w [v1] d.eA:=by
 obtain⟨c0,r0,e0,h0,n0⟩:=h
 have q0:c0=[_]:=h0
 obtain⟨c1,r1,e1,h1,n1⟩:=n0
 have q1:c1=[_]:=h1
 obtain⟨c2,r2,e2,h2,n2⟩:=n1
 have q2:c2=[_]:=h2
 obtain⟨c3,r3,e3,h3,n3⟩:=n2
 have q3:c3=[_]:=h3
 obtain⟨c4,r4,e4,h4,n4⟩:=n3
 obtain⟨u4,q4⟩:=iF h4
 rw [q4] at h4
 obtain⟨u5,q5⟩:=iF n4
 rw [q5] at n4
 exact⟨u4,u5,by rw [e0,e1,e2,e3,e4,q0,q1,q2,q3,q4,q5];rfl,h4,n4⟩
theorem a2C(d:LM){v0:Value}{v1:Value}:OP [.int .i64 (d.Kind),.int .i64 (d.Who),.int .i64 (d.aS),.int .i64 (d.Code),v0,v1] d [aZ [v0] d.bK,aZ [v1] d.eA]:=(show OP (α:=Int×Int×Int×Int×(List iG)×(List eA)) _ (d.Kind,d.Who,d.aS,d.Code,d.bK,d.eA) _ from (dU (c1:=[.int .i64 (d.Kind)]) (c2:=[.int .i64 (d.Who),.int .i64 (d.aS),.int .i64 (d.Code),v0,v1]) (A:=[]) (B:=[aZ [v0] d.bK,aZ [v1] d.eA]) (dN rfl) (dU (c1:=[.int .i64 (d.Who)]) (c2:=[.int .i64 (d.aS),.int .i64 (d.Code),v0,v1]) (A:=[]) (B:=[aZ [v0] d.bK,aZ [v1] d.eA]) (dN rfl) (dU (c1:=[.int .i64 (d.aS)]) (c2:=[.int .i64 (d.Code),v0,v1]) (A:=[]) (B:=[aZ [v0] d.bK,aZ [v1] d.eA]) (dN rfl) (dU (c1:=[.int .i64 (d.Code)]) (c2:=[v0,v1]) (A:=[]) (B:=[aZ [v0] d.bK,aZ [v1] d.eA]) (dN rfl) (dU (c1:=[v0]) (c2:=[v1]) (A:=[aZ [v0] d.bK]) (B:=[aZ [v1] d.eA]) FV FV rfl) rfl) rfl) rfl) rfl))
structure Table where
 aB:aB
 cS:List bT
 aN:List aE
 gZ:List aI
 Log:List LM
 aS:Int
 deriving DecidableEq,Inhabited
instance:aD Table:=aD.via (fun d=>(d.aB,d.cS,d.aN,d.gZ,d.Log,d.aS))
instance:Fits Table:=Fits.via (fun d=>(d.aB,d.cS,d.aN,d.gZ,d.Log,d.aS))
end Go.Gv
end
