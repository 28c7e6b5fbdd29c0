import Derived.Test.YtdooodokcphomaaGreatXUB
import Derived.RangeFuncWrites
import Derived.RangeFuncBox
import Derived.RangeFuncLeaves
import Derived.Shelf.Abstract
import Derived.WalkKit
import Derived.OwnWalkIn
import Derived.TacticsInMore
import Derived.LoopNIn
import Derived.LoopIn
import Derived.Shelf.Slices.CompactI
import Derived.Shelf.Spec.SlicesInsertGrow
set_option linter.unusedVariables false
set_option linter.unusedSimpArgs false
set_option linter.unusedSectionVars false
set_option linter.constructorNameAsVariable false
set_option linter.unnecessarySimpa false
set_option linter.defProp false
noncomputable section
namespace Go.Gv
variable{y:Code}{id t:Nat}{C:Prop}{g h i j k l m n p q:Sort _}{ex β π ρ σ υ:Type}{w:World}
universe u
def Q{O:Sort u}{a:O}:a=a:=Eq.refl a
def Q2{d:Sort _}{a:d}{c:Sort _}{b:c}:a=a/\b=b:=⟨rfl,rfl⟩
def Q3{f:Sort _}{a:f}{e:Sort _}{b:e}{d:Sort _}{c:d}:a=a/\b=b/\c=c:=⟨rfl,rfl,rfl⟩
def Q4{a:h}{b:g}{f:Sort _}{c:f}{e:Sort _}{d:e}:a=a/\b=b/\c=c/\d=d:=⟨rfl,rfl,rfl,rfl⟩
def Q5{a:j}{b:i}{c:h}{d:g}{f:Sort _}{e:f}:a=a/\b=b/\c=c/\d=d/\e=e:=⟨rfl,rfl,rfl,rfl,rfl⟩
def Q6{a:l}{b:k}{c:j}{d:i}{e:h}{f:g}:a=a/\b=b/\c=c/\d=d/\e=e/\f=f:=⟨rfl,rfl,rfl,rfl,rfl,rfl⟩
def Q7{a:n}{b:m}{c:l}{d:k}{e:j}{f:i}{g:h}:a=a/\b=b/\c=c/\d=d/\e=e/\f=f/\g=g:=⟨rfl,rfl,rfl,rfl,rfl,rfl,rfl⟩
def Q8{a:p}{o:Sort _}{b:o}{c:n}{d:m}{e:l}{f:k}{g:j}{h:i}:a=a/\b=b/\c=c/\d=d/\e=e/\f=f/\g=g/\h=h:=⟨rfl,rfl,rfl,rfl,rfl,rfl,rfl,rfl⟩
def Q9{r:Sort _}{a:r}{b:q}{c:p}{o:Sort _}{d:o}{e:n}{f:m}{g:l}{h:k}{i:j}:a=a/\b=b/\c=c/\d=d/\e=e/\f=f/\g=g/\h=h/\i=i:=⟨rfl,rfl,rfl,rfl,rfl,rfl,rfl,rfl,rfl⟩
def Q10{t:Sort _}{a:t}{s:Sort _}{b:s}{r:Sort _}{c:r}{d:q}{e:p}{o:Sort _}{f:o}{g:n}{h:m}{i:l}{j:k}:a=a/\b=b/\c=c/\d=d/\e=e/\f=f/\g=g/\h=h/\i=i/\j=j:=⟨rfl,rfl,rfl,rfl,rfl,rfl,rfl,rfl,rfl,rfl⟩
def ZB{A:Sort _}{a:A}{z:Sort _}{b:z}{y:Sort _}{c:y}{x:Sort _}{d:x}{w:Sort _}{e:w}{v:Sort _}{f:v}{t:Sort _}{g:t}{s:Sort _}{h:s}{r:Sort _}{i:r}{j:q}{k:p}{o:Sort _}{l:o}{m:n}:a=a/\b=b/\c=c/\d=d/\e=e/\f=f/\g=g/\h=h/\i=i/\j=j/\k=k/\l=l/\m=m:=⟨rfl,rfl,rfl,rfl,rfl,rfl,rfl,rfl,rfl,rfl,rfl,rfl,rfl⟩
def W{ρ:Type}(C:Prop)(r:ρ)(F:Option ρ):Prop:=F=some r->C
def wm{r:ρ}{F F':Option ρ}(h:F'=F)(k:W C r F):W C r F':=h ▸ k
def wi{r:ρ}{F:Option ρ}(h:F=some r)(k:W C r F):C:=k h
def VS(P:Program)(c:Ctx)(f:FuncId){ρ ex:Type}(F:Option ρ)(xs:au)(B0:Bl)(L0:ao)(sv:ρ->ex->SV)(Lf:ρ->ex->ao):Prop:=∀r,F=some r->FnS P f c xs B0 L0 sv Lf r
abbrev V0(P:Program)(c:Ctx)(f:FuncId){ρ:Type}(F:Option ρ)(xs:au)(sv:ρ->SV):Prop:=VS P c f F xs [] [] (λr (_:Unit)=>sv r) (λ_ _=>[])
theorem VS.r{P:Program}{c:Ctx}{f:FuncId}{F:Option ρ}{xs:au}{B0:Bl}{L0:ao}{sv:ρ->ex->SV}{Lf:ρ->ex->ao}(h:VS P c f F xs B0 L0 sv Lf){r:ρ}(a:F=some r):FnS P f c xs B0 L0 sv Lf r:=h r a
def QR(P:Program)(a:Func){b:List ResultVar}(_:a.results=b.toArray)(c:Ctx)(B0:Bl){ρ ex:Type}(sv:ρ->ex->SV)(Lf:ρ->ex->ao)(r:ρ):Act->World->Prop:=QS P a c B0 sv Lf r
def bGF(T:TT)(b:List ResultVar)(is:av)(a:Nat)(L2:ao):Stop->Option (SV×List Ch)
 |.ret m e L=>match aZW T e L b with
  |some x=>match BZ a (nbS x) with
   |true=>match asT a m e L is a [] L2 with
    |some ([],c)=>some (nbS x,c)
    |_=>none
   |false=>none
  |none=>none
 |_=>none
def bBV(is:av)(c a:Nat)(b:SE)(d:ao):Stop->Option (SE×List Ch)
 |.fin m e L=>asT c m e L is a b d
 |_=>none
def exQ(is:av)(id c a:Nat)(b:SE)(d:ao):Stop->Option (SE×List Ch)
 |.ex i m e L=>match Nat.beq i id with
  |true=>asT c m e L is a b d
  |false=>none
 |_=>none
def bTB:Stop->Stop
 |.fin m e L=>.ret m e L
 |_=>.stuck
def ixT(T:TT)(t n:Nat):Bool:=match zS T t with
 |some ⟨.sl el,_,_,_⟩=>match zS T el with
  |some ⟨_,_,a,_⟩=>Nat.beq n a
  |none=>false
 |_=>false
section
variable {P:Program} {T:TT} {hT:IC P T} {n:Nat} {c:Ctx} {B0:Bl} {N:Act->World->Prop} {X:Nat->Act->World->Prop} {Q:Act->World->Prop} {K K':bg} {m m':Nat} {e e':SE} {L L' Lv:ao} {cf cf' cf1 cf2:wV} {o:Oper}
theorem enW(hT:IC P T){f:FuncId}{a:Func}{cd:Code}{xs:au}{L0:ao}{ρ ex:Type}{sv:ρ->ex->SV}{Lf:ρ->ex->ao}{F:Option ρ}{g:List ResultVar}(hc:∀args w,(callFunc f args).run P w=.ok (.enter f args) w)(h:P.funcs[f]?=some a)(d:a.results=g.toArray)(b:a.body=some cd/\a.ntmps=n)
  (k:∀{r},W (G (.mk P T hT n c B0 (QR P a d c B0 sv Lf r) (λ_ _ _=>False) (QR P a d c B0 sv Lf r)) [] B0.length (aYD 0 xs) L0 (.c cd)) r F) (hl:Nat.ble xs.length n=true:=by exact rfl):VS P c f F xs B0 L0 sv Lf:=let ⟨i,hm⟩:=b;λ_ j=>en n hc h hT i hm hl (k j)
theorem a9L{b:List ResultVar}{is:av}{a:Nat}{L2 d:ao}{s:SV}{st:Stop}(h:bGF T b is a L2 st=some (s,d)):∃m' e' L' x,st=.ret m' e' L'/\aZW T e' L' b=some x/\nbS x=s/\BZ a s=true/\asT a m' e' L' is a [] L2=some ([],d):=by unfold bGF at h;grind
theorem jB{g:Func}{sv:ρ->ex->SV}{Lf:ρ->ex->ao}{r a:ρ}{d:List ResultVar}{f:g.results=d.toArray}{zz:Option ρ}(y:ex)(is:av)(b:zz=some a/\bGF T d is B0.length (Lf a y) (jO T n K cf m e L)=some (sv a y,Lf a y)):W (G (.mk P T hT n c B0 N X (QR P g f c B0 sv Lf r)) K m e L cf) r zz:=let ⟨hz,h⟩:=b;λi=>by obtain⟨_,_,_,_,q,p,l,k,j⟩:=a9L h;exact rt y is i hz q f p l k j
theorem b8{f:Func}{sv:ρ->Unit->SV}{Lf:ρ->Unit->ao}{r a:ρ}{d:List ResultVar}{g:f.results=d.toArray}{zz:Option ρ}(b:zz=some a/\bGF T d [] B0.length (Lf a ()) (jO T n K cf m e L)=some (sv a (),Lf a ())):W (G (.mk P T hT n c B0 N X (QR P f g c B0 sv Lf r)) K m e L cf) r zz:=let ⟨hz,h⟩:=b;jB () [] ⟨hz,h⟩
theorem LH{f:Func}{sv:ρ->ex->SV}{Lf:ρ->ex->ao}{r a:ρ}{b:List ResultVar}{d:f.results=b.toArray}{zz:Option ρ}(y:ex)(is:av)(hz:zz=some a)(h:bGF T b is B0.length (Lf a y) (bTB (jO T n K cf m e L))=some (sv a y,Lf a y)):W (G (.mk P T hT n c B0 (QR P f d c B0 sv Lf r) X Q) K m e L cf) r zz:=λg=>by obtain⟨m',e',L',_,p,l,k,j,i⟩:=a9L h;refine rf y is g hz (m':=m') (e':=e') (L':=L') ?_ d l k j i;unfold bTB at p;grind
theorem a9M{is:av}{f a:Nat}{b d:SE}{g i:ao}{st:Stop}(h:bBV is f a b g st=some (d,i)):∃m' e' L',st=.fin m' e' L'/\asT f m' e' L' is a b g=some (d,i):=by unfold bBV at h;grind
theorem pE{O:Type}{g:π->Prop}{f:Nat}{b:π->υ->SE}{d:π->υ->ao}{p:π}{q:O}{zz:Option O}(u:υ)(is:av)(a:(zz=some q)=g p/\bBV is B0.length f (b p u) (d p u) (jO T n K cf m e L)=some (b p u,d p u)):W (G (.mk P T hT n c B0 (JP n c B0 g f b d) X Q) K m e L cf) q zz:=let ⟨hz,h⟩:=a;λi=>by obtain⟨_,_,_,k,j⟩:=a9M h;exact jn u is (hz ▸ i) k j
theorem bL{O:Type}{g:π->Prop}{f:Nat}{b:π->Unit->SE}{d:π->Unit->ao}{p:π}{q:O}{zz:Option O}(is:av)(a:(zz=some q)=g p/\bBV is B0.length f (b p ()) (d p ()) (jO T n K cf m e L)=some (b p (),d p ())):W (G (.mk P T hT n c B0 (JP n c B0 g f b d) X Q) K m e L cf) q zz:=let ⟨hz,h⟩:=a;pE () is ⟨hz,h⟩
theorem nxW{o:Step σ ρ}{b:Nat}{el:σ->υ->SE}{a:σ->υ->ao}{s:σ}(u:υ)(is:av)(h:bBV is B0.length b (el s u) (a s u) (jO T n K cf m e L)=some (el s u,a s u)):W (G (.mk P T hT n c B0 (NxP n c B0 o b el a) X Q) K m e L cf) o (some (Step.next s)):=λd=>by obtain⟨_,_,_,g,f⟩:=a9M h;exact nx u is d g f
theorem sO{o:Step σ ρ}{b:Nat}{el:σ->Unit->SE}{a:σ->Unit->ao}{s:σ}(is:av)(h:bBV is B0.length b (el s ()) (a s ()) (jO T n K cf m e L)=some (el s (),a s ())):W (G (.mk P T hT n c B0 (NxP n c B0 o b el a) X Q) K m e L cf) o (some (Step.next s)):=nxW () is h
def BkR(n:Nat)(c:Ctx)(B0:Bl){β ρ σ υ:Type}{o:Step σ ρ}{ro:ρ}(_:∀p,o=.stop p->p=ro)(a:β->ρ)(m:Nat)(b:β->υ->SE)(d:β->υ->ao)(id:Nat)(X:Nat->Act->World->Prop):Nat->Act->World->Prop:=BkP n c B0 ro a m b d id X
theorem bkW{o:Step σ ρ}{ro:ρ}{a:β->ρ}{g:Nat}{d:β->υ->SE}{f:β->υ->ao}{b:β}{i:∀p,o=.stop p->p=ro}(u:υ)(is:av)(h:exQ is id B0.length g (d b u) (f b u) (jO T n K cf m e L)=some (d b u,f b u)):W (G (.mk P T hT n c B0 N (BkR n c B0 i a g d f id X) Q) K m e L cf) o (some (Step.stop (a b))):=λl=>by
 unfold exQ at h;split at h
 .rename_i j;split at h
  .rename_i k;rw[qN k] at j;exact bk u is l i j h
  .cases h
 .cases h
theorem rU{o:Step σ ρ}{ro:ρ}{a:β->ρ}{g:Nat}{d:β->Unit->SE}{f:β->Unit->ao}{b:β}{i:∀p,o=.stop p->p=ro}(is:av)(h:exQ is id B0.length g (d b ()) (f b ()) (jO T n K cf m e L)=some (d b (),f b ())):W (G (.mk P T hT n c B0 N (BkR n c B0 i a g d f id X) Q) K m e L cf) o (some (Step.stop (a b))):=bkW () is h
theorem uX{O:Type}{o:Step σ ρ}{p ro:ρ}{F:ρ->Option O}{q:O}(a:∀p,o=.stop p->p=ro)(b:F ro=some q)(k:W C q (F p)):W C o (some (Step.stop p)):=λh=>k (re h rfl a b)
section
variable {b:Bool} {O:Type} {A B':Option O} {q:O}
theorem bE{o:Operand}{x:Code}(a:av)(d:jO T n K cf m e L=.cond o b x y K' m' e' L'/\aV (GK e') a=some (a.map λ_=>SV.b b))
  (g:W (G (.mk P T hT n c B0 N X Q) K' m' (ovr true e' a) L' (.c x)) q A) (f:W (G (.mk P T hT n c B0 N X Q) K' m' (ovr false e' a) L' (.c y)) q B'):W (G (.mk P T hT n c B0 N X Q) K m e L cf) q (if b=true then A else B'):=let ⟨h,ho⟩:=d;λi=>cs a h ho i g f
theorem bBW{o:Operand}{x:Code}(a:av)(g:jO T n K cf m e L=.cond o b x y K' m' e' L')(ho:aV (GK e') a=some (a.map λ_=>SV.b b))
  (f:b=true->W (G (.mk P T hT n c B0 N X Q) K' m' (ovr true e' a) L' (.c x)) q A) (d:b=false->W (G (.mk P T hT n c B0 N X Q) K' m' (ovr false e' a) L' (.c y)) q B'):W (G (.mk P T hT n c B0 N X Q) K m e L cf) q (if b=true then A else B'):=λh=>csK a g ho h f d
theorem dE(a:av)(d:jO T n K cf m e L=.case b cf' K' m' e' L'/\aV (GK e') a=some (a.map λ_=>SV.b b))
  (g:W (G (.mk P T hT n c B0 N X Q) K' m' (ovr true e' a) L' cf') q A) (f:W (G (.mk P T hT n c B0 N X Q) K' m' (ovr false e' a) L' cf') q B'):W (G (.mk P T hT n c B0 N X Q) K m e L cf) q (if b=true then A else B'):=let ⟨h,ho⟩:=d;λi=>ca a h ho i g f
theorem bV3(a:av)(g:jO T n K cf m e L=.case b cf' K' m' e' L')(ho:aV (GK e') a=some (a.map λ_=>SV.b b))
  (f:b=true->W (G (.mk P T hT n c B0 N X Q) K' m' (ovr true e' a) L' cf') q A) (d:b=false->W (G (.mk P T hT n c B0 N X Q) K' m' (ovr false e' a) L' cf') q B'):W (G (.mk P T hT n c B0 N X Q) K m e L cf) q (if b=true then A else B'):=λh=>caK a g ho h f d
end
section
variable {O β:Type} {fo:Option O} {kf:O->Option β} {q:β} {d:Nat} {f:FuncId} {xs:au}
theorem c0{sv:O->SV}(b:jO T n K cf m e L=.call o (some d) f xs cf1 cf2 K' m' e' L')
  (hc:∀{w},HS c w L'->V0 P (eF w) f fo xs sv) (k:∀x,W (G (.mk P T hT n c B0 N X Q) K' m' ((d,sv x)::e') L' cf2) q (kf x)):W (G (.mk P T hT n c B0 N X Q) K m e L cf) q (fo.bind kf):=λg=>cl0 b (λh _ a=>hc h _ a) g λx _ h=>k x h
theorem c1{sv:O->ex->SV}{Lf:O->ex->ao}(b:jO T n K cf m e L=.call o (some d) f xs cf1 cf2 K' m' e' L')
  (hc:∀{w},HS c w L'->VS P (eF w) f fo xs [] [] sv Lf) (k:∀x,∀y:ex,W (G (.mk P T hT n c B0 N X Q) K' m' ((d,sv x y)::e') (L'++Lf x y) cf2) q (kf x)) (hn:∀x y,noF (Lf x y)=true:=by exact λ_ _=>rfl):W (G (.mk P T hT n c B0 N X Q) K m e L cf) q (fo.bind kf):=λg=>cl b hn (λh _ a=>hc h _ a) g λx _ h y=>k x y h
theorem kP{kf:O->Option β}{q:β}{v:aN O}(C:GM O){d:Nat}{s:AC}{i:Int}{ls:List O}(g:jO T n K cf m e L=.idx o d t s ls.length i Lv cf1 cf2 K' m' e' L')(r:aU c s ls)(a:ixT T t (aN.n O)=true)
  (k:∀x,∀y:C.ex,C.sub c.S0 c.w0 x y->W (G (.mk P T hT n c B0 N X Q) K' (m'+1) ((d,.p m' 0)::e') (L'++[.ro m' (C.cs x y)]) (cf2.ext [.ro m' (C.cs x y)])) q (kf x)):W (G (.mk P T hT n c B0 N X Q) K m e L cf) q ((idx ls i).bind kf):=λj=>by
 unfold ixT at a;split at a
 .rename_i p;split at a
  .rename_i l;exact ix C g r j p l (qN a) λx _ h y b=>k x y b h
  .cases a
 .cases a
theorem ixI{kf:Int->Option β}{q:β}{d:Nat}{s:AC}{i:Int}{ls:an}(b:jO T n K cf m e L=.idx o d t s ls.length i Lv cf1 cf2 K' m' e' L')(g:aU c s ls)(a:ixT T t 1=true)
  (k:∀x,W (G (.mk P T hT n c B0 N X Q) K' (m'+1) ((d,.p m' 0)::e') (L'++[.ro m' [.i .i64 x]]) (cf2.ext [.ro m' [.i .i64 x]])) q (kf x)):W (G (.mk P T hT n c B0 N X Q) K m e L cf) q ((idx ls i).bind kf):=kP cI b g a λx _ _=>k x
theorem iP(b:P.follows .mixedOrders=true){ops:br}{zz:Option β}(is:av)(a:jO T n K cf m e L=.rgn id ops K' m' e' L')
  (k:∀{B1},W (G (.mk P T hT n c B0 N X Q) K' m' e' L' (.d B1 ops (List.replicate ops.size false) is (kl L' is) (kl L' is))) q zz) (g:(a2P ops && (okL m' (kl L' is) && (dV is && is.all λj=>Nat.blt j L'.length)))=true:=by kernel_rfl):W (G (.mk P T hT n c B0 N X Q) K m e L cf) q zz:=λh=>dr is a b g λ_=>k h
theorem eP{zz:Option β}(j a:Nat)(k:π->Option β)(b:av)(g:π->υ->SE)(is:av)(i:π->υ->ao)(s:XL (jO T n K cf m e L)=some (K',cf',m',e',L'))
  (r:W (G (.mk P T hT n c B0 (JP n c B0 (λp=>k p=some q) a (λp u=>g p u++kp e' b) (λp u=>i p u++kl L' is)) (XK (.mk P T hT n c B0 N X Q) (K'.drop j)) Q) (K'.take j) m' e' L' cf') q zz)
  (l:∀p u,W (G (.mk P T hT n c B0 N X Q) (K'.drop j) a (g p u++kp e' b) (i p u++kl L' is) .n) q (k p)):W (G (.mk P T hT n c B0 N X Q) K m e L cf) q zz:=λt=>cut j a (λp=>k p=some q) b g is i s (r t) λp u h=>l p u h
theorem dJ{zz:Option β}(j a:Nat)(g:Bool->Option β)(b:av)(v:Nat)(is:av)(k:XL (jO T n K cf m e L)=some (K',cf',m',e',L'))
  (i:W (G (.mk P T hT n c B0 (JP n c B0 (λp=>g p=some q) a (λp (_:Unit)=>[(v,.b p)]++kp e' b) (λ_ _=>[]++kl L' is)) (XK (.mk P T hT n c B0 N X Q) (K'.drop j)) Q) (K'.take j) m' e' L' cf') q zz)
  (h:∀p,W (G (.mk P T hT n c B0 N X Q) (K'.drop j) a ([(v,.b p)]++kp e' b) ([]++kl L' is) .n) q (g p)):W (G (.mk P T hT n c B0 N X Q) K m e L cf) q zz:=eP j a g b (λp (_:Unit)=>[(v,.b p)]) is (λ_ _=>[]) k i λp _=>h p
theorem LP{γ ω:Type}{w:σ->Option (Step σ ρ)}{s0:σ}{r:ρ->Option β}(i:υ)(j:av)(el:σ->υ->SE)(g is:av)(k:σ->υ->ao)(a:γ->ρ)(kb:av)(t:γ->ω->SE)(l:av)(v:γ->ω->ao)
  (A:jO T n K cf m e L=.loop id y K' m' e' L')
  (H:asT B0.length m' e' L' g m' (el s0 i++kp e' j) (k s0 i++kl L' is)=some (el s0 i++kp e' j,k s0 i++kl L' is))
  (z:∀{ro o},r ro=some q->∀s u,(B:∀p,o=.stop p->p=ro)->W (G (.mk P T hT n c B0 (NxP n c B0 o m' (λs u=>el s u++kp e' j) (λs u=>k s u++kl L' is)) (BkR n c B0 B a m' (λb u=>t b u++kp e' kb) (λb u=>v b u++kl L' l) id (XK (.mk P T hT n c B0 N X Q) K')) Q) [] m' (el s u++kp e' j) (k s u++kl L' is) (.c y)) o (w s))
  (x:∀b u,W (G (.mk P T hT n c B0 N X Q) K' m' (t b u++kp e' kb) (v b u++kl L' l) .n) q (r (a b))):W (G (.mk P T hT n c B0 N X Q) K m e L cf) q ((loop w s0).bind r):=λC=>
 lp i j el g is k a kb t l v A C H (λro F s u o E D=>z F s u D E) λb u h=>x b u h
theorem BX{k:Int->Option (Step Int ρ)}{s0:Int}{j:ρ->Option β}(v:Nat)(b:av)(is:av)(a:Unit->ρ)(kb:av)(g:av)
  (t:jO T n K cf m e L=.loop id y K' m' e' L')
  (w:asT B0.length m' e' L' is m' ([(v,.i .i64 s0)]++kp e' b) ([]++kl L' is)=some ([(v,.i .i64 s0)]++kp e' b,[]++kl L' is))
  (r:∀{ro o},j ro=some q->∀s,(i:∀p,o=.stop p->p=ro)->W (G (.mk P T hT n c B0 (NxP n c B0 o m' (λs (_:Unit)=>[(v,.i .i64 s)]++kp e' b) (λ_ _=>[]++kl L' is)) (BkR n c B0 i a m' (λ_ (_:Unit)=>[]++kp e' kb) (λ_ _=>[]++kl L' g) id (XK (.mk P T hT n c B0 N X Q) K')) Q) [] m' ([(v,.i .i64 s)]++kp e' b) ([]++kl L' is) (.c y)) o (k s))
  (l:W (G (.mk P T hT n c B0 N X Q) K' m' ([]++kp e' kb) ([]++kl L' g) .n) q (j (a ()))):W (G (.mk P T hT n c B0 N X Q) K m e L cf) q ((loop k s0).bind j):=LP () b (λs (_:Unit)=>[(v,.i .i64 s)]) is is (λ_ _=>[]) a kb (λ_ (_:Unit)=>[]) g (λ_ _=>[]) t w (λh s _ i=>r h s i) λ_ _=>l
theorem lrW{k:σ->Option (Step σ ρ)}{s0:σ}{j:ρ->Option β}(g:υ)(h:av)(el:σ->υ->SE)(a is:av)(i:σ->υ->ao)
  (r:jO T n K cf m e L=.loop id y K' m' e' L')
  (z:asT B0.length m' e' L' a m' (el s0 g++kp e' h) (i s0 g++kl L' is)=some (el s0 g++kp e' h,i s0 g++kl L' is))
  (l:∀{ro o},j ro=some q->∀s u,(A:∀p,o=.stop p->p=ro)->W (G (.mk P T hT n c B0 (NxP n c B0 o m' (λs u=>el s u++kp e' h) (λs u=>i s u++kl L' is)) (BkP n c B0 ro (λb:Empty=>nomatch b) m' (λ(b:Empty) (_:Unit)=>nomatch b) (λb _=>nomatch b) id (XK (.mk P T hT n c B0 N X Q) K')) Q) [] m' (el s u++kp e' h) (i s u++kl L' is) (.c y)) o (k s)):W (G (.mk P T hT n c B0 N X Q) K m e L cf) q ((loop k s0).bind j):=λt=>
 lr g h el a is i r t z λro x s u o w v=>l x s u v w
theorem rV{kf:O->Option β}{q:β}[aN O](E:CO O)(j:Nat){t:TypeId}{s:AC}{i:Int}{ls:List O}(a:jO T n K cf m e L=.idx o d t s ls.length i Lv cf1 cf2 K' m' e' L'/\L'[j]?=some (ow s ls)/\gE j cf1.zU=true)
  (k:∀x,idx ls i=some x->∀y:E.ex,Shp s ls.length->W (G (.mk P T hT n c B0 N X Q) K' (m'+1) e' (L'.set j .no++([.o (vD (s.v ls.length) ls i.toNat),.box m' (E.cs x y),wOf O m' s ls.length i.toNat]++E.Lx x y)) (cf1.ext [wOf O m' s ls.length i.toNat])) q (kf x)):W (G (.mk P T hT n c B0 N X Q) K m e L cf) q ((idx ls i).bind kf):=let ⟨b,g,hz⟩:=a;λh=>oe E j b g hz h λx r p y l=>k x r y l p
end
section
variable {O β ex:Type} {fo:Option O} {kf:O->Option β} {q:β} {d:cq} {f:FuncId} {xs xs0:au} {M:ao} {sv:O->ex->SV} {Lr:O->ex->ao}
theorem N7(is:av)
  (a:cpS (jO T n K cf m e L)=some (o,d,f,xs,cf1,cf2,K',m',e',L')/\aV (λi=>L'[i]?) is=some M/\aV (rnP [] 0) xs=some xs0/\(N6 M && (dV is && is.all λj=>gE j cf1.zU))=true)
  (hc:∀{U:Ctx},HG c U L' is->VS P U f fo xs0 [] M sv Lr)
  (k:∀x,∀y:ex,W (G (.mk P T hT n c B0 N X Q) K' m' (dse d (sv x y) e') (L5 L' is++Lr x y) cf2) q (kf x)) (hn:∀x y,(N6 (Lr x y) && BZ 0 (sv x y))=true:=by exact λ_ _=>rfl):W (G (.mk P T hT n c B0 N X Q) K m e L cf) q (fo.bind kf):=let ⟨g,l,b,hk⟩:=a;λp=>
 cw0 is g l b hk hn (λh _ b=>hc h _ b) p λx _ h y=>k x y h
theorem fN{c1:au}{p:O->ex->au}(a g b l:Nat)(is:av)
  (r:cpS (jO T n K cf m e L)=some (o,d,f,xs,cf1,cf2,K',m',e',L')/\aRV L' [(a,g,b,l)]=some [c1]/\aV (λi=>L'[i]?) is=some M/\aV (rnP [(a,g,b,l)] 0) xs=some xs0/\(N6 M && ([c1].all (BZ.okC 0) && (dV (a::is) && (a::is).all λj=>gE j cf1.zU)))=true)
  (hc:∀{U:Ctx},HG c U L' (a::is)->∀{b1:Nat×Nat},VS P U f fo xs0 [b1] (.box 0 c1::M) sv (λx y=>.box 0 (p x y)::Lr x y))
  (k:∀x,∀y:ex,W (G (.mk P T hT n c B0 N X Q) K' m' (dse d (sv x y) e') (TX L' (L5 L' (a::is)++Lr x y) [(a,g,b,l)] [p x y]) cf2) q (kf x)) (hn:∀x y,(aI0 [(a,g,b,l)] [p x y] && ([p x y].all (BZ.okC 0) && (N6 (Lr x y) && BZ 0 (sv x y))))=true:=by exact λ_ _=>rfl):W (G (.mk P T hT n c B0 N X Q) K m e L cf) q (fo.bind kf):=let ⟨t,w,v,s,hk⟩:=r;λz=>
 cw1 a g b l is t w v s hk hn (λh _ _ s=>hc h _ s) z λx _ h y=>k x y h
theorem a0C{c1 A:au}{w v:O->ex->au}(b r l t:Nat)(a p g s:Nat)(is:av)
  (B:cpS (jO T n K cf m e L)=some (o,d,f,xs,cf1,cf2,K',m',e',L')) (D:aRV L' [(b,r,l,t),(a,p,g,s)]=some [c1,A]) (C:aV (λi=>L'[i]?) is=some M) (z:aV (rnP [(b,r,l,t),(a,p,g,s)] 0) xs=some xs0)
  (hk:(N6 M && ([c1,A].all (BZ.okC 0) && (dV (b::a::is) && (b::a::is).all λj=>gE j cf1.zU)))=true)
  (hc:∀{U:Ctx},HG c U L' (b::a::is)->∀{b1 F:Nat×Nat},VS P U f fo xs0 [b1,F] (.box 0 c1::.box 1 A::M) sv (λx y=>.box 0 (w x y)::.box 1 (v x y)::Lr x y))
  (k:∀x,∀y:ex,W (G (.mk P T hT n c B0 N X Q) K' m' (dse d (sv x y) e') (TX L' (L5 L' (b::a::is)++Lr x y) [(b,r,l,t),(a,p,g,s)] [w x y,v x y]) cf2) q (kf x)) (hn:∀x y,(aI0 [(b,r,l,t),(a,p,g,s)] [w x y,v x y] && ([w x y,v x y].all (BZ.okC 0) && (N6 (Lr x y) && BZ 0 (sv x y))))=true:=by exact λ_ _=>rfl):W (G (.mk P T hT n c B0 N X Q) K m e L cf) q (fo.bind kf):=λE=>
 cw2 b r l t a p g s is B D C z hk hn (λh _ _ _ z=>hc h _ z) E λx _ h y=>k x y h
theorem bV4{c1 E c3:au}{C B A:O->ex->au}(g t r z:Nat)(b s p w:Nat)(a n3 l v:Nat)(is:av)
  (F:cpS (jO T n K cf m e L)=some (o,d,f,xs,cf1,cf2,K',m',e',L')) (I:aRV L' [(g,t,r,z),(b,s,p,w),(a,n3,l,v)]=some [c1,E,c3]) (H:aV (λi=>L'[i]?) is=some M) (D:aV (rnP [(g,t,r,z),(b,s,p,w),(a,n3,l,v)] 0) xs=some xs0)
  (hk:(N6 M && ([c1,E,c3].all (BZ.okC 0) && (dV (g::b::a::is) && (g::b::a::is).all λj=>gE j cf1.zU)))=true)
  (hc:∀{U:Ctx},HG c U L' (g::b::a::is)->∀{b1 R b3:Nat×Nat},VS P U f fo xs0 [b1,R,b3] (.box 0 c1::.box 1 E::.box 2 c3::M) sv (λx y=>.box 0 (C x y)::.box 1 (B x y)::.box 2 (A x y)::Lr x y))
  (k:∀x,∀y:ex,W (G (.mk P T hT n c B0 N X Q) K' m' (dse d (sv x y) e') (TX L' (L5 L' (g::b::a::is)++Lr x y) [(g,t,r,z),(b,s,p,w),(a,n3,l,v)] [C x y,B x y,A x y]) cf2) q (kf x)) (hn:∀x y,(aI0 [(g,t,r,z),(b,s,p,w),(a,n3,l,v)] [C x y,B x y,A x y] && ([C x y,B x y,A x y].all (BZ.okC 0) && (N6 (Lr x y) && BZ 0 (sv x y))))=true:=by exact λ_ _=>rfl):W (G (.mk P T hT n c B0 N X Q) K m e L cf) q (fo.bind kf):=λJ=>
 cw3 g t r z b s p w a n3 l v is F I H D hk hn (λh _ _ _ _ D=>hc h _ D) J λx _ h y=>k x y h
end
theorem aHH{O:Type}{b:aN O}{C:GM O}{sr:β->SV}{g:FuncId}{p:O->Option β}(hc:∀args w,(callFunc g args).run P w=.ok (.enter g args) w)(hn:∀{U:Ctx} {x y},C.sub U.S0 U.w0 x y->V0 P U g (p x) [C.sv x y] sr):Fu1 P (eF w) C sr g [] p:=fu1 hc (by intro U x y h q a;exact hn h _ a)
theorem aLF{O:Type}{i:aN O}{C:GM O}{sr:β->SV}{g:FuncId}{Bs:Bl}{cs:ct}{p:O->Option β}(hc:∀args w,(callFunc g args).run P w=.ok (.enter g args) w)(d:∀a,eT F0 w a->lS (eF a) a Bs (roL 0 cs))(hl:aV (fS Bs) (bFQ 0 cs)=some (TU Bs))(hn:∀{a x y},eT F0 w a->C.sub (All a) a x y->VS P (eF a) g (p x) (C.sv x y::bFQ 0 cs) Bs (roL 0 cs) (λr (_:Unit)=>sr r) (λ_ _=>[]))(hz:∀q,BZ 0 (sr q)=true:=by exact λ_=>rfl):Fu1 P (eF w) C sr g (TU Bs) p:=fk1 hc d hl hz (by intro a x y h f q b;exact hn h f _ b)
section
variable {O β:Type} {fo:Option O} {kf:O->Option β} {q:β} {d:Nat} {f g:FuncId} {xs:au} {sv:O->SV}
theorem aRY{b:Nat}{c1:au}(is:av)(j:jO T n K cf m e L=.callp o (some d) f xs cf1 cf2 K' m' e' L')(hk:kl L' is=[.ro b c1])(ho:(aV6 [(b,c1)] && okA xs.dropLast)=true)(i:xs=xs.dropLast++[.f g [b]])
  (hc:∀{w},HS c w L'->∀{b1:Nat×Nat},(∀a,eT F0 w a->lS (eF a) a [b1] [.ro 0 c1])->V0 P (eF w) f fo (xs.dropLast++[.k (.func (.func g) #[] (TU [b1]).toArray)]) sv)
  (k:∀x,W (G (.mk P T hT n c B0 N X Q) K' m' ((d,sv x)::e') L' cf2) q (kf x)):W (G (.mk P T hT n c B0 N X Q) K m e L cf) q (fo.bind kf):=λl=>
 bVT is j hk ho i (λh _ p _ i=>hc h p _ i) l λx _ h=>k x h
theorem bTC{i b:Nat}{c1 l:au}(is:av)(r:jO T n K cf m e L=.callp o (some d) f xs cf1 cf2 K' m' e' L')(hk:kl L' is=[.ro i c1,.ro b l])(ho:(aV6 [(i,c1),(b,l)] && okA xs.dropLast)=true)(j:xs=xs.dropLast++[.f g [i,b]])
  (hc:∀{w},HS c w L'->∀{b1 p:Nat×Nat},(∀a,eT F0 w a->lS (eF a) a [b1,p] [.ro 0 c1,.ro 1 l])->V0 P (eF w) f fo (xs.dropLast++[.k (.func (.func g) #[] (TU [b1,p]).toArray)]) sv)
  (k:∀x,W (G (.mk P T hT n c B0 N X Q) K' m' ((d,sv x)::e') L' cf2) q (kf x)):W (G (.mk P T hT n c B0 N X Q) K m e L cf) q (fo.bind kf):=λs=>
 bVU is r hk ho j (λh _ _ t _ j=>hc h t _ j) s λx _ h=>k x h
end
end
def pV(y:Nat×Nat):Value:=.pointer (some ⟨y.1,y.2,none⟩)
section
variable {P:Program} {T:TT} {hT:IC P T} {n:Nat} {c:Ctx} {B0:Bl} {N:Act->World->Prop} {X:Nat->Act->World->Prop} {Q:Act->World->Prop} {K K':bg} {m m':Nat} {e e':SE} {L L':ao} {cf cf1 cf2:wV} {o:Oper}
abbrev VP(P:Program)(c:Ctx)(f:FuncId){ρ:Type}(F:Option ρ)(xs:au)(cs:ρ->au):Prop:=VS P c f F xs [] [] (λ_ (y:Nat×Nat)=>.k (pV y)) (λr y=>[.o (Y3 [y] 0 (cs r))])
theorem rtP{q:Func}{r b:ρ}{l:q.results=[ResultVar.tmp t].toArray}{zz:Option ρ}{cs:ρ->au}(is:av)(hz:zz=some b)(z:jO T n K cf m e L=.ret m' e' L')(C:asT 0 m' e' L' is 1 [(t,.p 0 0)] [.box 0 (cs b)]=some ([(t,.p 0 0)],[.box 0 (cs b)]))(ho:BZ.okC 0 (cs b)=true):W (G (.mk P T hT n c [] N X (QR P q l c [] (λ_ (y:Nat×Nat)=>.k (pV y)) (λr y=>[.o (Y3 [y] 0 (cs r))]) r)) K m e L cf) r zz:=λD=>by
 subst hz;cases D;refine g9 (g:=.mk P T hT n c [] N X _) ?_;rw[z];intro a w j;obtain⟨B,A,f,d⟩:=qQ.asT j is C;have E:∃y,B=[y]:=by
  cases B with
  |nil=>simp at A
  |cons y B=>grind
 obtain⟨y,rfl⟩:=E;have d:lS c w [y] [.box 0 (cs r)]:=d;have f:iC n [y] [(t,.p 0 0)] a:=f;have s:aZW T [(t,.p 0 0)] [.box 0 (cs r)] [ResultVar.tmp t]=some (.p 0 0):=by simp[aZW,bE3,GK]
 obtain⟨v,p,H⟩:=aP8 l hT f d s;have i:v=pV y:=by simp only[fS,gV,bT,List.getElem?_cons_zero] at p;cases p;rfl
 subst i;refine⟨f.d,_,H,y,by grind[fS,gV,bT,Value.oneCell'],?_⟩;obtain⟨⟨R,s1,I⟩,s0⟩:=d;exact⟨⟨R,s1.imp (.cons (λF h=>h) .nil),λx k=>by obtain rfl|k:=lO.1 k<;>first|trivial|simp at k⟩,s0⟩
theorem cP{O:Type}{D:Option O}{kf:O->Option β}{q:β}{d:Nat}{f:FuncId}{xs:au}{cs:O->au}(hs:jO T n K cf m e L=.call o (some d) f xs cf1 cf2 K' m' e' L')
  (hc:∀{w},HS c w L'->VP P (eF w) f D xs cs) (k:∀x,W (G (.mk P T hT n c B0 N X Q) K' (m'+1) ((d,.p m' 0)::e') (L'++[.box m' (cs x)]) cf2) q (kf x)) (hk:∀x,BZ.okC 0 (cs x)=true:=by exact λ_=>rfl):W (G (.mk P T hT n c B0 N X Q) K m e L cf) q (D.bind kf):=λH=>by
 refine g9 (g:=.mk P T hT n c B0 N X Q) ?_;rw[hs];intro M args S ho hd hf ⟨ys,s,t⟩ C J hE;subst t;cases p:D with
 |none=>grind
 |some x=>
  rw[p] at H;refine hE Unit (λ_=>m'+1) (λ_=>(d,.p m' 0)::e') (λ_=>L'++[.box m' (cs x)]) (λ_=>vO _) (λB a w next Q' hm r E i=>?_) (λ_=>k x H);obtain⟨j,l⟩:=hc ⟨_,E⟩ x p;obtain⟨vs,h1,h2⟩:=aGB r s;obtain⟨v,I,h4⟩:=eV r hf;simp[fS,aV] at I;subst I;have h5:=l vs (aIZ C (by rw[UC];exact h1)) (aZ3 w);have h6:=XQ (w:=w) j ho h4 h2;unfold Oper.wp;rw[h6 _ a r.env,Oper.upon_enter];refine Calls.mono h5 λen w' ⟨v,Z,y,g1,g2⟩=>?_;subst Z;rw[hd];have A:v=pV y:=by grind[fS,gV,bT]
  subst A;have hb:∀{F:cW},(Y3 [y] 0 (cs x)).P w' F->(Y3 ((B0S (.mk P T hT n c B0 N X Q) cf1++B)++[y]) m' (cs x)).P w' F:=λ⟨b,z,U,Y,V,k3⟩=>by
   simp only[List.getElem?_cons_zero,Option.some.injEq] at Y;refine⟨y.1,y.2,U,?_,?_,aj⟩
   .grind
   .simpa using fL (λx v h=>by simpa using gR (B:=[]) (B0S (.mk P T hT n c B0 N X Q) cf1++B++[y]) h) (E9 (hk x) V)
  have g3:fS ((B0S (.mk P T hT n c B0 N X Q) cf1++B)++[y]) (.p m' 0)=some (pV y):=by grind[fS,gV,bT,pV]
  refine i () _ _ ⟨[y],aj,r.ext g3 (r.env.put (by grind[sH,y5]) _),?_⟩;obtain⟨⟨R,s1,s2⟩,s0⟩:=(E.after (L2:=[.o (Y3 [y] 0 (cs x))]) rfl g2).app [y];refine⟨⟨R,s1.imp ?_,λz hz=>?_⟩,s0⟩
  .rw[vC,vC];exact kC.append (kC.refl _) (.cons (λF h=>hb h) .nil)
  .obtain hz|hz:=dR.1 hz
   .grind
   .obtain rfl|hz:=lO.1 hz<;>first|trivial|simp at hz
def bQM(b:Bool)(off sz:Nat)(cs:au):bz:=match b with
 |true=>some (.g ((cs.drop off).take sz))
 |false=>match cs[off]? with
  |some x=>match x with
   |.g _=>none
   |.t _=>none
   |.f _ _=>none
   |.u=>none
   |y=>some y
  |none=>none
theorem bQN{O:Type}{F0:Option O}{q:O}{ix sz d:Nat}{b:Bool}{k:TK}{z cs:au}{Fs:Array Field}{F:Field}{x:Operand}{r:SV}{Lv:ao}(A:P.underlying t=some (.struct Fs))(C:Fs[ix]?=some F)(hl:zS T F.type=some ⟨k,b,sz,z⟩)(M:opS (jO T n K cf m e L)=some (o,Lv,cf1,cf2,K',m',e',L'))(ho:(o.op,o.dst)=(.field t x ix,some d))(J:jA e' x=some (.g cs))(g:bQM b F.offset sz cs=some r)(hz:(!b || Nat.ble (F.offset+sz) cs.length)=true)
  (kk:W (G (.mk P T hT n c B0 N X Q) K' m' ((d,r)::e') L' cf2) q F0):W (G (.mk P T hT n c B0 N X Q) K m e L cf) q F0:=λR=>
 pu M (cS Prod.snd ho) (λB a w h _=>by
  obtain⟨v,i,D⟩:=eV h J;simp only[fS,gV] at i;split at i
  case h_2=>cases i
  rename_i vs s;cases i;have p:=mE s;have E:o.op=.field t x ix:=cS Prod.fst ho;have f:=hT.agg _ _ hl;have j:=hT.size _ _ hl;cases b with
  |true=>
   have H:=XF (by simpa using hz);simp only[bQM] at g;cases g;refine⟨.agg ((vs.drop F.offset).take sz).toArray,by grind[fS,gV,XO,XN],λ_ a h=>?_⟩;have e:vs.toArray.extract F.offset (F.offset+sz)=((vs.drop F.offset).take sz).toArray:=ae
   simp[execOp,E,h.eval D,Instr.field,run_underlying A,C,part,asAgg,f,j,e]
  |false=>
   simp only[bQM] at g;split at g
   case h_2=>cases g
   rename_i y I;obtain⟨u,U,S⟩:=XM s I;have l:r=y:=aj
   subst l;refine⟨u,a8U U,λ_ a h=>?_⟩;simp[execOp,E,h.eval D,Instr.field,run_underlying A,C,part,asAgg,f,S]) (kk R)
end
section
variable {n:Nat} {c:Ctx} {B0:Bl} {m:Nat} {e:SE} {L:ao}
def kf(L xs:ao)(k:Nat):av->ao
 |[]=>[]
 |i::is=>match Nat.blt i k with
  |true=>match L[i]? with
   |some x=>x::kf L xs k is
   |none=>kf L xs k is
  |false=>match xs[i-k]? with
   |some x=>x::kf L xs k is
   |none=>kf L xs k is
end
open Go Go.RowKit
def a3B{W:World}{B j:Nat}{v:Value}{cs:bw}{t:TypeId}{f:Nat×Nat}(h:W.heap[B]?=some (.cells cs t f)):W.setCell ⟨B,j,none⟩ v=W.putObj B (.cells (cs.setIfInBounds j v) t f):=by unfold World.setCell World.putObj;obtain⟨a,b⟩:=aNM.1 h;congr 1;grind
def aWA{w':World}(h:Below w.heap.size w w'):eT F0 w w' where
 os:=h.os
 tape:=h.tape
 output:=h.output
 size:=h.size
 block:=λb c _=>h.block b c
 cell:=λb o c _=>World.cell?_of_block (h.block b c)
 zU:=λb o c=>World.frozen?_of_block (h.block b c)
 stay:=λb o d=>by rw[World.cell?_of_block (a:=⟨b,o,none⟩) (h.block b (j4 d))];exact d
end Go.Gv
end
noncomputable section
namespace Go.Gv
variable{U:Ctx}{g:FuncId}{c3 xs:au}{vs:ar}{n3:Nat}{P:Program}{β:Type}{w:World}{F:cW}
section
variable {P:Program} {T:TT} {hT:IC P T} {n:Nat} {c:Ctx} {B0:Bl} {N:Act->World->Prop} {X:Nat->Act->World->Prop} {Q:Act->World->Prop} {K K':bg} {m m':Nat} {e e':SE} {L L' Lv:ao} {cf cf' cf1 cf2:wV} {o:Oper}
theorem a3C{O β:Type}{f:O->Option β}:∀{xs a:List O} {vs:List β},aV f (xs++a)=some vs->∃d b,aV f xs=some d/\aV f a=some b/\vs=d++b
 |[],a,vs,h=>⟨[],vs,rfl,h,rfl⟩
 |x::xs,a,vs,h=>by
  simp only[H6,aV] at h;split at h
  .cases h
  .rename_i k;split at h
   .cases h
   .rename_i g;cases h;obtain⟨d,b,j,i,rfl⟩:=a3C g;grind[aV]
theorem a3D{O β:Type}{f:O->Option β}:∀{xs b:List O} {v1 v2:List β},aV f xs=some v1->aV f b=some v2->aV f (xs++b)=some (v1++v2)
 |[],b,v1,v2,a,d=>by cases a;exact d
 |x::xs,b,v1,v2,a,d=>by
  simp only[aV] at a;split at a
  .cases a
  .rename_i h;split at a
   .cases a
   .rename_i g;cases a;simp[aV,h,a3D g d]
theorem bTD{O:Type}{t:aN O}{C:GM O}{sr:β->SV}{b1:Nat×Nat}{c1:au}{p:O->Option β}(hc:∀args w,(callFunc g args).run P w=.ok (.enter g args) w)(j:∀a,eT U.W U.w0 a->lS (eF a) a [b1] [.ro 0 c1])
  (hn:∀{a x y},C.sub (All a) a x y->VS P (eF a) g (p x) [C.sv x y,.p 0 0] [b1] [.ro 0 c1] (λr (_:Unit)=>sr r) (λ_ _=>[])) (hz:∀q,BZ 0 (sr q)=true:=by exact λ_=>rfl):Fu1 P U C sr g (TU [b1]) p:=
 ⟨hc,λa hk x y f q i v h=>by
  have b:fS [b1] (C.sv x y)=some v:=by simpa using y7 (B:=[]) [b1] h
  have hl:fS [b1] (.p 0 0)=some (.pointer (some ⟨b1.1,b1.2,none⟩)):=by simp[fS,gV,bT]
  refine Calls.mono ((hn f _ i).run (v::TU [b1]) (by grind[aV,TU]) (j a hk)) λen w' ⟨d,l,s,u,k⟩=>⟨d,l,?_,?_⟩
  .grind[aYF]
  .simpa using aIW (m:=0) k rfl⟩
theorem bTE{O ex:Type}{fo:Option O}{kf:O->Option β}{q:β}{d:cq}{f:FuncId}{xs0:au}{M:ao}{sv:O->ex->SV}{Lr:O->ex->ao}{n1:Nat}{c1:au}(jc:Nat)(is:av)
  (hs:cpS (jO T n K cf m e L)=some (o,d,f,xs,cf1,cf2,K',m',e',L')) (hro:L'[jc]?=some (.ro n1 c1)) (Y:aV (λi=>L'[i]?) is=some M) (hxl:xs=xs.dropLast++[.f g [n1]]) (A:aV (rnP [] 0) xs.dropLast=some xs0)
  (hk:(BZ.okC 0 c1 && (N6 M && (dV is && is.all λj=>gE j cf1.zU)))=true)
  (hc:∀{U:Ctx},HG c U L' is->∀{b1:Nat×Nat},(∀w1,eT U.W U.w0 w1->lS (eF w1) w1 [b1] [.ro 0 c1])->VS P U f fo (xs0++[.k (.func (.func g) #[] (TU [b1]).toArray)]) [] M sv Lr)
  (k:∀x,∀y:ex,W (G (.mk P T hT n c B0 N X Q) K' m' (dse d (sv x y) e') (L5 L' is++Lr x y) cf2) q (kf x)) (hn:∀x y,(N6 (Lr x y) && BZ 0 (sv x y))=true:=by exact λ_ _=>rfl):W (G (.mk P T hT n c B0 N X Q) K m e L cf) q (fo.bind kf):=λhF=>by
 refine g9 (g:=.mk P T hT n c B0 N X Q) (bF1 hs ?_);intro fo' args ats ho hd hf ⟨ys,hys,hxs⟩ hdn hE;simp only[yV] at hk hn;obtain⟨hk1,H,hka,hkz⟩:=hk;cases I:fo with
 |none=>grind
 |some x=>
  rw[I] at hF;refine hE ex (λ_=>m') (λy=>dse d (sv x y) e') (λy=>L5 L' is++Lr x y) (λy=>Y6 _ hkz) (λB a w next Q' hm C t l=>?_) (λy=>k x y hF);generalize hBB:B0S (.mk P T hT n c B0 N X Q) cf1++B=u at hm C t l;obtain⟨⟨R,s1,s2⟩,s0⟩:=t;have f1:=s1.front is hka;rw[UE Y] at f1;obtain⟨U,k1,k2,k3,k4,k5,k6,k7⟩:=f1.bON s0;subst k1;have hHG:HG c U L' is:=by
   refine⟨λ{O} _ {s d} h=>k4 (fRd [s.v d.length] d) h,λ{O} _ {s d} i Y hj=>?_,λ{O} _ {s d} i Y=>k5 _ (s2 _ (IA Y))⟩;have:(blank (L'.map (l5 u)) is)[i]?=some (fF [s.v d.length] d):=by rw[aK7 (aLE hj),D0,Y];rfl
   exact k6 _ (IA this) (fRd [s.v d.length] d) λw F h=>aN.own_rd h
  obtain⟨b,z,p,g1,g2,Z⟩:=s2 _ (IA hro);have J:=E9 hk1 g2;rw[List.take_zero] at J;have hB:∀w1,eT U.W U.w0 w1->lS (eF w1) w1 [(b,z)] [.ro 0 c1]:=λw1 E=>by have h1:=k5 _ Z;have h2:(fAt b z p).P U.S0 w1:=(fAt b z p).agree h1 λb' V t=>E.cell b' V (k2 b' V t) λhw=>k3.apart b' V hw t;have h3:(fAt b z p).P (All w1) w1:=(fAt b z p).mono h2 λb' V t=>LN (k2 b' V t) E.size;have h4:St (eF w1) w1 [] [fAt b z p]:=St.enter aj;refine⟨⟨[fAt b z p],St.more (ch:=QD) h4 (eT.refl _ _) ⟨F0,λ_ _ h=>h,λ_ _ h=>h.elim⟩,λx A=>?_⟩,λ_ _ h=>h⟩;simp at A;subst A;exact⟨b,z,p,ae,fL (λx v h=>by simpa using gR (B:=[]) _ h) J,ae⟩
  obtain⟨r,D⟩:=hc hHG hB x I;obtain⟨vs,h1,h2⟩:=aGB C hys;obtain⟨v,h3,h4⟩:=eV C hf;simp[fS,aV] at h3;subst h3;have S:aV (fS u) xs=some vs:=by grind[UC]
  have hvs:aV (fS []) (xs0++[.k (.func (.func g) #[] (TU [(b,z)]).toArray)])=some vs:=by rw[hxl] at S;obtain⟨va,vb,q1,q2,rfl⟩:=a3C S;have q3:=a0A (Bs:=[]) (ps:=[]) (ds:=[]) (pv:=[]) (L:=L') (B:=u) trivial (λi=>by simp[blP]) A q1;simp only[aV,fS,gV,aB2,g1] at q2;cases q2;exact a3D q3 (by simp[aV,fS,gV,bT,TU];rfl)
  have hst:lS U U.w0 [] M:=by
   refine⟨⟨[],?_,λx A=>?_⟩,k2⟩
   .rw[aCL (B':=u) H];exact k3
   .exact aCM H x A
  have h5:=D vs hvs hst;have h6:=XQ (w:=U.w0) r ho h4 h2;unfold Oper.wp;rw[h6 _ a C.env,Oper.upon_enter];refine Calls.mono h5 λen w' ⟨v,hv,y,g1,g2⟩=>?_;subst hv;obtain⟨n3,n4⟩:=hn x y;have Z:=y7 u (aYF n4 g1);rw[PY] at Z;obtain⟨⟨R',t1,t2⟩,t0⟩:=g2;have t3:St U w' ((Lr x y).map (l5 u)) R':=by grind[aCL]
  have t4:=k7 w' _ R' t3;have t6:lS c w' u (L5 L' is++Lr x y):=by
   refine⟨⟨R,?_,λz hz=>?_⟩,s0⟩
   .rw[vC,MU];exact t4.rot
   .obtain hz|hz:=dR.1 hz
    .obtain hz|hz:=UD _ _ hz
     .grind
     .subst hz;trivial
    grind[aCM]
  rw[hd];cases d with
  |none=>exact l y _ _ ⟨[],aj,by grind[dse,Act.put],aj⟩
  |some d=>exact l y _ _ ⟨[],aj,by simpa[dse] using C.of Z (C.env.put (by grind[sH,y5]) v),aj⟩
end
def H4(l:an):an:=l.foldl (λa x=>if a.getLast?=some x then a else a++[x]) []
theorem aLG(l:an)(x:Int):H4 (l++[x])=if(H4 l).getLast?=some x then H4 l else H4 l++[x]:=by grind[H4]
def bBX:∀(l:an),(H4 l).getLast?=l.getLast?:=by
 intro l;obtain rfl|⟨l,x,rfl⟩:=aCH l
 .rfl
 grind[aLG]
theorem bLT(l:an):(H4 l).length<=l.length:=by
 suffices h:∀(l a:an),(l.foldl (λa x=>if a.getLast?=some x then a else a++[x]) a).length<=a.length+l.length by have:=h l [];rw[List.length_nil,aIN] at this;exact this
 intro l;induction l with
 |nil=>simp
 |cons x l b=>
  grind
def slices_Compact_int(s:an):cr:=some (H4 s)
theorem a9N(l:an):Lib.compact l=H4 l:=by
 have h:∀m,m<=l.length->Lib.compactUpTo l.toArray m=H4 (l.take m):=by
  intro m;induction m with
  |zero=>intro _;rfl
  |succ m b=>
   intro c;have a:m<l.length:=c;rw[Lib.compactUpTo_succ,b aa,N5 a,aLG,bBX];have e:l.toArray[m]! = l[m]:=by simp[a]
   have key:(Lib.keeps l.toArray m=true)↔¬(l.take m).getLast?=some l[m]:=by
    cases m with
    |zero=>simp[Lib.keeps]
    |succ k=>
     have d:l.toArray[k]! = l[k]:=aj
     rw[N5 (by omega:k<l.length),List.getLast?_concat];simp only[Lib.keeps,decide_eq_true_eq,e,Nat.add_sub_cancel,d];grind
   grind
 have:=h l.length (jE _);rw[List.take_length] at this;exact this
open Go.Sort in
def a3E{b off q:Nat}{f d:Array Int}(l:Holds (Value.int .i64) w b off f)(i:d.size=f.size):eT (fB b off d.size) w (putRow (Value.int .i64) (Sort.ahead w q) b off d):=by
 have hc:∀b' o,b'<w.heap.size->¬fB b off d.size b' o->(putRow (Value.int .i64) (Sort.ahead w q) b off d).cell? ⟨b',o,none⟩=w.cell? ⟨b',o,none⟩:=λb' o _ a=>by
  rw[cell?_putRow_other _ _ _ _ _ _ (by
   by_cases e:b'=b
   .right;by_cases j:o<off
    .grind
    .right;by_cases g:o<off+d.size
     .exact absurd ⟨e,aa,g⟩ a
     grind
   grind)]
  rfl
 refine⟨rfl,rfl,rfl,ae,λb' m a=>?_,hc,λb' o _=>ae,λb' o h=>?_⟩
 .show(w.heap.modify b _)[b']? = _;rw[Array.getElem?_modify];split
  .rename_i e;subst e;have hz:d.size=0:=by
    obtain h|h:=Nat.eq_zero_or_pos d.size
    .exact h
    .exact absurd ⟨rfl,jE _,aa⟩ (a off)
   cases hh:w.heap[b]? with
   |none=>rfl
   |some o=>
    cases o with
    |cells c e fr=>
     simp only[Option.map_some,onCells];have:putCells (Value.int .i64) off d c=c:=by apply Array.ext_getElem?;intro k;simp only[putCells,Array.getElem?_mapIdx,hz];grind
     rw[this]
    |_=>rfl
  .rfl
 .by_cases a:fB b off d.size b' o
  .obtain⟨rfl,j,g⟩:=a;have:=cell?_putRow (Value.int .i64) (Sort.ahead w q) b' off f d l i (o-off) aa;grind
  grind[j4]
open Go.Proofs in
def bV5{ρ:_}(Ly:Lays2.n20 P ρ)(k:∀args w,(callFunc (ρ.f 20) args).run P w=.ok (.enter (ρ.f 20) args) w){s:an}{D:AC}:VS P U (ρ.f 20) (slices_Compact_int s) [.h D s.length] [] [ow D s] (λr (y:AC)=>.h y r.length) (λr y=>[ow y r]):=λr hr=>by
 cases hr;refine⟨k,λvs Y hS=>?_⟩;simp[aV,fS,gV,bT] at Y;subst Y;obtain⟨⟨R,O,h2⟩,h0⟩:=hS;have O:St U U.w0 [fF [D.v s.length] s] R:=by grind[l5]
 obtain⟨F,N⟩:=O.chunk 0 rfl;have N:aN.own U.w0 [D.v s.length] s F:=N;obtain⟨a,cp,Z,z,u,g⟩:=(show D1 U.w0 _ s F from N);obtain⟨sa,C⟩:=D;simp only[AC.v,List.cons.injEq,Value.slice.injEq,and_true,true_and] at Z;obtain⟨rfl,rfl⟩:=Z;obtain⟨rfl,rfl,hno⟩|⟨b,off,Fs,rfl,m,H,hdj,hdr,hFF⟩:=g
 .have hs:s=[]:=vB aa;subst hs;refine(Any.slices_Compact_int_empty Ly none 0 U.w0).mono ?_;rintro e w' ⟨rfl,rfl⟩;exact⟨_,rfl,⟨none,0⟩,by grind[fS,gV,bT,H4],⟨R,by grind[H4],λx X=>by simp at X;subst X;trivial⟩,h0⟩
 .have I:aN.n Int=1:=rfl;have M:Sort.Holds (Value.int .i64) U.w0 b off s.toArray:=λj J=>by
   have G:j<s.length:=aa
   obtain⟨ec,c1,Q⟩:=H j G;have c3:ec=[Value.int .i64 s[j]]:=(show _=_/\_ from Q).1;have:=c1 0 (.int .i64 s[j]) (by rw[c3];rfl);rw[I,Nat.mul_one,aAS] at this;refine⟨aj,(m (off+j) ⟨rfl,aa,aj⟩).2⟩
  have n:(Lib.compact s).length<=s.length:=by grind[a9N,bLT]
  refine(Any.slices_Compact_int Ly b off C s U.w0 M (oB z (oB u ai)) z).mono ?_;rintro e w' ⟨rfl,q,rfl⟩;rw[a9N] at n ⊢;have t:(H4 s++List.replicate (s.length-(H4 s).length) 0).toArray.size=s.toArray.size:=ah
  have hsa:s.toArray.size=s.length:=ae
  have L:=a3E (q:=q) M t;refine⟨_,rfl,⟨some ⟨b,off,none⟩,C⟩,by grind[fS,gV,bT],⟨R,?_,by simp[roF]⟩,h0⟩;have:=O.aK5 (w':=Sort.putRow (Value.int .i64) (Sort.ahead U.w0 q) b off (H4 s++List.replicate (s.length-(H4 s).length) 0).toArray) (ch':=fF [(⟨some ⟨b,off,none⟩,C⟩ : AC).v (H4 s).length] (H4 s)) 0 rfl λF2 l=>by
   have l:aN.own U.w0 [_] s F2:=l;obtain⟨a',cp',A,_,_,c⟩:=(show D1 U.w0 _ s F2 from l);simp only[AC.v,List.cons.injEq,Value.slice.injEq,and_true,true_and] at A;obtain⟨rfl,rfl⟩:=A;obtain⟨h,_⟩|⟨b',S,B,h,f,p,W,V,d⟩:=c
   .cases h
   .cases h;have T:∀i (K:i<s.length) b' o,¬B i b' o:=λi K b' o h=>by obtain⟨ec,_,Q⟩:=p i K;exact(show _/\∀b o,¬B i b o from Q).2 b' o h
    refine⟨fB b off (C*1),fB b off (H4 s++List.replicate (s.length-(H4 s).length) 0).toArray.size,L,λb' o h=>(d b' o).2 (.inl ?_),?_,λb' o h=>.inl ((d b' o).2 (.inl h))⟩
    .obtain⟨h3,h4,h5⟩:=h;exact⟨h3,h4,aj⟩
    .refine⟨_,C,rfl,aa,u,.inr ⟨b,off,λ_=>F0,rfl,λo ho=>?_,λi K=>?_,λ_ _ _ _ _ _ _ h _=>h,λ_ _ _ _ h _=>h,λb' o=>by simp[F0,I]⟩⟩
     .have:=f o ho;exact⟨L.stay b o this.1,(L.zU b o (j4 this.1)).trans this.2⟩
     .refine⟨[.int .i64 (H4 s)[i]],λj v J=>?_,rfl,λ_ _ h=>h⟩;have E:j=0:=aj
      subst E;simp at J;subst J;rw[I,Nat.mul_one,aAS];have:=Sort.cell?_putRow (Value.int .i64) (Sort.ahead U.w0 q) b off s.toArray (H4 s++List.replicate (s.length-(H4 s).length) 0).toArray M t i aa;grind
  grind[l5]
theorem fkP{O:Type}{l:aN O}{C:GM O}{sr:β->SV}{Bs:Bl}{L0:ao}{cap:ar}{p:O->Option β}(hc:∀args w,(callFunc g args).run P w=.ok (.enter g args) w)(h:∀a,eT F0 w a->lS (eF a) a Bs L0)(hl:aV (fS Bs) xs=some cap)
  (hn:∀{a x y},eT F0 w a->C.sub (All a) a x y->VS P (eF a) g (p x) (C.sv x y::xs) Bs L0 (λr (_:Unit)=>sr r) (λ_ _=>[])) (hz:∀q,BZ 0 (sr q)=true:=by exact λ_=>rfl):Fu1 P (eF w) C sr g cap p:=
 ⟨hc,λa hk x y d q f v e=>by
  have b:fS Bs (C.sv x y)=some v:=by simpa using y7 (B:=[]) Bs e
  refine Calls.mono ((hn hk d q f).run (v::cap) (by grind[aV]) (h a hk)) λen w' ⟨c,j,k,n,i⟩=>⟨c,j,?_,?_⟩
  .grind[aYF]
  .simpa using aIW (m:=0) i rfl⟩
def bLU{c:Ctx}{B:Bl}{L:ao}{r q:Nat}{c1:au}{b1 z:Nat×Nat}(I:lS c w B L)(O:Ch.ro r c1∈L)(N:Ch.ro q [.p n3 0]∈L)(K:Ch.ro n3 c3∈L)(D:BZ.okC 0 c1=true)(C:BZ.okC 0 c3=true)(Q:B[r]?=some b1)(P:B[q]?=some z) :
  ∃b3:Nat×Nat,∀w1,eT F0 w w1->lS (eF w1) w1 [b1,z,b3] [.ro 0 c1,.ro 1 [.p 2 0],.ro 2 c3]:=by
 obtain⟨⟨R,s1,n⟩,s0⟩:=I;obtain⟨j,e,m,y,F,W⟩:=n _ O;obtain⟨g,d,T,u,s,V⟩:=n _ N;obtain⟨b,a,l,S,E,U⟩:=n _ K;rw[Q] at y;cases y;rw[P] at u;cases u;simp only[aV,bT,S] at s;cases s;have p:=E9 D F;have o:=E9 C E;rw[List.take_zero] at p o;refine⟨(b,a),λw1 k=>?_⟩;have A:∀f∈R,f.P (All w1) w1:=λf H=>by obtain⟨i,G⟩:=aMZ H;exact bOE (s1.fact i G) k
 refine⟨⟨[fAt j e m,fAt g d [.pointer (some ⟨b,a+0,none⟩)],fAt b a l],?_,?_⟩,λ_ _ h=>h⟩
 .have J:St (eF w1) w1 [] [fAt j e m,fAt g d [.pointer (some ⟨b,a+0,none⟩)],fAt b a l]:=St.enter (by
   grind)
  have more:∀{M:bj} {R:bs},St (eF w1) w1 M R->St (eF w1) w1 (M++[QD]) R:=λh=>St.more (ch:=QD) h (eT.refl _ _) ⟨F0,λ_ _ h=>h,λ_ _ h=>h.elim⟩;exact more (more (more J))
 .intro x t;simp only[lO,a8I,or_false] at t;obtain rfl|rfl|rfl:=t
  .exact⟨j,e,m,rfl,fL (λx v h=>by simpa using gR (B:=[]) [(j,e),(g,d),(b,a)] h) p,ae⟩
  .exact⟨g,d,_,rfl,rfl,ae⟩
  .exact⟨b,a,l,rfl,fL (λx v h=>by simpa using gR (B:=[]) [(j,e),(g,d),(b,a)] h) o,ae⟩
section
variable {P:Program} {T:TT} {hT:IC P T} {n:Nat} {c:Ctx} {B0:Bl} {N:Act->World->Prop} {X:Nat->Act->World->Prop} {Q:Act->World->Prop} {K K':bg} {m m':Nat} {e e':SE} {L L':ao} {cf cf1 cf2:wV} {o:Oper} {Lv:ao} {d:Nat}
theorem bV6{O:Type}{H:Option O}{kf:O->Option β}{q:β}{f:FuncId}{sv:O->SV}{z t:Nat}{c1:au}(is:av)(hs:jO T n K cf m e L=.callp o (some d) f xs cf1 cf2 K' m' e' L')(hk:kl (shr [n3] L') is=[.ro z c1,.ro t [.p n3 0],.ro n3 c3])(ho:((BZ.okC 0 c1 && BZ.okC 0 c3) && okA xs.dropLast)=true)(hx:xs=xs.dropLast++[.f g [z,t]])
  (hc:∀{w},HS c w L'->∀{b1 M b3:Nat×Nat},(∀Y,eT F0 w Y->lS (eF Y) Y [b1,M,b3] [.ro 0 c1,.ro 1 [.p 2 0],.ro 2 c3])->∀{x},H=some x->Fn0 P f (eF w) (xs.dropLast++[.k (.func (.func g) #[] (TU [b1,M]).toArray)]) sv x) (hF:H.bind kf=some q)
  (k:∀x,H=some x->kf x=some q->G (.mk P T hT n c B0 N X Q) K' m' ((d,sv x)::e') L' cf2):G (.mk P T hT n c B0 N X Q) K m e L cf:=by
 refine g9 (g:=.mk P T hT n c B0 N X Q) ?_;rw[hs];intro fo' args ats W hd hf ⟨ys,R,S⟩ hdn hE;rw[yV] at ho;cases s:H with
 |none=>grind
 |some x=>
  rw[s] at hF;refine hE Unit (λ_=>m') (λ_=>(d,sv x)::e') (λ_=>L') (λ_=>by simpa using vO (L:=L') []) (λB a w next Q' hm E Z p=>?_) (λ_=>k x s hF);obtain⟨vs,h1,h2⟩:=aGB E R;obtain⟨v,h3,h4⟩:=eV E hf;simp[fS,aV] at h3;subst h3;rw[<-UC,S] at h1;rw[hx] at h1;have split:∀{j:au} {b:SV} {vs:ar} {B:Bl},aV (fS B) (j++[b])=some vs->∃l v,aV (fS B) j=some l/\fS B b=some v/\vs=l++[v]:=by
   intro j;induction j with
   |nil=>
    grind[aV]
   |cons a j ih=>
    intro b vs B h;simp only[H6,aV] at h;grind[aV]
  obtain⟨l,fv,g1,F,rfl⟩:=split h1;simp only[fS] at F;split at F
  .rename_i cap D;cases F;obtain⟨Bs,b1,M,b3⟩:=bFR (cs:=[(z,c1),(t,[.p n3 0])]) D;subst b1;obtain⟨J,I,rfl⟩:∃J I,Bs=[J,I]:=by
    match Bs,M with
    |[J,I],_=>simp
   have i:∀x∈[Ch.ro z c1,.ro t [.p n3 0],.ro n3 c3],x∈shr [n3] L':=λx hx=>aRO (is:=is) aj;rw[yV] at ho;obtain⟨q1,y1,y2⟩:=b3 0 z c1 rfl;obtain⟨q2,y3,y4⟩:=b3 1 t _ rfl;simp at y1 y3;subst y1 y3;obtain⟨d3,V⟩:=bLU (n3:=n3) (c1:=c1) (c3:=c3) (aZ5 [n3] [] L' Z) (i (.ro z c1) ae) (i (.ro t [.p n3 0]) ae) (i (.ro n3 c3) ae) ho.1.1 ho.1.2 y2 y4;obtain⟨r,C⟩:=hc ⟨_,Z⟩ V s;have A:∀{j:au} {l:ar} {b:SV} {v:Value},aV (fS []) j=some l->fS [] b=some v->aV (fS []) (j++[b])=some (l++[v]):=by
    intro j;induction j with
    |nil=>grind[aV]
    |cons a j ih=>
     intro l b v h hb;simp only[aV] at h;split at h
     .cases h
     .rename_i u hu;split at h
      .cases h
      .rename_i us' U;cases h;simp[aV,hu,ih U hb]
   have h5:=C (l++[.func (.func g) #[] (TU [J,I]).toArray]) (A (aIZ ho.2 g1) (by simp[fS,gV,bT,Value.oneCell'])) (aZ3 w);have h6:=XQ (w:=w) r W h4 h2;unfold Oper.wp;rw[h6 _ a E.env,Oper.upon_enter];refine Calls.mono h5 λen w' ⟨v,hv,y,e1,e2⟩=>?_;subst hv;rw[hd];have g3:=y7 (B0S (.mk P T hT n c B0 N X Q) cf1++B) e1;exact p () _ _ ⟨[],aj,by simpa using E.of aj (E.env.put (by grind[sH,y5]) v),by simpa using Z.after (L2:=[]) rfl e2⟩
  .cases F
theorem clP{O:Type}{l:Option O}{kf:O->Option β}{q:β}{f:FuncId}{sv:O->SV}{j i:Nat}{c1:au}(is:av)(r:jO T n K cf m e L=.callp o (some d) f xs cf1 cf2 K' m' e' L')(hk:kl (shr [n3] L') is=[.ro j c1,.ro i [.p n3 0],.ro n3 c3])(ho:((BZ.okC 0 c1 && BZ.okC 0 c3) && okA xs.dropLast)=true)(b:xs=xs.dropLast++[.f g [j,i]])
  (hc:∀{w},HS c w L'->∀{b1 p b3:Nat×Nat},(∀a,eT F0 w a->lS (eF a) a [b1,p,b3] [.ro 0 c1,.ro 1 [.p 2 0],.ro 2 c3])->V0 P (eF w) f l (xs.dropLast++[.k (.func (.func g) #[] (TU [b1,p]).toArray)]) sv)
  (k:∀x,W (G (.mk P T hT n c B0 N X Q) K' m' ((d,sv x)::e') L' cf2) q (kf x)):W (G (.mk P T hT n c B0 N X Q) K m e L cf) q (l.bind kf):=λs=>
 bV6 is r hk ho b (λh _ _ _ t _ b=>hc h t _ b) s λx _ h=>k x h
def noD:wV->Bool
 |.d _ _ _ _ _ _=>false
 |.o _ _ _ _ _ _ _=>false
 |_=>true
theorem shS(b:av){cf':wV}(g:XL (jO T n K cf m e L)=some (K',cf',m',e',L'))(f:noD cf'=true)(k:G (.mk P T hT n c B0 N X Q) K' m' e' (shr b L') cf'):G (.mk P T hT n c B0 N X Q) K m e L cf:=by
 refine go g (chg (λ_:Unit=>m') (λ_=>e') (λ_=>shr b L') (λB a w i j h=>⟨(),[],aj,aj,by simpa using aZ5 b [] L' h⟩) (λ_=>?_) (λ_=>k));cases cf' with
 |d _ _ _ _ _ _=>cases f
 |o _ _ _ _ _ _ _=>cases f
 |_=>trivial
end
abbrev R2:=Raw×Raw
variable{us:List R2}
def prs:ar->List R2
 |a::b::r=>(⟨a⟩,⟨b⟩)::prs r
 |_=>[]
def ZC:∀{n:Nat} {cs:ar},cs.length=n*2->(prs cs).length=n
 |0,cs,h=>by have:cs=[]:=vB aa;rw[this];rfl
 |n + 1,cs,h=>by
  match cs,h with
  |a::b::r,h=>simp only[prs,H8] at *;rw[ZC (n:=n) aa]
  |[_],h=>grind
  |[],h=>simp at h
def aQH:∀{n:Nat} {cs ds:ar},cs.length=n*2->prs (cs++ds)=prs cs++prs ds
 |0,cs,ds,h=>by have:cs=[]:=vB aa;rw[this];rfl
 |n + 1,cs,ds,h=>by
  match cs,h with
  |a::b::r,h=>simp only[prs,H6,H8] at *;rw[aQH (n:=n) aa]
  |[_],h=>grind
  |[],h=>simp at h
def a9O{a b:Value}(d:a.oneCell'=true)(c:b.oneCell'=true):aN.own w [a,b] ((⟨a⟩,⟨b⟩):R2) F0:=⟨[a],[b],F0,F0,rfl,⟨⟨rfl,d⟩,λ_ _ h=>h⟩,⟨⟨rfl,c⟩,λ_ _ h=>h⟩,λ_ _ h=>h.elim,λ_ _=>by simp[F0]⟩
def bLV{cs:ar}{u:R2}(h:aN.own w cs u F):cs=[u.1.v,u.2.v]/\∀b o,¬F b o:=by obtain⟨c1,f,i,g,e,c,a,_,d⟩:=h;refine⟨by rw[e,c.1.1,a.1.1];rfl,λb o p=>((d b o).1 p).elim (c.2 b o) (a.2 b o)⟩
section
variable {O:Type} [aN O] (hn:aN.n O=2) {w:World}
include hn
theorem a9P:∀{l:List O} {cs:ar} {F:cW},dC w cs l F->dC w cs (prs cs) F0
 |[],cs,F,h=>by rw[h.1];exact⟨rfl,λ_ _ h=>h⟩
 |x::r,cs,F,⟨c1,d,j,i,e,b,c,f,g⟩=>by
  have a:=aN.mD (aN.own_rd b);have o:=aN.rd_one (aN.own_rd b);rw[hn] at a
  match c1,a,o with
  |[u,v],_,o=>
   subst e;exact⟨[u,v],d,F0,F0,rfl,a9O (o u ae) (o v ae),a9P c,λ_ _ h=>h.elim,λ_ _=>by simp[F0]⟩
theorem a0D{l:List O}{cs:ar}(h:dC w cs l F):cs.length=l.length*2:=by rw[h.length,hn]
omit hn in
theorem aYG:∀{us:List R2} {cs:ar} {F:cW},dC w cs us F->us=prs cs/\∀b o,¬F b o
 |[],cs,F,h=>by rw[h.1];exact⟨rfl,h.2⟩
 |u::r,cs,F,⟨c1,l,n,m,e,c,a,d,f⟩=>by obtain⟨k,i⟩:=bLV c;obtain⟨j,g⟩:=aYG a;simp_all[prs]
theorem bGG{s:Value}{l:List O}{cs:ar}{G Fe:cW}(h:aN.own w [s] us G)(ho:dC w cs l Fe)(C:us=prs cs)(E:G.IB Fe):aN.own w [s] l (λb o=>G b o\/Fe b o):=by
 have j:=a0D hn ho;have u:=ZC j;rw[<-C] at u;obtain⟨a,c,e,N,H,F⟩:=nS.1 h;refine nS.2 ⟨a,c,by rw[e,u],aa,H,?_⟩;obtain⟨rfl,rfl,k⟩|⟨b,off,t,Q,rfl,D,hc,f,z,m⟩:=F
 .have hl:l=[]:=vB aa;subst hl;exact .inl ⟨rfl,rfl,λb o p=>p.elim (k b o) (ho.2 b o)⟩
 .obtain⟨K,B⟩:=aYG f;have A:t.length=us.length*2:=f.length;have I:t=cs:=by
   have M:∀{n:Nat} {x y:ar},x.length=n*2->y.length=n*2->prs x=prs y->x=y:=by
    intro n;induction n with
    |zero=>simp
    |succ n L=>
     intro x y i g d
     match x,y,i,g,d with
     |a::b::r,P::b'::J,i,g,d=>
      grind[prs]
     |[],_,i,_,_=>simp at i
     |[_],_,i,_,_=>grind
     |_::_::_,[],_,g,_=>simp at g
     |_::_::_,[_],_,g,_=>grind
   grind
  subst I;have v:∀b' o,G b' o↔fB b off (c*2) b' o:=λb' o=>by rw[m];exact⟨λq=>q.elim id λq=>(B b' o q).elim,.inl⟩
  refine .inr ⟨b,off,t,Fe,rfl,by rw[hn];exact D,hc,ho,λb' o p q=>E b' o ((v b' o).2 aj) p,λb' o=>by rw[v,hn]⟩
def cIn(cs:ar)(l:List O):Chunk:=⟨λw F=>dC w cs l F,λh hk b=>dC.keep hk h b,λh a=>dC.lt h a⟩
end
def bTF{O:Type}(l:List O)(i j:Int):Option (List O):=need (0<=i/\i<=j/\j<=(l.length:Int)) (some (l.take i.toNat++l.drop j.toNat))
def zR2:R2:=(⟨.bool false⟩,⟨.slice none 0 0⟩)
def bQO:aN.rd F0 w [.bool false,.slice none 0 0] zR2:=⟨[_],[_],rfl,⟨rfl,rfl⟩,⟨rfl,rfl⟩⟩
def bLW{O:Type}{l:List O}{a b:Nat}(c:a<=b)(d:b<=l.length):((dF l a (l.drop b)).take (a+(l.length-b))).drop 0=l.take a++l.drop b:=by
 have f:(l.take a).length=a:=aj
 have e:(l.drop b).length=l.length-b:=ae
 unfold dF;rw[PW,aM1 (l:=l.drop b) aa,<-qM,show a+(l.length-b)=(l.take a++l.drop b).length by grind];grind
def a3F{O:Type}{p:Prop}[Decidable p]{k:Option O}(h:p):need p k=k:=aM h
def bGH(s:List R2)(i j:Int):Option (List R2):=need (0<=(i:Int)/\(i:Int)<=(j:Int)/\(j:Int)<=((s.length:Int):Int)/\((s.length:Int):Int)<=(s.length:Int)) ((if i == j then some s else need (0<=(i:Int)/\(i:Int)<=(s.length:Int)) (need (0<=(j:Int)/\(j:Int)<=(s.length:Int)) (need (i.toNat<=j.toNat) (need (0<=(((((dF s i.toNat (s.drop j.toNat)).take (i.toNat+(s.length-j.toNat))).drop 0).length:Int):Int)/\(((((dF s i.toNat (s.drop j.toNat)).take (i.toNat+(s.length-j.toNat))).drop 0).length:Int):Int)<=((s.length:Int):Int)/\((s.length:Int):Int)<=((dF s i.toNat (s.drop j.toNat)).length:Int)) (some (((dF s i.toNat (s.drop j.toNat)).take (i.toNat+(s.length-j.toNat))).drop 0)))))))
theorem bLX{i j:Int}(h:0<=i/\i<=j/\j<=(us.length:Int)):bGH us i j=some (us.take i.toNat++us.drop j.toNat):=by
 unfold bGH;rw[a3F aa];by_cases e:i=j
 .simp_all
 .rw[aO aj,a3F aa,a3F aa,a3F aa,bLW aa aa,a3F];grind[fK]
def bGI{O:Type}[aN O](hn:aN.n O=2){s:Value}{l:List O}{ec:ar}(hl:ec.length=2)(ho:∀v∈ec,v.oneCell'=true)(h:Sep w [vD s l 0,cAt (elB s) (elO (aN.n O) 0 s) ec] F) :
  ∃c2,c2.length=(l.drop 1).length*2/\l.length=(l.drop 1).length+1/\∀F,Sep w [vD s l 0,cAt (elB s) (elO (aN.n O) 0 s) ec] F->∃G Fe,aN.own w [s] (prs (ec++c2)) G/\dC w c2 (l.drop 1) Fe/\G.IB Fe/\∀b o,F b o↔G b o\/Fe b o:=by
 obtain⟨G1,G2,⟨a,c,b,off,c1,c2,F1,F3,e,h1,h2,hk,rfl,hr,k1,U,o1,T,d1,d2,d3,L⟩,_,_,_⟩:=h;have t:=a0D hn T;have K:(l.drop 1).length=l.length-1:=ae
 have D:(l.drop (0+1)).length=l.length-1:=ae
 refine⟨c2,t,aa,λF h=>?_⟩;obtain⟨S,G2',⟨a',c',b',C,R,d,B,A,H,N,z,J,X,r,I,m,k,j,Q,P,x,i⟩,f,dG,hF⟩:=h;rw[e] at H;cases H;cases X;have y:d=c2:=aHA m U (by grind[a0D]);subst y;have f:(cAt (elB s) (elO (aN.n O) 0 s) ec).P w G2':=Sep.one.1 f;obtain⟨E,hz,W⟩:=f;subst e;simp only[elB,elO,Nat.zero_mul,aAS,hl] at E hz W;have M:∀b o,¬B b o:=by have:l.take 0=[]:=rfl;rw[this] at k;exact k.2
 rw[hn] at r m x i;have V:(prs (ec++d)).length=l.length:=by rw[aQH (n:=1) aa,H7,ZC (n:=1) aa,ZC t];omega
 have g:dC w (ec++d) (prs (ec++d)) F0:=by
  match ec,hl,ho with
  |[u,v],_,ho=>exact⟨[u,v],d,F0,F0,rfl,a9O (ho u ae) (ho v ae),a9P hn j,λ_ _ h=>h.elim,λ_ _=>by simp[F0]⟩
 refine⟨fB b off (c*2),A,nS.2 ⟨_,c,by rw[V],aa,z,.inr ⟨b,off,ec++d,F0,rfl,λo p=>?_,?_,g,λ_ _ h=>h.elim,λ_ _=>?_⟩⟩,j,λb o p q=>x b o q p,λb' o=>?_⟩
 .by_cases q:fB b off 2 b o
  .refine⟨?_,hz o q⟩;obtain⟨_,Z,Y⟩:=q;have:=E (o-off) _ (iS aa);simp_all
  .exact r o p aa
 .grind[Y1]
 .exact⟨.inl,λq=>q.elim id λq=>q.elim⟩
 grind[fB]
def aYH{B:Bl}:∀{cs:au} {vs:ar},aV (bT B) cs=some vs->∀v∈vs,v.oneCell'=true
 |[],vs,h,v,a=>by cases h;simp at a
 |x::r,vs,h,v,a=>by
  simp only[aV] at h;split at h
  .cases h
  .rename_i y c;split at h
   .cases h
   .rename_i d b;cases h;obtain rfl|a:=lO.1 a
    .exact aRK c
    .exact aYH b v a
section
variable {P:Program} {T:TT} {hT:IC P T} {n:Nat} {c:Ctx} {B0:Bl} {N:Act->World->Prop} {X:Nat->Act->World->Prop} {Q:Act->World->Prop} {K K':bg} {m m':Nat} {e e':SE} {L L':ao} {cf cf' cf1 cf2:wV} {o:Oper} {Lv:ao} {d:Nat}
theorem hzR{O:Type}[aN O](hn:aN.n O=2){s:AC}{l:List O}{nb D:Nat}{cs:au}(h g hv:Nat)(hs:XL (jO T n K cf m e L)=some (K',cf',m',e',L'))(hh:L'[h]?=some (.o (vD (s.v l.length) l 0)))(hb:L'[g]?=some (.box nb cs))(hw:L'[hv]?=some (wOf O nb s D 0))(hl:cs.length=2)(Z:dV [h,g]=true)(hz:([h,g].all λj=>gE j cf'.zU)=true)
  (k:∀(us:List R2) (c2:ar),us.length=l.length->us.drop 1=prs c2->l.length=(l.drop 1).length+1->G (.mk P T hT n c B0 N X Q) K' m' e' (L5 L' [h,g]++[ow s us,.o (cIn c2 (l.drop 1))]) cf'):G (.mk P T hT n c B0 N X Q) K m e L cf:=by
 refine go hs (chg (ι:={p:List R2×ar // p.1.length=l.length/\p.1.drop 1=prs p.2/\l.length=(l.drop 1).length+1}) (λ_=>m') (λ_=>e') (λp=>L5 L' [h,g]++[ow s p.1.1,.o (cIn p.1.2 (l.drop 1))]) (λB a w hm hA hS=>?_) (λ_=>Y6 _ hz) (λp=>k p.1.1 p.1.2 p.2.1 p.2.2.1 p.2.2.2));obtain⟨⟨R,s1,s2⟩,s0⟩:=hS;have f1:=s1.front [h,g] Z;rw[UE (M:=[.o (vD (s.v l.length) l 0),.box nb cs]) (by grind[aV])] at f1;obtain⟨F,S,q,_⟩:=f1.sep;obtain⟨Fa,Fb,C,_⟩:=Sep.append.1 q;have E:=s2 _ (IA hw);simp only[roF] at E;obtain⟨U,G2,J,i,I,H⟩:=C;have i:(Y3 B nb cs).P w G2:=Sep.one.1 i;obtain⟨b,z,vs,Y,W,V⟩:=i;rw[E] at Y;cases Y;have A:vs.length=2:=by grind[mE]
 have e1:elB (s.v D)=elB (s.v l.length):=bOQ s _ _;have e2:elO (aN.n O) 0 (s.v D)=elO (aN.n O) 0 (s.v l.length):=bOR s _ _ _ _;rw[e1,e2] at V;obtain⟨c2,z1,z2,z3⟩:=bGI hn A (aYH W) (F:=Fa) ⟨U,G2,J,Sep.one.2 V,I,H⟩;have v:(prs (vs++c2)).length=l.length:=by rw[aQH (n:=1) aa,H7,ZC (n:=1) aa,ZC z1];omega
 have y:(prs (vs++c2)).drop 1=prs c2:=by rw[aQH (n:=1) aa];exact List.drop_left' (ZC (n:=1) aa)
 refine⟨⟨(prs (vs++c2),c2),v,y,z2⟩,[],aj,aj,⟨⟨R,?_,λx f=>?_⟩,s0⟩⟩
 .rw[wW,vC,MU];have:=s1.shift [h,g] Z (A':=[fF [s.v (prs (vs++c2)).length] (prs (vs++c2)),cIn c2 (l.drop 1)]) (λF hF=>by
   rw[UE (M:=[.o (vD (s.v l.length) l 0),.box nb cs]) (by grind[aV])] at hF;obtain⟨U,G2,J,i,I,H⟩:=hF;have i:(Y3 B nb cs).P w G2:=Sep.one.1 i;obtain⟨b',z',vs',u,t,r⟩:=i;rw[E] at u;cases u;rw[W] at t;cases t;rw[e1,e2] at r;obtain⟨G,Fe,a1,a2,a3,a4⟩:=z3 F ⟨U,G2,J,Sep.one.2 r,I,H⟩;rw[v];exact⟨G,Fe,a1,Sep.one.2 a2,a3,a4⟩)
  exact this
 .rw[wW];obtain f|f:=dR.1 f
  .obtain f|f:=UD _ _ f
   .grind
   .subst f;trivial
  .simp only[lO,a8I,or_false] at f;obtain rfl|rfl:=f<;>trivial
theorem joR{O:Type}[aN O](hn:aN.n O=2){s:AC}{l:List O}{cs:ar}(i j:Nat)(A:L[i]?=some (ow s us))(z:L[j]?=some (.o (cIn cs l)))(q:us=prs cs)(r:dV [i,j]=true)(hz:([i,j].all λj=>gE j cf.zU)=true)(hl:us.length=l.length)
  (k:G (.mk P T hT n c B0 N X Q) K m e (L5 L [i,j]++[ow s l]) cf):G (.mk P T hT n c B0 N X Q) K m e L cf:=by
 refine chg (λ_:Unit=>m) (λ_=>e) (λ_=>L5 L [i,j]++[ow s l]) (λB a w y C t=>?_) (λ_=>Y6 _ hz) (λ_=>k);obtain⟨⟨R,s1,v⟩,s0⟩:=t;refine⟨(),[],aj,aj,⟨⟨R,?_,λx f=>?_⟩,s0⟩⟩
 .rw[wW,vC,MU];exact s1.shift [i,j] r (A':=[fF [s.v l.length] l]) (λF p=>by
   rw[UE (M:=[ow s us,.o (cIn cs l)]) (by grind[aV])] at p;obtain⟨G1,G2,g,h,u,D⟩:=p;have h:dC w cs l G2:=Sep.one.1 h;have g:aN.own w [s.v us.length] us G1:=g;rw[hl] at g;have:=bGG hn g h q u;exact Sep.one.2 (by
    have e:F=λb o=>G1 b o\/G2 b o:=aj
    rw[e];exact this))
 .rw[wW];obtain f|f:=dR.1 f
  .obtain f|f:=UD _ _ f
   .grind
   .subst f;trivial
  .simp only[lO,a8I,or_false] at f;subst f;trivial
theorem dlW{O:Type}[aN O](hn:aN.n O=2){f:FuncId}{kf:List O->Option β}{q:β}{s:AC}{l:List O}{w:ar}(i j:Nat)
  (A:cpS (jO T n K cf m e L)=some (o,some d,f,[.h s l.length,.i .i64 0,.i .i64 1],cf1,cf2,K',m',e',L')) (D:L'[i]?=some (ow s us)) (C:(L5 L' [i]++[ow s us])[j]?=some (.o (cIn w (l.drop 1)))) (hz:gE i cf1.zU=true) (v:dV [L'.length,j]=true) (a:([L'.length,j].all λj=>gE j cf2.zU)=true)
  (u:us.length=l.length) (E:us.drop 1=prs w) (hl:l.length=(l.drop 1).length+1)
  (H:∀{U:Ctx} {us:List R2},VS P U f (bGH us 0 1) [.h s us.length,.i .i64 0,.i .i64 1] [] [ow s us] (λ(r:List R2) (y:AC)=>.h y r.length) (λr y=>[ow y r]))
  (k:∀y:AC,W (G (.mk P T hT n c B0 N X Q) K' m' ((d,.h y (l.drop 1).length)::e') (L5 (L5 L' [i]++[ow y (us.drop 1)]) [L'.length,j]++[ow y (l.drop 1)]) cf2) q (kf (l.drop 1))):W (G (.mk P T hT n c B0 N X Q) K m e L cf) q ((bTF l 0 1).bind kf):=λF=>by
 have t:(L5 L' [i]).length=L'.length:=by simp[L5]
 have p:∀{x},bTF l 0 1=some x->x=l.drop 1:=λh=>by obtain⟨_,h⟩:=mP h;grind
 refine cw0 (sv:=λ(r:List O) (y:AC)=>.h y r.length) (Lr:=λ_ y=>[ow y (us.drop 1)]) (M:=[ow s us]) (xs0:=[.h s l.length,.i .i64 0,.i .i64 1]) [i] A (by simp[aV,D]) rfl (by grind[N6,dV]) (λ_ _=>rfl) (λ{U} _ {x} R=>?_) F (λx J I y=>?_)
 .have B:bGH us 0 1=some (us.drop 1):=by grind[bLX]
  have h:=H (U:=U) (us:=us) _ B;rw[u] at h;refine⟨h.call,λvs b g=>Calls.mono (h.run vs b g) λen w' S=>?_⟩;grind
 .obtain rfl:=p J;refine joR hn L'.length j aj ?_ E v a (by simp[u]) (k y I);have z:j<L'.length:=by
   have Y:j<(L5 L' [i]++[ow s us]).length:=(DZ.1 C).1;have V:j≠L'.length:=by intro e;subst e;simp[dV,gE] at v
   grind
  grind
end
open Go.Lib Go.Proofs
def zV(w:World)(l q p c:TypeId)(k b o e h:Nat)(a:Addr)(d f m:Nat)(cs:ar)
  (t:P.underlying l=some (.slice c)) (u:(P.info? c).map (·.size)=some k) (r:Nat.min d e=m) (hn:cs.length=m*k)
  (g:∀j v,cs[j]?=some v->w.cell? (a.add j)=some v) (hc:∀j,j<cs.length->(w.cell? ⟨b,o+j,none⟩).isSome=true) (y:∀j,j<cs.length->w.frozen? ⟨b,o+j,none⟩=false) (s:∀v∈cs,v.oneCell'=true) :
  (Builtin.copy_ #[l,q] p #[.slice (some ⟨b,o,none⟩) e h,.slice (some a) d f]).run P w=.ok (goInt m) (w.setCells b o cs):=by
 have hl:=run_loadCells_list (P:=P) w a cs g;have n:=run_storeCells_cells (P:=P) b o cs 0 w aa aa s;subst r;cases x:P.info? c with
 |none=>grind
 |some i=>
  simp_all[Builtin.copy_,run_underlying,Builtin.lenOf,Builtin.firstCells,sizeOf,typeInfo]
def D3(b a m:Nat):∀(vs:ar) (o:Nat) (w:World),a<=o->o+vs.length<=a+m->eT (fB b a m) w (w.setCells b o vs)
 |[],_,w,_,_=>eT.refl _ _
 |v::r,o,w,d,c=>by simp only[H8] at c;rw[World.setCells];exact(eT.setCell _ w ⟨b,o,none⟩ v ⟨rfl,d,aj⟩ rfl).trans (D3 b a m r (o+1) _ aa aa) λ_ _ _ h=>h
def aM6{a:World}(b:Nat)(f:w.heap.size<=b){o:Nat}(h:eT F0 w a):eT F0 w (a.setCells b o vs):=h.trans ((D3 b o vs.length vs o a (jE _) (jE _)).mono (G:=fB b o vs.length) λ_ _ _ h=>h) (F:=F0) λb' e c d=>by obtain⟨rfl,_⟩:=d;omega
def IF{b o:Nat}(h:∀j,j<vs.length->(w.cell? ⟨b,o+j,none⟩).isSome=true):bG (w.setCells b o vs) b o vs:=λj v a=>by grind[World.cell?_setCells_in]
theorem yG{b o o':Nat}{cs:ar}(h:bG w b o' cs)(c:o'+cs.length<=o\/o+vs.length<=o'):bG (w.setCells b o vs) b o' cs:=λj v a=>by have hl:=(DZ.1 a).1;rw[World.cell?_setCells_out b vs o w ⟨b,o'+j,none⟩ (λ_ _=>aj)];exact h j v a
def XS{b o:Nat}{cs ds:ar}(h:bG w b o cs)(k:bG w b (o+cs.length) ds):bG w b o (cs++ds):=λj v a=>by
 by_cases hl:j<cs.length
 .rw[List.getElem?_append_left hl] at a;exact h j v a
 .rw[aXZ aa] at a;have:=k _ v a;grind
theorem a6K{b o n:Nat}{cs:ar}(h:bG w b o cs):bG w b o (cs.take n):=λj v a=>by
 rw[aIJ] at a;split at a
 .exact h j v a
 .cases a
def aI2{b o n o':Nat}(h:Row w b o n)(ho:o<=o'/\o'+vs.length<=o+n):Row (w.setCells b o' vs) b o n:=λq d=>by obtain⟨_,c,a⟩:=d;refine⟨Go.Proofs.isSome_setCells b vs o' w (λj e=>(h (o'+j) ⟨rfl,aa,aa⟩).1) q (h q ⟨rfl,c,a⟩).1,?_⟩;rw[World.frozen?_setCells];exact(h q ⟨rfl,c,a⟩).2
def bV8(w:World)(k n:Nat)(d:Option Addr)(c:Nat)(a:ar)(e:Ending)(w':World):Prop:=
 ∃b o c',e=.returned (.slice (some ⟨b,o,none⟩) (n+1) c')/\n+1<=c'/\c'<=maxLen/\bG w' b o a/\Row w' b o (c'*k) /\
  ((d=some ⟨b,o,none⟩/\c'=c/\eT (fB b o (c*k)) w w')\/(w.heap.size<=b/\eT F0 w w'))
def bV9(P:Program)(f k:Nat):Prop:=∀(b off n c i a:Nat) (cs vs:ar) (w:World),i<n->n+1<=c->c<=9223372036854775807->a≠b->cs.length=n*k->vs.length=k ->
  bG w b off cs->(∀j,j<c*k->(w.cell? ⟨b,off+j,none⟩).isSome=true)->(∀j,j<c*k->w.frozen? ⟨b,off+j,none⟩=false) ->
  bG w a 0 vs->(∀v∈cs,v.oneCell'=true)->(∀v∈vs,v.oneCell'=true) ->
  ∀(l h:TypeId) (g d:Nat),w.shape? a=some (l,g)->w.shape? b=some (h,d)->d≠0->w.frozen? ⟨a,0,none⟩=false->w.frozen? ⟨a,g,none⟩=false ->
  Calls P f #[.slice (some ⟨b,off,none⟩) n c,.int .i64 i,.slice (some ⟨a,0,none⟩) 1 1] w λe w'=>
   e=.returned (.slice (some ⟨b,off,none⟩) (n+1) c)/\w'=(w.drew.setCells b (off+(i+1)*k) (cs.drop (i*k))).setCells b (off+i*k) vs
def bWA(P:Program)(f k:Nat):Prop:=∀(b off n c a:Nat) (vs:ar) (w:World),n+1<=c->c<=9223372036854775807->vs.length=k ->
  (∀j,j<c*k->(w.cell? ⟨b,off+j,none⟩).isSome=true)->(∀j,j<c*k->w.frozen? ⟨b,off+j,none⟩=false)->bG w a 0 vs->(∀v∈vs,v.oneCell'=true) ->
  Calls P f #[.slice (some ⟨b,off,none⟩) n c,.int .i64 n,.slice (some ⟨a,0,none⟩) 1 1] w λe w'=>
   e=.returned (.slice (some ⟨b,off,none⟩) (n+1) c)/\w'=w.setCells b (off+n*k) vs
def bWB(P:Program)(f k el:Nat)(z:Value):Prop:=∀(base:Option Addr) (n c b:Nat) (cs vs:ar) (w:World),n<=c->c<n+1->n+1<=1073741824->cs.length=n*k->vs.length=k->(base=none->n=0) ->
  (∀a,base=some a->∀j v,cs[j]?=some v->w.cell? (a.add j)=some v)->bG w b 0 vs->(∀v∈vs,v.oneCell'=true) ->
  Calls P f #[.slice base n c,.int .i64 n,.slice (some ⟨b,0,none⟩) 1 1] w λe w'=>
   e=.returned (.slice (some ⟨w.heap.size,0,none⟩) (n+1) (grownCap w (n+1) c el)) /\
   w'=w.drew.alloc (.cells ((cs++vs).toArray++Builtin.zeroCells z.cells (grownCap w (n+1) c el-(n+1))) el)
def bWC(P:Program)(f k el:Nat)(z:Value):Prop:=∀(b off n c i a:Nat) (cs vs:ar) (w:World),i<n->n<=c->c<n+1->n+1<=1073741824->cs.length=n*k->vs.length=k ->
  bG w b off cs->bG w a 0 vs->(∀v∈cs,v.oneCell'=true)->(∀v∈vs,v.oneCell'=true) ->
  Calls P f #[.slice (some ⟨b,off,none⟩) n c,.int .i64 i,.slice (some ⟨a,0,none⟩) 1 1] w λe w'=>
   e=.returned (.slice (some ⟨w.heap.size,0,none⟩) (n+1) (grownCap w (n+1) c el)) /\
   w'=(((w.alloc (.cells ((cs.take (i*k)).toArray++Builtin.zeroCells z.cells (n+1-i)++Builtin.zeroCells z.cells (grownCap w (n+1) c el-(n+1))) el)).drew.setCells w.heap.size (i*k) vs).drew).setCells w.heap.size ((i+1)*k) (cs.drop (i*k))
def bTG(P:Program)(f k:Nat):Prop:=∀(d:Option Addr) (n c i a:Nat) (cs vs:ar) (w:World),i<=n->n<=c->c<=maxLen->n+1<=1073741824->cs.length=n*k->vs.length=k ->
  bG w a 0 vs->(∀v∈cs,v.oneCell'=true)->(∀v∈vs,v.oneCell'=true)->(∀o,w.frozen? ⟨a,o,none⟩=false) ->
  ((d=none/\c=0)\/∃b off,d=some ⟨b,off,none⟩/\Row w b off (c*k)/\bG w b off cs/\(0<c->a≠b)) ->
  Calls P f #[.slice d n c,.int .i64 i,.slice (some ⟨a,0,none⟩) 1 1] w (bV8 w k n d c (cs.take (i*k)++vs++cs.drop (i*k)))
def a3G{b o:Nat}(h:(w.cell? ⟨b,o,none⟩).isSome=true):∃t k,w.shape? b=some (t,k)/\k≠0:=by grind[World.cell?,World.shape?]
def a9Q{f k el:Nat}{z:Value}(hk:0<k)(hz:z.cells.size=k)(hS:bV9 P f k)(hR:bWA P f k)(hE:bWB P f k el z)(hG:bWC P f k el z):bTG P f k:=by
 intro ad n c i K cs vs w hi F y Y s l q J A I p;have x:n+1<=grownCap w (n+1) c el:=grownCap_ge _ _ _ _;have H:grownCap w (n+1) c el<=maxLen:=grownCap_le_maxLen w (n+1) c el (by grind[maxLen]);have R:(n+1)*k=n*k+k:=aj
 by_cases U:i=n
 .subst U;have e1:cs.take (i*k)=cs:=aj
  have e2:cs.drop (i*k)=[]:=aj
  rw[e1,e2,wW];by_cases d:i+1<=c
  .obtain⟨_,h0⟩|⟨b,off,rfl,t,hc,_⟩:=p
   .omega
   have V:(i+1)*k<=c*k:=wX _ d;refine(hR b off i c K vs w d y l (λj m=>(t _ ⟨rfl,aa,aa⟩).1) (λj m=>(t _ ⟨rfl,aa,aa⟩).2) q A).mono ?_;rintro e w' ⟨rfl,rfl⟩;refine⟨b,off,c,rfl,d,y,XS (yG hc (.inl aa)) (by rw[s];exact IF λj m=>(t _ ⟨rfl,aa,aa⟩).1),aI2 t ⟨aa,aa⟩,.inl ⟨rfl,rfl,D3 b off _ vs _ w aa aa⟩⟩
  .refine(hE ad i c K cs vs w F aa Y s l (λh=>?_) (λa ha=>?_) q A).mono ?_
   .grind
   .obtain⟨h0,_⟩|⟨b,off,Z,t,hc,_⟩:=p
    .grind
    .rw[ha] at Z;cases Z;intro j v m;rw[Addr.add_lit];exact hc j v m
   rintro e w' ⟨rfl,rfl⟩;have L:((cs++vs).toArray++Builtin.zeroCells z.cells (grownCap w (i+1) c el-(i+1))).size=grownCap w (i+1) c el*k:=by rw[Array.size_append,size_zeroCells,hz,aRB,H7,s,l,Nat.sub_mul,R];have:(i+1)*k<=grownCap w (i+1) c el*k:=wX _ x;omega
   refine⟨w.heap.size,0,_,rfl,x,H,λj v m=>?_,λo ho=>⟨?_,World.frozen?_alloc_at (w:=w.drew) _ _ w.heap.size o rfl⟩,.inr ⟨jE _,(eT.drew F0 w).trans (eT.alloc _ _ _) λ_ _ _ h=>h⟩⟩
   .rw[aIN,World.cell?_alloc_at (w:=w.drew) _ _ w.heap.size j rfl];grind
   .obtain⟨_,_,h3⟩:=ho;rw[World.cell?_alloc_at (w:=w.drew) _ _ w.heap.size o rfl,Array.getElem?_eq_getElem aa];rfl
 .have D:i<n:=aa
  have G:(i+1)*k=i*k+k:=aj
  have X:(i+1)*k<=n*k:=wX _ D;have r:(cs.take (i*k)).length=i*k:=aj
  have hdl:(cs.drop (i*k)).length=n*k-i*k:=aj
  obtain⟨_,h0⟩|⟨b,off,rfl,t,hc,S⟩:=p
  .omega
  have M:=a3G (w:=w) (b:=K) (o:=0) (by rw[show(0:Nat)=0+0 from rfl,q 0 _ (iS aa)];rfl);obtain⟨tA,kA,O,_⟩:=M;by_cases d:n+1<=c
  .have V:(n+1)*k<=c*k:=wX _ d;obtain⟨tB,kB,N,T⟩:=a3G (w:=w) (b:=b) (o:=off) (t off ⟨rfl,aa,aa⟩).1;refine(hS b off n c i K cs vs w D d y (S aa) s l hc (λj m=>(t _ ⟨rfl,aa,aa⟩).1) (λj m=>(t _ ⟨rfl,aa,aa⟩).2) q J A tA tB kA kB O N T (I _) (I _)).mono ?_;rintro e w' ⟨rfl,rfl⟩;have hc':bG w.drew b off cs:=hc;have E:Row w.drew b off (c*k):=t;have u:=aI2 (o':=off+(i+1)*k) (vs:=cs.drop (i*k)) E ⟨aa,aa⟩;refine⟨b,off,c,rfl,d,y,?_,aI2 u ⟨aa,aa⟩,.inl ⟨rfl,rfl,((eT.drew _ w).trans (D3 b off _ _ _ _ aa aa) λ_ _ _ h=>h).trans (D3 b off _ vs _ _ aa aa) λ_ _ _ h=>h⟩⟩;refine XS (XS ?_ ?_) ?_
   .grind[yG,a6K]
   .rw[r];exact IF λj m=>(u _ ⟨rfl,aa,aa⟩).1
   .rw[H7,r,l,<-G];exact yG (IF λj m=>(E _ ⟨rfl,aa,aa⟩).1) (.inr aa)
  .refine(hG b off n c i K cs vs w D F aa Y s l hc q J A).mono ?_;rintro e w' ⟨rfl,rfl⟩;obtain⟨g,C⟩:∃g:bw,g=(cs.take (i*k)).toArray++Builtin.zeroCells z.cells (n+1-i)++Builtin.zeroCells z.cells (grownCap w (n+1) c el-(n+1)):=⟨_,rfl⟩;rw[<-C];have L:g.size=grownCap w (n+1) c el*k:=by rw[C,Array.size_append,Array.size_append,size_zeroCells,size_zeroCells,hz,aRB,r,<-pL,<-pL];grind
   have hgk:(n+1)*k<=grownCap w (n+1) c el*k:=wX _ x;have hcN:∀j,(w.alloc (.cells g el)).cell? ⟨w.heap.size,j,none⟩=g[j]?:=λj=>World.cell?_alloc_at (w:=w) g _ w.heap.size j rfl;have Q:Row (w.alloc (.cells g el)).drew w.heap.size 0 (grownCap w (n+1) c el*k):=λo ho=>by obtain⟨_,_,h3⟩:=ho;simp_all
   have W:bG (w.alloc (.cells g el)).drew w.heap.size 0 (cs.take (i*k)):=λj v m=>by show(w.alloc (.cells g el)).cell? _=_;grind
   have u:=aI2 (o':=i*k) (vs:=vs) Q ⟨aa,aa⟩;have B:Row ((w.alloc (.cells g el)).drew.setCells w.heap.size (i*k) vs).drew w.heap.size 0 (grownCap w (n+1) c el*k):=u;refine⟨w.heap.size,0,_,rfl,x,H,?_,aI2 B ⟨aa,aa⟩,.inr ⟨jE _,aM6 _ (jE _) ((aM6 _ (jE _) ((eT.alloc _ _ _).trans (eT.drew _ _) λ_ _ _ h=>h)).trans (eT.drew _ _) λ_ _ _ h=>h)⟩⟩;refine XS (XS ?_ ?_) ?_
   .exact yG (show bG _ _ _ _ from yG W (.inl aa)) (.inl aa)
   .rw[r,aIN];refine yG (show bG _ _ _ _ from IF λj m=>?_) (.inl aa)
    (simp_all;omega)
   .rw[H7,r,l,<-G,aIN];exact IF λj m=>(B _ ⟨rfl,aa,aa⟩).1
def bQP{O:Type}[aN O](s:AC)(x:O):Chunk where
 P w F:=∃b cs,s=⟨some ⟨b,0,none⟩,1⟩/\b<w.heap.size/\(∀o,w.frozen? ⟨b,o,none⟩=false)/\bG w b 0 cs/\(∀w,aN.own w cs x F0)/\∀b' o,F b' o↔b'=b
 keep:=λ⟨b,cs,g,a,f,e,d,c⟩ hk k=>⟨b,cs,g,LN a hk.size,λo=>(hk.zU b o a).trans (f o),λj v h=>(hk.cell b _ a λi=>k b _ ((c b _).2 rfl) i).trans (e j v h),d,c⟩
 lt:=λ⟨b,cs,g,a,f,e,d,c⟩ l=>aj
def cLs{O:Type}[aN O](s:AC)(v:List O):Chunk where
 P w F:=∃x,v=[x]/\(bQP s x).P w F
 keep:=λ⟨x,d,a⟩ hk b=>⟨x,d,(bQP s x).keep a hk b⟩
 lt:=λ⟨x,_,a⟩ c=>(bQP s x).lt a c
def bTH{O:Type}(l:List O)(i:Int)(v:List O):Option (List O):=need (0<=i/\i<=(l.length:Int)/\l.length+v.length<=1073741824) (some (l.take i.toNat++v++l.drop i.toNat))
def bGJ{O:Type}[aN O]{cs:ar}{x:O}(h:aN.own w cs x F0):dC w cs [x] F0:=⟨cs,[],F0,F0,(wW _).symm,h,⟨rfl,λ_ _ h=>h⟩,λ_ _ h=>h.elim,λ_ _=>by simp[F0]⟩
def aI3{O:Type}[aN O][Flat O]{w w':World}:∀{l:List O} {cs:ar} {F:cW},dC w cs l F->dC w' cs l F0
 |[],cs,F,h=>⟨h.1,λ_ _ h=>h⟩
 |x::r,cs,F,⟨c1,c,i,g,e,b,a,d,f⟩=>⟨c1,c,F0,F0,e,bEB b,aI3 a,λ_ _ h=>h.elim,λ_ _=>by simp[F0]⟩
def a9R{O:Type}[aN O]{w:World}:∀{l:List O} {cs:ar} {F:cW},dC w cs l F->∀v∈cs,v.oneCell'=true
 |[],cs,F,h,v,a=>by rw[h.1] at a;cases a
 |x::r,cs,F,⟨c1,g,j,i,e,c,b,d,f⟩,v,a=>by rw[e] at a;exact(dR.1 a).elim (aN.rd_one (aN.own_rd c) v) (a9R b v)
def bTI{f:FuncId}{O:Type}[aN O][Flat O]{k:Nat}(hn:aN.n O=k)(hk:0<k)(hC:bTG P f k)(n:∀args w,(callFunc f args).run P w=.ok (.enter f args) w){s v:List O}{i:Int}{H s2:AC} :
  VS P U f (bTH s i v) [.h H s.length,.i .i64 i,.h s2 v.length] [] [ow H s,.o (cLs s2 v)] (λr (y:AC)=>.h y r.length) (λr y=>[ow y r]):=λr l=>by
 unfold bTH at l;obtain⟨⟨hi0,hi1,hb⟩,l⟩:=mP l;obtain⟨j,rfl⟩:∃j:Nat,i=j:=⟨i.toNat,aa⟩;rw[H3] at l;cases l;refine⟨n,λvs hv hS=>?_⟩;simp[aV,fS,gV,bT] at hv;subst hv;obtain⟨⟨R,h1,h2⟩,h0⟩:=hS;have h1:St U U.w0 [fF [H.v s.length] s,cLs s2 v] R:=by grind[l5]
 obtain⟨F,S,⟨F1,F2,q,⟨F3,F4,T,_,_,D⟩,Z,_⟩,_⟩:=h1.sep;obtain⟨x,rfl,z,cv,rfl,hvb,K,L,p,M⟩:=T;have q:aN.own U.w0 [H.v s.length] s F1:=q;obtain⟨a,c,he,X,W,m⟩:=nS.1 q;obtain⟨sa,G⟩:=H;simp only[AC.v,Value.slice.injEq,true_and] at he;obtain⟨rfl,rfl⟩:=he;have J:cv.length=k:=by rw[<-hn];exact aN.mD (aN.own_rd (p U.w0))
 have N:∀v∈cv,v.oneCell'=true:=aN.rd_one (aN.own_rd (p U.w0));obtain⟨cs,hcl,hc1,A,C⟩:∃cs,cs.length=s.length*k/\(∀v∈cs,v.oneCell'=true)/\((sa=none/\G=0)\/∃b off,sa=some ⟨b,off,none⟩/\Row U.w0 b off (G*k)/\bG U.w0 b off cs/\(0<G->z≠b))/\∀w,dC w cs s F0:=by
  obtain⟨rfl,rfl,_⟩|⟨b,off,cc,Fe,rfl,l,hc,ho,_,I⟩:=m
  .have Q:s=[]:=vB aa;subst Q;exact⟨[],ae,ae,.inl ⟨rfl,rfl⟩,λ_=>⟨rfl,λ_ _ h=>h⟩⟩
  .rw[hn] at l I;refine⟨cc,by rw[<-hn];exact ho.length,a9R ho,.inr ⟨b,off,rfl,l,hc,λh0 e=>?_⟩,λ_=>aI3 ho⟩;subst e;have hk:0<G*k:=Nat.mul_pos h0 hk;exact Z z off ((I z off).2 (.inl ⟨rfl,jE _,aa⟩)) ((D z off).2 (.inl ((M z off).2 rfl)))
 refine(hC sa s.length G j z cs cv U.w0 aa X W hb hcl J L hc1 N K A).mono ?_;rintro e w' ⟨b,o,c',rfl,hlc,hcm,hcc,hrw,Y⟩;have hlen:(s.take j++[x]++s.drop j).length=s.length+1:=aj
 refine⟨_,rfl,⟨some ⟨b,o,none⟩,c'⟩,by grind[fS,gV,bT],⟨R,?_,by simp[roF]⟩,h0⟩;have hcs:∀w,dC w (cs.take (j*k)++cv++cs.drop (j*k)) (s.take j++[x]++s.drop j) F0:=λw=>by
  have h:=C w;rw[<-aGA j s] at h;obtain⟨c1,c2,G1,G2,e,k1,k2,_,_⟩:=dC.split h;have hl:c1.length=j*k:=by rw[k1.length,hn,aF6];grind
  rw[e,List.take_left' hl,List.drop_left' hl,qM,qM];exact dC.app (aI3 k1) (show dC w (cv++c2) ([x]++s.drop j) F0 from dC.app (bGJ (p w)) (aI3 k2) (λ_ _ h=>h.elim) λ_ _=>by simp[F0]) (λ_ _ h=>h.elim) λ_ _=>by simp[F0]
 have:=h1.bEF (w':=w') [0,1] rfl (A':=[fF [(⟨some ⟨b,o,none⟩,c'⟩:AC).v (s.take j++[x]++s.drop j).length] (s.take j++[x]++s.drop j)]) (λF I=>by
  obtain⟨F1',F2',q1,q2,q3,q4⟩:=I;have q1:aN.own U.w0 [_] s F1':=q1;have d:aN.own w' [(⟨some ⟨b,o,none⟩,c'⟩:AC).v (s.take j++[x]++s.drop j).length] (s.take j++[x]++s.drop j) (fB b o (c'*k)):=
   nS.2 ⟨_,c',rfl,aa,hcm,.inr ⟨b,o,_,F0,rfl,aj,hcc,hcs w',λ_ _ h=>h.elim,λb' u=>by grind[F0]⟩⟩
  obtain⟨rfl,rfl,hK⟩|⟨B,hK⟩:=Y
  .obtain⟨a',c'',E,_,_,V⟩:=nS.1 q1;simp only[AC.v,Value.slice.injEq,true_and] at E;obtain⟨rfl,rfl⟩:=E;obtain⟨h,_⟩|⟨b2,o2,cc2,Fe2,h,_,_,_,_,t⟩:=V
   .cases h
   .cases h;rw[hn] at t;exact⟨_,_,hK,λb' u g=>(q4 b' u).2 (.inl ((t b' u).2 (.inl g))),Sep.one.2 d,λb' u g=>.inl ((q4 b' u).2 (.inl ((t b' u).2 (.inl g))))⟩
  .exact⟨_,F0,hK,λ_ _ h=>h.elim,Sep.one.2 d,λb' u g=>.inr (by obtain⟨rfl,_⟩:=g;exact B)⟩)
 exact this.sel [2] rfl
section
variable {P:Program} {T:TT} {hT:IC P T} {n:Nat} {c:Ctx} {B0:Bl} {N:Act->World->Prop} {X:Nat->Act->World->Prop} {Q:Act->World->Prop} {K K':bg} {m m':Nat} {e e':SE} {L L' Lv:ao} {cf cf' cf1 cf2:wV} {o:Oper} {d:Nat}
variable {x:Operand} {t t2 el sz:Nat} {b1 b2 b3:Bool} {n1 n2 n3:Nat} {z1 z2 z3:au}
theorem ltL{O:Type}[aN O][Flat O](E:CO O)(y:E.ex)(q:O){I:Value}(f:Inf P el sz I)(Y:jO T n K cf m e L=.op o Lv cf1 cf2 K' m' e' L')(ho:(o.op,o.dst)=(.buildSlice t 1 #[(0,x)],some d))(W:zS T t=some ⟨.sl el,b1,n1,z1⟩)(hn:aN.n O=sz)(hm:Nat.ble 1 sz=true)(M:Nat.ble (1*sz) 16777216=true)(C:aV (λp=>(jA e' p.2).map λv=>nbL (pN v)) [((0:Nat),x)]=some ([q].map λq=>E.cs q y))(D:([q].all λq=>Nat.beq (E.cs q y).length sz && (aV (bT []) (E.cs q y)).isSome)=true)(hL:∀q,E.Lx q y=[])
  (k:∀s':AC,G (.mk P T hT n c B0 N X Q) K' m' ((d,.h s' [q].length)::e') (L'++[.o (cLs s' [q])]) cf2):G (.mk P T hT n c B0 N X Q) K m e L cf:=by
 refine aZ8 (l:=[q]) (λs'=>L'++[.o (cLs s' [q])]) Y (cS Prod.snd ho) (λ_=>vO _) (λB a w hA hS=>?_) k;obtain⟨⟨R,s1,s2⟩,s0⟩:=hS;obtain⟨vs,cells,g1,g2,g3,g4,g5⟩:=lits E y (sz:=sz) hA hL C D;obtain⟨v,rfl⟩:∃v,vs=[v]:=by
  match vs,g2 with
  |[v],_=>simp
 obtain⟨ti,Z,hz,r,U⟩:=f;obtain⟨h1,h2⟩:=g5.get hn;have S:cells.length=sz:=aj
 have hc:=aRI (len:=1) (m:=sz) (vs:=[v]) (ps:=[(0,x)]) (F:=λi=>(if 1*sz=0 then #[] else I.cells)[i % (if 1*sz=0 then #[] else I.cells).size]!) rfl rfl g3 g4;have V:=ID W hT;have A:¬1*sz=0:=by(simp_all;omega)
 have J:¬1*sz > 2 ^ 24:=by simp_all
 refine⟨⟨some ⟨w.heap.size,0,none⟩,1⟩,w.alloc (.cells cells.toArray el),λ_ a H=>?_,⟨R,?_,λz hz=>?_⟩,s0⟩
 .have u:a.eval x=v:=by have:=Y0 H g1;grind
  have g:=cS Prod.fst ho;simp only at g;simp only[A,bN] at hc;have h:¬sz=0:=aa
  have s:¬sz > 16777216:=aa
  simp only[Nat.one_mul,h,bN] at hc;simp[execOp,g,Instr.buildSlice,run_underlying V,sizeOf,typeInfo,zeroValue,Z,hz,r,u,h,s,AC.v];simp_all[newRow]
 .have:=s1.more (eT.alloc F0 w (.cells cells.toArray el)) (ch:=cLs ⟨some ⟨w.heap.size,0,none⟩,1⟩ [q]) ⟨λb _=>b=w.heap.size,⟨q,rfl,w.heap.size,cells,rfl,ae,λo=>World.frozen?_alloc_at (w:=w) _ _ w.heap.size o rfl,λj v hj=>?_,λw'=>?_,λ_ _=>Iff.rfl⟩,λb o hb=>aAT hb.symm⟩
  .grind[l5]
  .simp_all
  .have:=h2 0 q rfl;rw[show O3 cells sz 0=cells by unfold O3;grind] at this;grind[Flat.own_of]
 .obtain hz|hz:=dR.1 hz
  .grind
  .simp at hz;subst hz;trivial
end
end Go.Gv
end
noncomputable section
namespace Go.Gv
variable{s:AC}{c:Ctx}{i z:Nat}{A w:World}
def a3H(k:Nat):av->Bool
 |[]=>false
 |a::r=>match Nat.beq k a with
  |true=>true
  |false=>a3H k r
def aLI(is:av):Nat->ao->ao
 |_,[]=>[]
 |k,x::r=>match a3H k is with
  |true=>.no::aLI is (k+1) r
  |false=>x::aLI is (k+1) r
def a3I:∀(L:ao) (k:Nat),aLI [] k L=L
 |[],_=>rfl
 |x::L,k=>by simp only[aLI,a3H,a3I L]
def a9S{k:Nat}(r:av)(h:k≠i):a3H k (i::r)=a3H k r:=by grind[qN,a3H]
theorem bLY(i:Nat)(r:av):a3H i (i::r)=true:=by simp only[a3H,Nat.beq_refl]
theorem a9T(i:Nat)(r:av):∀(L:ao) (k:Nat),i<k->aLI (i::r) k L=aLI r k L
 |[],_,_=>rfl
 |x::L,k,h=>by simp only[aLI,a9S r (show k≠i by omega),a9T i r L (k+1) aa]
def a3J(i:Nat)(r:av):∀(L:ao) (k:Nat),k<=i->aLI (i::r) k L=aLI r k (L.set (i-k) .no)
 |[],_,_=>rfl
 |x::L,k,h=>by
  by_cases e:k=i
  .subst e;rw[Nat.sub_self];grind[aLI,bLY,a9T]
  .obtain⟨d,a⟩:∃d,i-k=d+1:=⟨i-k-1,aa⟩;have b:i-(k+1)=d:=aa
   rw[a];simp only[List.set,aLI,a9S r e,a3J i r L (k+1) aa,b]
theorem bGK:∀(is:av) (L:ao),L5 L is=aLI is 0 L
 |[],L=>(a3I L 0).symm
 |i::r,L=>by rw[a3J i r L 0 (iT _),Nat.sub_zero];exact bGK r _
section
variable {P:Program} {T:TT} {hT:IC P T} {n:Nat} {c:Ctx} {B0:Bl} {N:Act->World->Prop} {X:Nat->Act->World->Prop} {Q:Act->World->Prop} {K K':bg} {m m':Nat} {e e':SE} {L L' Lv:ao} {cf cf' cf1 cf2:wV} {o:Oper}
variable {O β ex:Type} {fo:Option O} {kf:O->Option β} {q:β} {d:cq} {f:FuncId} {xs xs0:au} {M:ao} {sv:O->ex->SV} {Lr:O->ex->ao}
theorem bTJ{c1 B c3:au}{A z w:O->ex->au}(g s p v:Nat)(b r l u:Nat)(a n3 h t:Nat)(is:av)
  (D:cpS (jO T n K cf m e L)=some (o,d,f,xs,cf1,cf2,K',m',e',L')) (F:aRV L' [(g,s,p,v),(b,r,l,u),(a,n3,h,t)]=some [c1,B,c3]) (E:aV (λi=>L'[i]?) is=some M) (C:aV (rnP [(g,s,p,v),(b,r,l,u),(a,n3,h,t)] 0) xs=some xs0)
  (hk:(N6 M && ([c1,B,c3].all (BZ.okC 0) && (dV (g::b::a::is) && (g::b::a::is).all λj=>gE j cf1.zU)))=true)
  (hc:∀{U:Ctx},HG c U L' (g::b::a::is)->∀{b1 H b3:Nat×Nat},VS P U f fo xs0 [b1,H,b3] (.box 0 c1::.box 1 B::.box 2 c3::M) sv (λx y=>.box 0 (A x y)::.box 1 (z x y)::.box 2 (w x y)::Lr x y))
  (k:∀x,∀y:ex,W (G (.mk P T hT n c B0 N X Q) K' m' (dse d (sv x y) e') (TX L' (aLI (g::b::a::is) 0 L'++Lr x y) [(g,s,p,v),(b,r,l,u),(a,n3,h,t)] [A x y,z x y,w x y]) cf2) q (kf x)) (hn:∀x y,(aI0 [(g,s,p,v),(b,r,l,u),(a,n3,h,t)] [A x y,z x y,w x y] && ([A x y,z x y,w x y].all (BZ.okC 0) && (N6 (Lr x y) && BZ 0 (sv x y))))=true:=by exact λ_ _=>rfl):W (G (.mk P T hT n c B0 N X Q) K m e L cf) q (fo.bind kf):=bV4 g s p v b r l u a n3 h t is D F E C hk hc (λx y=>by grind[bGK]) hn
end
section
variable {P:Program} {T:TT} {hT:IC P T} {n:Nat} {c:Ctx} {B0:Bl} {N:Act->World->Prop} {X:Nat->Act->World->Prop} {Q:Act->World->Prop} {K K':bg} {m m':Nat} {e e':SE} {L L' Lv:ao} {cf cf' cf1 cf2:wV} {o:Oper}
variable {O:Type} {fo:Option O} {d:Nat} {f:FuncId} {xs:au} {v:O}
theorem IG{sv:O->SV}(b:fo=some v)(a:jO T n K cf m e L=.call o (some d) f xs cf1 cf2 K' m' e' L')
  (hc:∀{w},HS c w L'->V0 P (eF w) f fo xs sv) (k:G (.mk P T hT n c B0 N X Q) K' m' ((d,sv v)::e') L' cf2):G (.mk P T hT n c B0 N X Q) K m e L cf:=c0 (kf:=some) (q:=v) a hc (λx g=>aj) (rb b)
theorem R5{ex:Type}{sv:O->ex->SV}{Lf:O->ex->ao}(b:fo=some v)(a:jO T n K cf m e L=.call o (some d) f xs cf1 cf2 K' m' e' L')
  (hc:∀{w},HS c w L'->VS P (eF w) f fo xs [] [] sv Lf) (k:∀y:ex,G (.mk P T hT n c B0 N X Q) K' m' ((d,sv v y)::e') (L'++Lf v y) cf2) (hn:∀x y,noF (Lf x y)=true:=by exact λ_ _=>rfl):G (.mk P T hT n c B0 N X Q) K m e L cf:=c1 (kf:=some) (q:=v) a hc (λx y g=>aj) hn (rb b)
end
def oL{O:Type}[aN O]:CO (List O):=cL.o (λx y=>[ow y x]) (λh=>by cases h;exact L4) (λ_ _=>rfl) (λ_ _ _=>rfl)
structure AH where
 s:AC
 n:Nat
instance:aN AH:=aN.flat (λx=>x.s.v x.n) λ_=>rfl
instance:Flat AH:=⟨λh=>⟨h,λ_ _ h=>h⟩,λh=>h.2⟩
def cAH:GM AH:=⟨Unit,λx _=>[.h x.s x.n],λ_ _ _ _=>True,λh=>⟨(),by cases h;rfl,trivial⟩,λx _=>.h x.s x.n,λ_ _ _=>trivial⟩
def oAH:CO AH:=cAH.o (λ_ _=>[]) (λh=>by cases h;exact eO rfl) (λ_ _=>rfl) (λ_ _ _=>rfl)
def cBr(U:Ctx){O:Type}[aN O](s:AC)(d:List O):Chunk where
 P w F:=(∀b o,F b o->b<w.heap.size)/\∀w',(∀b o,F b o->w'.cell? ⟨b,o,none⟩=w.cell? ⟨b,o,none⟩)->(∀b o,U.S0 b o->w'.cell? ⟨b,o,none⟩=U.w0.cell? ⟨b,o,none⟩)->aN.rd (λb o=>U.S0 b o\/F b o) w' [s.v d.length] d
 keep:=by rintro w w' F G ⟨a,g⟩ hk f;exact⟨λb o hF=>LN (a b o hF) hk.size,λc j i=>g c (λb o hF=>(j b o hF).trans (hk.cell b o (a b o hF) λe=>f b o hF e)) i⟩
 lt h hF:=h.1 _ _ hF
def AHs(c:Ctx){O:Type}[aN O]:List AH->List (List O)->Prop
 |[],[]=>True
 |q::a,d::b=>(q.n=d.length/\aU c q.s d)/\AHs c a b
 |_,_=>False
def AHs.get{O:Type}[aN O]:∀{qs:List AH} {ds:List (List O)},AHs c qs ds->qs.length=ds.length/\∀(i:Nat) (f:i<qs.length) (e:i<ds.length),qs[i].n=ds[i].length/\aU c qs[i].s ds[i]
 |[],[],_=>⟨rfl,λi h=>by simp at h⟩
 |q::qs,d::ds,h=>by
  obtain⟨a,b⟩:=h.2.get;refine⟨by simp[a],λi f e=>?_⟩;cases i with
  |zero=>exact h.1
  |succ i=>grind
def bTK{U:Ctx}{O:Type}[aN O]{qs:List AH}{ds:List (List O)}{F:cW}(h:(fF [s.v qs.length] qs).P w F)(n:AHs U qs ds):(cBr U s ds).P w F:=by
 refine⟨λ_ _ p=>(fF [s.v qs.length] qs).lt h p,λw' r q=>?_⟩;obtain⟨hl,m⟩:=n.get;obtain⟨v,c,e,u,t,a⟩:=(show sN F w' [s.v qs.length] qs from aN.rd_agree (aN.own_rd h) r);refine⟨v,c,aj,hl ▸ u,t,?_⟩;obtain a|⟨b,off,rfl,a⟩:=a
 .grind
 .refine .inr ⟨b,off,rfl,λi l=>?_⟩;obtain⟨ec,g,f,d⟩:=a i aa;obtain⟨k,j⟩:=m i aa l;have d:ec=[(qs[i]' aa).s.v (qs[i]' aa).n]:=d;refine⟨ec,g,λo ho=>.inr (f o ho),?_⟩;rw[d,k];exact aN.rd_mono (aN.rd_agree j q) λ_ _ h=>.inl h
def HS.b{L:ao}{O:Type}[aN O]{d:List O}(h:HS c w L)(i:Nat)(j:L[i]?=some (.o (cBr c s d))):aU (eF w) s d:=by obtain⟨B,e⟩:=h.ex;obtain⟨⟨R,s1,_⟩,s0⟩:=id e;obtain⟨F,f⟩:=s1.chunk i (ch:=cBr c s d) (by rw[D0,j];rfl);have:=f.2 w (λ_ _ _=>rfl) (λb o a=>s1.keep.cell b o (s0 b o a) λg=>s1.apart b o g a);exact aN.rd_mono this λb o h=>h.elim (a6B e b o) (f.1 b o)
section
variable {P:Program} {T:TT} {hT:IC P T} {n:Nat} {c:Ctx} {B0:Bl} {N:Act->World->Prop} {X:Nat->Act->World->Prop} {Q:Act->World->Prop} {K K':bg} {m m':Nat} {e e':SE} {L L':ao} {cf cf' cf1 cf2:wV} {o:Oper}
theorem chI(j:Nat){x y:Chunk}(b:XL (jO T n K cf m e L)=some (K',cf',m',e',L'))(d:L'[j]?=some (.o x))(hz:gE j cf'.zU=true)(h:∀w F,x.P w F->y.P w F)
  (k:G (.mk P T hT n c B0 N X Q) K' m' e' (L'.set j (.o y)) cf'):G (.mk P T hT n c B0 N X Q) K m e L cf:=by
 refine go b (chg (λ_:Unit=>m') (λ_=>e') (λ_=>L'.set j (.o y)) (λB a w l p f=>?_) (λ_=>IE hz) (λ_=>k));obtain⟨⟨R,s1,i⟩,s0⟩:=f;refine⟨(),[],aj,aj,⟨⟨R,?_,λz hz=>?_⟩,s0⟩⟩
 .rw[wW,PX];exact s1.imp (kC.put j (by rw[D0,d];rfl) λF g=>h w F g)
 .rw[wW];obtain hz|hz:=tD hz
  .grind
  .subst hz;trivial
theorem brL{O:Type}[aN O](j:Nat){qs:List AH}{ds:List (List O)}(d:AHs c qs ds)(a:XL (jO T n K cf m e L)=some (K',cf',m',e',L'))(b:L'[j]?=some (ow s qs))(hz:gE j cf'.zU=true)
  (k:G (.mk P T hT n c B0 N X Q) K' m' e' (L'.set j (.o (cBr c s ds))) cf'):G (.mk P T hT n c B0 N X Q) K m e L cf:=chI j a b hz (λ_ _ h=>bTK h d) k
end
section
variable {P:Program} {T:TT} {hT:IC P T} {n:Nat} {c c':Ctx} {B0:Bl} {N N':Act->World->Prop} {X:Nat->Act->World->Prop} {Q Q':Act->World->Prop} {K K':bg} {m m':Nat} {e e':SE} {L L':ao} {cf:wV}
theorem a0E(d:∀a w,N' a w->N a w)(b:∀a w,Q' a w->Q a w):∀K:bg,(∀a w,NK (.mk P T hT n c' B0 N' X Q') K a w->NK (.mk P T hT n c B0 N X Q) K a w)/\∀i a w,XK (.mk P T hT n c' B0 N' X Q') K i a w->XK (.mk P T hT n c B0 N X Q) K i a w
 |[]=>⟨d,λ_ _ _ h=>h⟩
 |.s y::K=>by obtain⟨g,f⟩:=a0E d b K;exact⟨λa w h=>CW.mono h g f b,f⟩
 |.k j::K=>by obtain⟨g,f⟩:=a0E d b K;refine⟨g,λi a w h=>?_⟩;simp only[XK,aX4] at h ⊢;grind
theorem lkC{O β ρ ex γ:Type}[aN O][aN β]{t:Func}{Z:List ResultVar}{u:t.results=Z.toArray}{sv:ρ->ex->SV}{Lf:ρ->ex->ao}{r:ρ}{q:γ}{zz:Option γ}{x:Code}(j:Nat){us:List O}{d:List β}
  (hx:∀S w,(∀b o,c.S0 b o->S b o)->(∀b o,c.S0 b o->w.cell? ⟨b,o,none⟩=c.w0.cell? ⟨b,o,none⟩)->aN.rd S w [s.v us.length] us->aN.rd S w [s.v d.length] d)
  (hs:XL (jO T n K cf m e L)=some (K',.c x,m',e',L')) (hj:L'[j]?=some (ow s us))
  (k:∀{c':Ctx},(∀{O:Type} [aN O] {s:AC} {d:List O},aU c s d->aU c' s d)->aU c' s d->W (G (.mk P T hT n c' B0 (QR P t u c' B0 sv Lf r) (λ_ _ _=>False) (QR P t u c' B0 sv Lf r)) K' m' e' (L'.set j .no) (.c x)) q zz)
  (hn:∀r y,noF (Lf r y)=true:=by exact λ_ _=>rfl):W (G (.mk P T hT n c B0 (QR P t u c B0 sv Lf r) (λ_ _ _=>False) (QR P t u c B0 sv Lf r)) K m e L cf) q zz:=λhF=>by
 refine go hs λa w ⟨B,hm,hA,hS⟩=>?_;obtain⟨⟨R,s1,s2⟩,s0⟩:=id hS;obtain⟨F,S,a1,Y,a3,a4,V,a6⟩:=s1.sep;obtain⟨Fj,Fr,b1,b2,b3,U⟩:=(Sep.take (c:=fF [s.v us.length] us) (i:=j) (by rw[D0,hj];rfl)).1 a1;have J:∀b o,F b o->¬c.S0 b o:=λb o M h0=>(a3 b o M).elim (λh=>s1.apart b o h h0) λh=>aj
 let g:Ctx:=⟨w,Fr,λb o=>c.S0 b o\/Fj b o\/S b o⟩
 have I:∀b o,g.S0 b o->b<w.heap.size:=λb o h=>h.elim (λh=>LN (s0 b o h) s1.keep.size) λh=>h.elim (λh=>(fF [s.v us.length] us).lt b1 h) (V b o);have A:∀b o,c.S0 b o->w.cell? ⟨b,o,none⟩=c.w0.cell? ⟨b,o,none⟩:=λb o h=>s1.keep.cell b o (s0 b o h) λhw=>s1.apart b o hw h;have ap:g.W.IB g.S0:=λb o p C=>C.elim (λh=>J b o ((U b o).2 (.inr p)) h) λh=>h.elim (λh=>b3 b o h p) λh=>Y b o ((U b o).2 (.inr p)) h;have D:lS g w (B0++B) (L'.set j .no):=by
  refine⟨⟨R,⟨eT.refl _ _,⟨Fr,S,?_,λb o p C=>Y b o ((U b o).2 (.inr p)) C,λb o h=>.inl h,λb o h=>.inl (.inr (.inr h)),V,a6⟩,ap⟩,λz hz=>?_⟩,I⟩
  .rw[PX];exact b2
  .obtain hz|hz:=tD hz
   .grind
   .subst hz;trivial
 have H:∀{O:Type} [aN O] {s:AC} {d:List O},aU c s d->aU g s d:=λh=>aN.rd_mono (aN.rd_agree h A) λ_ _ h=>.inl h;have E:aU g s d:=hx _ _ (λ_ _ h=>.inl h) A (aN.rd_mono (aN.own_rd b1) λ_ _ h=>.inr (.inl h));have l:∀a w,QR P t u g B0 sv Lf r a w->QR P t u c B0 sv Lf r a w:=λa w2 ⟨hd,v,hv,y,p,C⟩=>by
  obtain⟨⟨R2,t1,_⟩,_⟩:=C;obtain⟨F2,S2,e1,e2,e3,e4,e5,e6⟩:=t1.sep;refine⟨hd,v,hv,y,p,⟨⟨[],⟨s1.keep.trans t1.keep λb o hb h=>?_,⟨F2,F0,e1,λ_ _ _ h=>h,λb o h=>?_,λ_ _ h=>h.elim,λ_ _ h=>h.elim,λf M=>by cases M⟩,s1.apart⟩,aRU (hn r y)⟩,s0⟩⟩
  .grind
  .obtain h|h:=e3 b o h
   .grind
   .exact .inr (oB s1.keep.size h)
 obtain⟨m1,m2⟩:=a0E (P:=P) (T:=T) (hT:=hT) (n:=n) (c:=c) (c':=g) (B0:=B0) (X:=λ_ _ _=>False) l l K';exact CW.mono (k H E hF a w ⟨B,hm,hA,D⟩) m1 m2 l
end
def bQR{O:Type}[aN O](k:aN.n O=1){us:cg}{d:List O}(a:aCI c.S0 c.w0 us d):∀S w,(∀b o,c.S0 b o->S b o)->(∀b o,c.S0 b o->w.cell? ⟨b,o,none⟩=c.w0.cell? ⟨b,o,none⟩)->aN.rd S w [s.v us.length] us->aN.rd S w [s.v d.length] d:=λS w j g h=>by rw[<-a.1];exact bEQ k h ⟨a.1,λi u x f e=>aN.rd_mono (aN.rd_agree (a.2 i u x f e) g) j⟩
section
variable {P:Program} {T:TT} {hT:IC P T} {n:Nat} {c:Ctx} {B0:Bl} {N:Act->World->Prop} {X:Nat->Act->World->Prop} {Q:Act->World->Prop} {K K':bg} {m m':Nat} {e e':SE} {L L' Lv:ao} {cf cf1 cf2:wV} {o:Oper} {d:Nat}
variable {x y z:Operand} {t t2 el sz:Nat} {zv:Value} {b1 b2:Bool} {n1 n2:Nat} {z1 z2:au} {kt:TK} {k2:IntKind}
theorem qcn(g:opS (jO T n K cf m e L)=some (o,Lv,cf1,cf2,K',m',e',L'))(ho:(o.op,o.dst)=(.call {callee:=.builtin .cap,args:=#[x],argTypes:=#[t]},some d))(b:jA e' x=some (.h ⟨none,0⟩ 0))(f:zS T t=some ⟨.sl el,b1,n1,z1⟩)
  (kk:G (.mk P T hT n c B0 N X Q) K' m' ((d,.i .i64 0)::e') L' cf2):G (.mk P T hT n c B0 N X Q) K m e L cf:=
 pu g (cS Prod.snd ho) (λB a w h _=>by
  obtain⟨v,j,i⟩:=eV h b;cases j;exact⟨.int .i64 0,rfl,bBN (ID f hT) (cS Prod.fst ho) i⟩) kk
theorem qn0(h:opS (jO T n K cf m e L)=some (o,Lv,cf1,cf2,K',m',e',L'))(ho:(o.op,o.dst)=(.slice t x none (some z) none,some d))(f:jA e' x=some (.h ⟨none,0⟩ 0))(hz:(jA e' z).bind tF=some (k2,0))(g:zS T t=some ⟨.sl el,b1,n1,z1⟩)(i:zS T el=some ⟨kt,b2,sz,z2⟩)
  (kk:G (.mk P T hT n c B0 N X Q) K' m' ((d,.h ⟨none,0⟩ 0)::e') L' cf2):G (.mk P T hT n c B0 N X Q) K m e L cf:=
 pu h (cS Prod.snd ho) (λB a w b _=>by
  obtain⟨v,k,j⟩:=eV b f;cases k;exact⟨.slice none 0 0,rfl,a8Q (n:=sz) ⟨_,_,_,rfl⟩ (ID g hT) (hT.size _ _ i) (cS Prod.fst ho) j (zQ b hz)⟩) kk
theorem apZ{i:Int}(C:1<=i/\i<=1073741824)(b:Inf P el sz zv)(s:jO T n K cf m e L=.op o Lv cf1 cf2 K' m' e' L')(ho:(o.op,o.dst)=(.call {callee:=.builtin .append,args:=#[x,y],argTypes:=#[t,t2]},some d))(r:zS T t=some ⟨.sl el,b1,n1,z1⟩)(g:zS T t2=some ⟨.i k2,b2,n2,z2⟩)(f:zv.cells.size=sz)(A:Nat.ble 1 sz=true)(q:jA e' x=some (.h ⟨none,0⟩ 0))(p:(jA e' y).bind tF=some (.i64,i))
  (k:∀s':AC,G (.mk P T hT n c B0 N X Q) K' m' ((d,.h s' (List.replicate i.toNat (0:Int)).length)::e') (L'++[.o (bER (s'.v (List.replicate i.toNat (0:Int)).length) sz)]) cf2):G (.mk P T hT n c B0 N X Q) K m e L cf:=by
 refine aZ8 (l:=List.replicate i.toNat (0:Int)) (λs'=>L'++[.o (bER (s'.v (List.replicate i.toNat (0:Int)).length) sz)]) s (cS Prod.snd ho) (λ_=>vO _) (λB a w h D=>?_) k;obtain⟨⟨R,j,O⟩,s0⟩:=D;obtain⟨v,F,E⟩:=eV h q;cases F;obtain⟨u,I,H⟩:=hT.und _ _ g;subst H;obtain⟨v,w',S,k2,M,J,rfl⟩:=bKY (e:=vE B e') (o:=o) j (ID r hT) I b f A C (cS Prod.fst ho) E (zQ h p);refine⟨⟨M,J⟩,w',aj,⟨⟨R,by grind[l5],λz hz=>?_⟩,s0⟩⟩;obtain hz|hz:=dR.1 hz
 .grind
 .simp at hz;subst hz;trivial
theorem rn0(O:Type)[aN O](j:Nat){kk:Nat}(hn:aN.n O=sz)(i:jO T n K cf m e L=.op o Lv cf1 cf2 K' m' e' L')(ho:(o.op,o.dst)=(.slice t x none (some z) none,some d))(g:jA e' x=some (.h s kk))(hz:(jA e' z).bind tF=some (k2,0))(h:zS T t=some ⟨.sl el,b1,n1,z1⟩)(q:zS T el=some ⟨kt,b2,sz,z2⟩)(p:L'[j]?=some (.o (bER (s.v kk) sz)))(b:gE j cf1.zU=true)
  (k:∀s':AC,G (.mk P T hT n c B0 N X Q) K' m' ((d,.h s' ([]:List O).length)::e') (L'.set j (ow s' ([]:List O))) cf2):G (.mk P T hT n c B0 N X Q) K m e L cf:=by
 refine aZ8 (l:=([]:List O)) (λs'=>L'.set j (ow s' ([]:List O))) i (cS Prod.snd ho) (λ_=>IE b) (λB a w f r=>?_) k;obtain⟨⟨R,s1,C⟩,s0⟩:=r;obtain⟨v,A,u⟩:=eV f g;cases A;have k2:=s1.bP0 (O:=O) j (by rw[D0,p];rfl) hn;refine⟨s.sub sz 0,w,a8Q (n:=sz) ⟨_,_,_,rfl⟩ (ID h hT) (hT.size _ _ q) (cS Prod.fst ho) u (zQ f hz),⟨⟨R,?_,λz hz=>?_⟩,s0⟩⟩
 .rw[PX];exact k2
 .obtain hz|hz:=tD hz
  .grind
  .subst hz;trivial
end
def ah2{O:Type}[aN O]{b a:AH}{e d:List O}(g:b.n=e.length/\aU c b.s e)(f:a.n=d.length/\aU c a.s d):AHs c [b,a] [e,d]:=And.intro g (And.intro f trivial)
def rwX{C:Prop}{O:Type}[aN O](hn:aN.n O=1){d:List O}(h:aU c s d)(k:∀us:cg,aU c s us->aCI c.S0 c.w0 us d->C):C:=by obtain⟨us,b,a⟩:=bPZ hn h;refine k us ?_ a;unfold aU;rw[a.1];exact b
def bTL{n:Int}(hn:0<=n/\n<=1073741824)(a:decide (0<aZ (n-aZ (0-0)))=true):1<=aZ (n-aZ (0-0))/\aZ (n-aZ (0-0))<=1073741824:=by grind[VW]
def a3K{O:Type}:∀l:List O,frc l=some l
 |[]=>rfl
 |x::l=>by simp only[frc,a3K l]
def a0F(x:SV):∀(cs:au) (i:Nat),nbL (cs.set i x)=(nbL cs).set i (nb1 x)
 |[],_=>rfl
 |y::cs,0=>rfl
 |y::cs,i+1=>by simp only[List.set_cons_succ,nbL,a0F x cs i]
def aB(l:aF):au:=[.b (l.getD 0 false),.b (l.getD 1 false),.b (l.getD 2 false),.b (l.getD 3 false),.b (l.getD 4 false),.b (l.getD 5 false),.b (l.getD 6 false),.b (l.getD 7 false),.b (l.getD 8 false),.b (l.getD 9 false),.b (l.getD 10 false),.b (l.getD 11 false),.b (l.getD 12 false),.b (l.getD 13 false),.b (l.getD 14 false),.b (l.getD 15 false),.b (l.getD 16 false),.b (l.getD 17 false),.b (l.getD 18 false),.b (l.getD 19 false),.b (l.getD 20 false),.b (l.getD 21 false),.b (l.getD 22 false),.b (l.getD 23 false)]
def a6L{l:aF}(h:i<24):(aB l)[i]?=some (.b (l.getD i false)):=by have:(aB l).length=24:=rfl;obtain _|_|_|_|_|_|_|_|_|_|_|_|_|_|_|_|_|_|_|_|_|_|_|_|i:=i<;>first|rfl|omega
def bQS{l:aF}(h:i<24)(hl:i<l.length)(u:Bool):(aB l).set i (.b u)=aB (l.set i u):=by
 refine aF5 λk=>?_;have e:(aB l).length=24:=rfl;by_cases hk:k<24
 .rw[a6L hk,List.getElem?_set];by_cases q:i=k
  .grind
  .rw[aO q,a6L hk];grind
 simp_all[aB]
section
variable {P:Program} {T:TT} {hT:IC P T} {n:Nat} {c:Ctx} {B0:Bl} {N:Act->World->Prop} {X:Nat->Act->World->Prop} {Q:Act->World->Prop} {K K':bg} {m m':Nat} {e e':SE} {L L':ao} {cf cf1 cf2:wV} {o:Oper} {Lv:ao} {d:Nat}
variable {x y:Operand} {t el:TypeId} {k:IntKind} {i:Int} {β:Type} {A:Option β} {kf:Bool->Option β} {q:β} {n1 b0:Nat} {l:aF}
theorem elP{B:Bl}{b i:Nat}(a:B[b0]?=some (b,z)):fS B (.p b0 i)=fS B (.e ⟨some ⟨b,z,none⟩,0⟩ 1 i 0):=by simp[fS,gV,bT,a,elB,elO]
theorem qia(O:P.underlying t=some (.array 24 el))(hz:∀w,(sizeOf el).run P w=.ok 1 w)(S:jO T n K cf m e L=.op o Lv cf1 cf2 K' m' e' L')(ho:(o.op,o.dst)=(.indexAddr t x y,some d))(J:jA e' x=some (.p b0 0))(I:(jA e' y).bind tF=some (k,i))(E:need (0<=i/\i<24) A=some q)
  (kk:0<=i/\i<24->A=some q->∀b z:Nat,G (.mk P T hT n c B0 N X Q) K' m' ((d,.e ⟨some ⟨b,z,none⟩,0⟩ 1 i.toNat 0)::e') (L'++[.w b0 b z]) cf2):G (.mk P T hT n c B0 N X Q) K m e L cf:=by
 have D:=(mP E).1;have U:o.dst=some d:=cS Prod.snd ho;refine g9 (g:=.mk P T hT n c B0 N X Q) ?_;rw[S];intro F _ W;refine W (Nat×Nat) (λ_=>m') (λs=>(d,.e ⟨some ⟨s.1,s.2,none⟩,0⟩ 1 i.toNat 0)::e') (λs=>L'++[.w b0 s.1 s.2]) (λ_=>vO _) (λB a w next Q' hm p V f=>?_) (λs=>kk D (mP E).2 s.1 s.2);obtain⟨v,r,h2⟩:=eV p J;have Z:=zQ p I;simp only[fS,gV,bT] at r;split at r
 .rename_i b z C;cases r;have M:(B0S (.mk P T hT n c B0 N X Q) cf1++B)[b0]?=some (b,z):=C;have h:fH P o (vE (B0S (.mk P T hT n c B0 N X Q) cf1++B) e') w (.pointer (some ⟨b,z+i.toNat,none⟩)) w:=λ_ a' j=>by
   have u:o.op=.indexAddr t x y:=cS Prod.fst ho;have Y:(⟨b,z,none⟩:Addr).add i.toNat=⟨b,z+i.toNat,none⟩:=by grind[Addr.add]
   simp[execOp,u,Instr.indexAt,j.eval h2,j.eval Z,asIntOf,run_underlying O,Instr.sureAddr,D.1,D.2,hz,Y]
  unfold Oper.wp;rw[h _ a p.env,Oper.upon_value,U];obtain⟨⟨R,H,s2⟩,s0⟩:=V;refine f (b,z) _ _ ⟨[],aj,by simpa using p.of (by simp[fS,gV,bT,elB,elO]) (p.env.put (by grind[sH,y5]) _),?_⟩;rw[wW];refine⟨⟨R,by rw[vC];exact a2W H,λz hz=>?_⟩,s0⟩;obtain hz|hz:=dR.1 hz
  .grind
  .simp at hz;subst hz;exact M
 .cases r
theorem qal{D:TK}{s:Nat}{C:au}{b:Nat}(p:Nat)(j:0<=i/\i<24)(J:opS (jO T n K cf m e L)=some (o,Lv,cf1,cf2,K',m',e',L'))(ho:(o.op,o.dst)=(.load t x,some d))(F:jA e' x=some (.e ⟨some ⟨b,z,none⟩,0⟩ 1 i.toNat 0))(M:Lv[p]?=some (.w b0 b z))(O:LO b0 Lv=some (aB l))(I:zS T t=some ⟨D,false,s,C⟩)(h:(idx l i).bind kf=some q)
  (kk:∀u,kf u=some q->G (.mk P T hT n c B0 N X Q) K' m' ((d,.b u)::e') L' cf2):G (.mk P T hT n c B0 N X Q) K m e L cf:=by
 cases f:idx l i with
 |none=>grind
 |some u=>
  rw[f] at h;refine pu J (cS Prod.snd ho) (λB a w S g=>?_) (kk u h);obtain⟨v,V,U⟩:=eV S F;have H:B[b0]?=some (b,z):=by obtain⟨⟨R,_,E⟩,_⟩:=id g;exact E _ (IA M)
  refine a2R (a:=.p b0 i.toNat) (r:=.b u) hT g (cS Prod.fst ho) U ((elP H).trans V) ?_;simp only[aX7,O,I];rw[a6L aa,DY,(D2 f).2.2];rfl
theorem bTM{v:SV}{y:Operand}(h:jA [] y=some v)(e:SE):jA e y=some v:=by cases y<;>first|exact h|grind[jA,GK]
theorem qas{tk:TK}{ag:Bool}{Y:au}{u:Bool}{b C:Nat}(p:Nat)(W:0<=i/\i<24)(hs:jO T n K cf m e L=.op o Lv cf1 cf2 K' m' e' L')(ho:(o.op,o.dst)=(.store t (.tmp C) y,none))(hx:GK e' C=some (.e ⟨some ⟨b,z,none⟩,0⟩ 1 i.toNat 0))(hy:jA [] y=some (.l u))(hp:L'[p]?=some (.w b0 b z))(r:XJ b0 L'=true)(hb:LO b0 L'=some (aB l))(ht:zS T t=some ⟨tk,ag,1,Y⟩)(hz:noD cf1=true)(U:(idx l i).bind kf=some q)
  (kk:∀v,kf v=some q->G (.mk P T hT n c B0 N X Q) K' m' e' (vN b0 (aB (l.set i.toNat u)) L') cf2):G (.mk P T hT n c B0 N X Q) K m e L cf:=by
 cases O:idx l i with
 |none=>grind
 |some v=>
  rw[O] at U;obtain⟨i0,i1,i2⟩:=D2 O;have H:i.toNat<l.length:=aa
  have E:o.op=.store t (.tmp C) y:=cS Prod.fst ho;have hd:o.dst=none:=cS Prod.snd ho;have D:Y2 T t (.p b0 i.toNat) (.l u) L'=some (vN b0 ((aB l).set i.toNat (.l u)) L'):=by
   have e1:Nat.beq 1 1=true:=rfl;have e2:Nat.ble (i.toNat+1) (aB l).length=true:=by rw[Nat.ble_eq];show i.toNat+1<=24;omega
   have e3:pN (.l u)=[.l u]:=rfl;have e4:isCells (.l u)=true:=rfl;simp only[Y2,r,hb,ht,e3,e4,List.length_singleton,e1,e2,a3K];simp_all[aRM,bE1]
  refine g9 (g:=.mk P T hT n c B0 N X Q) ?_;rw[hs];intro V _ hE;refine hE Unit (λ_=>m') (λ_=>e') (λ_=>vN b0 (aB (l.set i.toNat u)) L') (λ_=>?_) (λB a w next Q' hm h S f=>?_) (λ_=>kk v U)
  .cases cf1 with
   |d _ _ _ _ _ _=>cases hz
   |o _ _ _ _ _ _ _=>cases hz
   |_=>trivial
  .have hw:(B0S (.mk P T hT n c B0 N X Q) cf1++B)[b0]?=some (b,z):=by obtain⟨⟨R,_,J⟩,_⟩:=id S;exact J _ (IA hp)
   have s:iC n (B0S (.mk P T hT n c B0 N X Q) cf1++B) ((C,.p b0 i.toNat)::e') a:=⟨h.d,h.size,λk' Z hk=>by
    simp only[GK] at hk;split at hk
    .rename_i hq;cases hk;have:=qN hq;subst this;obtain⟨v,g1,g2⟩:=h.get k' _ hx;grind[elP]
    .exact h.get k' Z hk⟩
   obtain⟨w',k1,M⟩:=aYA hT s S E (by simp[jA,GK]) (bTM hy _) D;unfold Oper.wp;rw[k1 _ a s.env,Oper.upon_skip,hd];refine f () _ _ ⟨[],aj,by rw[wW];exact⟨h.d,h.size,h.get⟩,?_⟩;rw[wW];obtain⟨j,cs,g1,g2,g3⟩:=aRP r;rw[g3] at M ⊢;obtain⟨⟨R,s1,J⟩,s0⟩:=M;have e0:∀B:Bl,aV (bT B) ((aB l).set i.toNat (.l u))=aV (bT B) (aB (l.set i.toNat u)):=λB=>by rw[<-bQS aa H,<-UB,<-UB (cs:=(aB l).set i.toNat (.b u)),a0F,a0F];rfl
   refine⟨⟨R,?_,λz hz=>?_⟩,s0⟩
   .rw[PX] at s1 ⊢;refine s1.imp (kC.set j (kC.refl _) λF ⟨b,z,vs,q1,q2,q3⟩=>⟨b,z,vs,q1,(e0 _).symm.trans q2,q3⟩)
   .obtain⟨k,hk⟩:=aMZ hz;by_cases I:j=k
    .subst I;rw[List.getElem?_set] at hk;simp only[bS] at hk;split at hk
     .cases hk;trivial
     .cases hk
    .exact J z (IA (i:=k) aj)
end
open Go Go.RowKit
structure KX (n z:Nat) (A B:World):Prop where
 size:A.heap.size<=B.heap.size
 L5:∀k,k<n->k≠z->B.heap[k]?=A.heap[k]?
theorem KX.refl(n z:Nat)(A:World):KX n z A A:=⟨jE _,λ_ _ _=>rfl⟩
def KX.trans{n:Nat}{B C:World}(h:KX n z A B)(k:KX n z B C):KX n z A C:=⟨oB h.size k.size,λi b a=>(k.L5 i b a).trans (h.L5 i b a)⟩
theorem KX.put{n l:Nat}{o:Obj}(h:n<=l\/l=z):KX n z A (A.putObj l o):=⟨by simp[World.putObj],λi b a=>World.putObj_heap_other aa⟩
def a0G(W:World):cW:=λb o=>(W.cell? ⟨b,o,none⟩).isSome=true
def Cq(O:Type)[aN O]:Prop:=∀{S:cW} {w:World} {cs:ar} {d:O},aN.rd S w cs d->aN.rd (λb o=>S b o/\a0G w b o) w cs d
def bLZ{O:Type}[aN O][Flat O]:Cq O:=λh=>aN.rd_mono (aN.own_rd (Flat.own_of h:aN.own _ _ _ F0)) λ_ _ h=>h.elim
def a9U{O:Type}[aN O](k:Cq O):Cq (List O):=λ{S w cs l} h=>by obtain⟨a,c,e,r,q,p⟩:=(h:sN S w cs l);refine⟨a,c,e,r,q,p.imp id ?_⟩;rintro⟨b,off,n,h⟩;refine⟨b,off,n,λi m=>?_⟩;obtain⟨ec,d,j,f⟩:=h i m;refine⟨ec,d,λo g=>⟨j o g,?_⟩,k f⟩;obtain⟨_,t,s⟩:=g;have:=d (o-(off+i*aN.n O)) ec[o-(off+i*aN.n O)] (iS aa);rw[show off+i*aN.n O+(o-(off+i*aN.n O))=o by omega] at this;simp[a0G,this]
def RdZ(z:Nat)(W:World){O:Type}[aN O](cs:ar)(d:O):Prop:=aN.rd (λb o=>b≠z/\a0G W b o) W cs d
def CK(z:Nat)(W a:World):Prop:=∀(b:Nat) (t:TypeId) (cells:bw) (f:Nat×Nat),b≠z->W.heap[b]?=some (Obj.cells cells t f)->a.heap[b]?=W.heap[b]?
def RdZ.kept{W a:World}{O:Type}[aN O]{cs:ar}{d:O}(h:RdZ z W cs d)(hk:CK z W a):RdZ z a cs d:=by
 have key:∀b o,(b≠z/\a0G W b o)->a.cell? ⟨b,o,none⟩=W.cell? ⟨b,o,none⟩:=λb o ⟨hz,hc⟩=>by
  refine World.cell?_of_block ?_;unfold a0G World.cell? at hc;simp only at hc;split at hc
  .rename_i cells t f he;exact hk b _ _ _ hz he
  .cases hc
 exact aN.rd_mono (aN.rd_agree h key) λb o hc=>⟨hc.1,by unfold a0G;rw[key b o hc];exact hc.2⟩
def bL1{W c:World}{O:Type}[aN O](f:Cq O){y:AC}{d:List O}(h:lS (eF W) c [] [ow y d])(hz:z<W.heap.size):RdZ z c [y.v d.length] d:=by
 obtain⟨⟨R,s1,_⟩,_⟩:=h;obtain⟨F,S,a,_,j,_⟩:=s1.sep;have a:(fF [y.v d.length] d).P c F:=Sep.one.1 a;refine aN.rd_mono (a9U f (aN.own_rd a)) λb o ⟨i,g⟩=>⟨λe=>?_,g⟩;obtain h|h:=j b o i
 .exact h
 .have:W.heap.size<=b:=h;omega
def aRZ{W W':World}{L:ao}(h:lS (eF W) W' [] L):Below W.heap.size W W':=by obtain⟨⟨R,s1,_⟩,_⟩:=h;exact⟨s1.keep.os,s1.keep.tape,s1.keep.output,s1.keep.size,λk hk=>s1.keep.block k hk λ_ h=>h⟩
def CK.below{W W':World}(h:Below W.heap.size W W'):CK z W W':=λb t c f _ a=>h.block b (aNM.1 a).1
def CK.trans{B C:World}(h:CK z A B)(k:CK z B C):CK z A C:=λb t c f hz a=>by have d:=h b t c f hz a;exact(k b t c f hz (d.trans a)).trans d
def mkD(D:Nat):Deferred:={target:=.collected D,args:=#[]}
def Mks:List Deferred->World->Prop
 |[],_=>True
 |q::a,W=>∃D,q=mkD D/\W.heap[D]?=some (.deferred (some []))/\(∀E,mkD E∈a->E<D)/\Mks a W
def Mks.kept{W c:World}:∀{ds:List Deferred},Mks ds W->(∀D,mkD D∈ds->W.heap[D]?=some (.deferred (some []))->c.heap[D]?=W.heap[D]?)->Mks ds c
 |[],_,_=>trivial
 |q::ds,⟨D,b,a,f,e⟩,hk=>⟨D,b,(hk D (by rw[b];simp) a).trans a,f,e.kept λE d=>hk E (lZ _ d)⟩
def Mks.at{W:World}:∀{ds:List Deferred},Mks ds W->∀D,mkD D∈ds->W.heap[D]?=some (.deferred (some []))
 |q::ds,⟨D,d,c,f,b⟩,E,a=>by
  obtain e|e:=lO.1 a
  .subst d;simp only[mkD,Deferred.mk.injEq,Target.collected.injEq] at e;rw[e.1];exact c
  .exact b.at E e
def Mks.leave{P:Program}{F:Fence}{n:Nat}{e:Func}{tmps:bw}{R:Ending->World->Prop}:∀{ds:List Deferred} {W:World},Mks ds W->(∀a,(∀b,(∀D,mkD D∈ds->b≠D)->a.heap[b]?=W.heap[b]?)->a.heap.size=W.heap.size->(a.os=W.os/\a.tape=W.tape/\a.output=W.output)->LeavesIn F n P e tmps R [] .returning a)->LeavesInM F n P e tmps R ds .returning W
 |[],W,_,k=>k W (λ_ _=>rfl) rfl ⟨rfl,rfl,rfl⟩
 |q::ds,W,⟨D,i,h,g,f⟩,k=>by subst i;refine⟨ae,.inl ⟨D,_,rfl,run_takeDeferred h,Mks.leave (f.kept λE c _=>World.putObj_heap_other (by have:=g E c;omega)) λa l b3 j=>?_⟩⟩;refine k a (λb d=>(l b λE c=>d E (lZ _ c)).trans (World.putObj_heap_other (d D (by simp[mkD])))) (by rw[b3];simp[World.putObj]) j
section
variable {F:Fence} {n:Nat} {P:Program}
def rfX{O:Type}(B n₀ z:Nat)(I:List O->World->Prop)(xs:List O)(W:World):Exit->Act->World->Prop
 |.normal,_,a=>KeepsFrom B W a/\KX n₀ z W a/\I xs a
 |_,_,_=>False
theorem bGN{O:Type}{g:Operand}{ps:Array Tmp}{assign body:Code}{Q:Exit->Act->World->Prop}{a:Act}{w0:World}{gf n₀:Nat}{lb:bw}{encs:O->bw}{S:List O->Prop}{R:List O->O->Prop}
  (M:F.round=none) (h1:1<=n) (u:a.eval g=.func (.func gf) #[] lb) (hf:F.fn gf) (eg:∀args w,(callFunc gf args).run P w=.ok (.enter gf args) w)
  (E:∀(l:Nat) (J:List O->World->Prop) (W:World),Below w0.heap.size w0 W->AbidesFrom W.heap.size J->(∀pre x W1,J pre W1->R pre x->YieldAt F (n-1-1) P l (encs x) W1 λe K=>e=.returned (.bool true)/\J (pre++[x]) K/\KX n₀ z W1 K)->J [] W->CallsIn F (n-1) P gf (#[.func (.yield l) #[] #[]]++lb) W λe K=>(∃v,e=.returned v)/\∃xs,S xs/\J xs K) (hn:n₀<=w.heap.size) (hb0:Below w0.heap.size w0 w) (N:∀x,(encs x).size=ps.size)
  (I:List O->World->Prop) (C:OwnFrom w.heap.size I) (h0:I [] w) (A:O->Act)
  (c:∀(l:Nat) (x:O) (W:World),assign.wpIn (F.inRound l) (n-1-1) P (Exit.then (λa1 W1=>a1=A x/\W1=W) (λ_ _ _=>False)) {tmps:=(ps.zip (encs x)).foldl (λt (p,v)=>t.setIfInBounds p v) a.tmps,defers:=[]} W)
  (i:∀(l:Nat) (pre:List O) (x:O) (W:World),w.heap.size<=W.heap.size->R pre x->I pre W->body.wpIn (F.inRound l) (n-1-1) P (rfX w.heap.size n₀ z I (pre++[x]) W) (A x) W)
  (f:∀(D:Nat) (xs:List O) (W:World),w.heap.size<=D->S xs->I xs W->W.heap[D]?=some (.deferred (some []))->Q .normal {a with defers:={target:=.collected D,args:=#[]} :: a.defers} W) :
  (Code.rangeFunc g ps assign body).wpIn F n P Q a w:=by
 refine wpIn_rangeFunc λfn T=>?_;rw[M]
 let B:=w.heap.size
 let rc:LoopState->Option Code->Loop:=λst pe=>{state:=st,pending:=pe,fn,tmps:=a.tmps,params:=ps,assign,body,defers:=B}
 let W1:=(w.alloc (.deferred (some []))).alloc (.loop (rc .ready none))
 have L1:W1.heap[B+1]?=some (.loop (rc .ready none)):=by have:=World.alloc_heap_new (w.alloc (.deferred (some []))) (.loop (rc .ready none));rwa [World.size_alloc] at this
 have K1:W1.heap[B]?=some (.deferred (some [])):=(Below.heap_alloc _ _ _ (by simp[B])).trans (World.alloc_heap_new w _);have b1:Below w0.heap.size w0 W1:=hb0.trans ((((Below.refl _ w).alloc (jE _) _).alloc ae _).mono hb0.size);have io:I [] W1:=C.alloc _ (C.alloc _ h0)
 let y:Loop->World->Prop:=λr W=>W.heap[B+1]?=some (.loop r)/\W.heap[B]?=some (.deferred (some []))
 have kept:∀{r:Loop} {X Y:World} {b:cq},y r X->X.grownBy Y b->(∀j,b=some j->W1.heap.size<=j/\∃o:Obj,X.heap[j]?=some o/\o.isWalk=true)->y r Y:=λh u m=>by
  have s1:W1.heap.size=B+2:=by simp[W1,B]
  exact⟨(u.block _ (aNM.1 h.1).1 λe=>by have:=(m _ e.symm).1;omega).trans h.1,(u.block _ (aNM.1 h.2).1 λe=>by have:=(m _ e.symm).1;omega).trans h.2⟩
 have U:∀{X:World} {b:cq},(∀j,b=some j->W1.heap.size<=j/\∃o:Obj,X.heap[j]?=some o/\o.isWalk=true)->∀j,b=some j->B<=j/\∃o:Obj,X.heap[j]?=some o/\o.isCells=false:=λm j e=>by
  have s1:W1.heap.size=B+2:=by simp[W1,B]
  obtain⟨q,o,h,hw⟩:=m j e;exact⟨aa,o,h,Obj.not_cells_of_walk hw⟩
 have put:∀{r Z:Loop} {X:World},y r X->y Z (X.putObj (B+1) (.loop Z)):=λh=>⟨World.putObj_heap_same (aNM.1 h.1).1,(World.putObj_heap_other aa).trans h.2⟩;have H:∀{X:World} {o:Obj},KX n₀ z X (X.putObj (B+1) o):=KX.put (.inl aa);refine⟨B+1,[{target:=.collected B,args:=#[]}],W1,{target:=.fn (.func gf) lb,args:=#[.func (.yield (B+1)) #[] #[]]},W1,gf,#[.func (.yield (B+1)) #[] #[]]++lb,W1,run_enterLoop_outer _ _ _ _ _,?_,?_,?_,λ_=>h1,?_⟩
 .simp only[resolve,u];simp[go_sem]
 .intro f' h';simp[Target.leads] at h';subst h';exact hf
 .simp[invoke,go_sem,eg]
 refine(E (B+1) (λpre W=>I pre W/\y (rc .ready none) W) W1 b1 (λs X Y b h u m=>⟨C s X Y b h.1 u (U m),kept h.2 u m⟩) ?_ ⟨io,L1,K1⟩).mono ?_
 .rintro pre x W ⟨V,d⟩ hl;have L:B<=W.heap.size:=by have:=(aNM.1 d.1).1;omega
  refine⟨fn,_,assign,body,run_yield (P:=P) (args:=encs x) d.1 (N x),roundIn_of_wpIn T (wpIn_mono (c _ x W) ?_)⟩;rintro e a1 W2 he;cases e with
  |normal=>
   obtain⟨rfl,rfl⟩:=he;have G:y (rc .busy none) (W2.putObj (B+1) (.loop (rc .busy none))):=put d;refine⟨_,run_beginRound d.1 rfl,wpIn_mono (i _ pre x _ (by simp only[World.putObj,Array.size_setIfInBounds];exact L) hl (C.putObj _ V aa d.1 rfl)) ?_⟩;rintro e a3 W3 hp;cases e with
   |normal=>
    obtain⟨k3,q3,i3⟩:=hp;have k:y (rc .busy none) W3:=⟨k3.same _ _ aa G.1 rfl,k3.same _ _ (jE _) G.2 rfl⟩;exact⟨_,_,run_endRound (P:=P) none k.1,⟨rfl,⟨C.putObj _ i3 aa k.1 rfl,put k⟩,(H.trans q3).trans H⟩⟩
   |_=>exact hp.elim
  |_=>exact he.elim
 .rintro e W2 ⟨⟨v,rfl⟩,xs,hS,V,d⟩;exact⟨none,_,run_endLoop (P:=P) d.1 (by simp[rc]),f B xs _ (jE _) hS (C.putObj _ V aa d.1 rfl) ((World.putObj_heap_other aa).trans d.2)⟩
end
end Go.Gv
end
noncomputable section
namespace Go.Gv
open Go Go.RowKit
def OwZ(a z:Nat)(W:World){O:Type}[aN O](v:Value)(m:List O):Prop:=∃F,aN.own W [v] m F/\∀b o,F b o->a<=b/\b≠z
theorem OwZ.mono{d c z:Nat}{W:World}{O:Type}[aN O]{v:Value}{m:List O}(h:OwZ c z W v m)(hn:d<=c):OwZ d z W v m:=by obtain⟨F,a,b⟩:=h;exact⟨F,a,λi o q=>⟨oB hn (b i o q).1,(b i o q).2⟩⟩
section
variable {O:Type} [aN O] [Flat O] {W W':World} {v:Value} {m:List O} {n0 z:Nat}
theorem a9W{F:cW}(h:aN.own W [v] m F){b o:Nat}(f:F b o):a0G W b o:=by
 obtain⟨a,c,e,s,r,d⟩:=(h:D1 W [v] m F);obtain⟨_,_,d⟩|⟨b1,off,Fs,rfl,l,k,_,_,j⟩:=d
 .exact(d b o f).elim
 .rcases(j b o).1 f with g|⟨i,n,g⟩
  .obtain⟨rfl,q⟩:=g;exact(l o ⟨rfl,q⟩).1
  .obtain⟨ec,_,p⟩:=k i n;exact(Flat.no p b o g).elim
theorem OwZ.rdZ(h:OwZ n0 z W v m):RdZ z W [v] m:=by obtain⟨F,a,b⟩:=h;exact aN.rd_mono (aN.own_rd a) λi o q=>⟨(b i o q).2,a9W a q⟩
omit [Flat O] in
theorem bL2(b off:Nat):OwZ n0 z W (.slice (some ⟨b,off,none⟩) 0 0) ([]:List O):=⟨F0,⟨_,_,rfl,jE _,iT _,.inr ⟨b,off,λ_=>F0,rfl,λo h=>by have:=h.2;omega,λi h=>by simp at h,λi j h=>by simp at h,λi h=>by simp at h,λb' o=>⟨λh=>h.elim,λh=>h.elim (λh=>by have:=h.2;omega) λ⟨i,h,_⟩=>by simp at h⟩⟩⟩,λ_ _ h=>h.elim⟩
theorem OwZ.kept(h:OwZ n0 z W v m)(hk:CK z W W'):OwZ n0 z W' v m:=by
 obtain⟨F,a,r⟩:=h;refine⟨F,?_,r⟩;have same:∀b o,F b o->W'.heap[b]?=W.heap[b]?:=λb o q=>by
  have hc:=a9W a q;unfold a0G World.cell? at hc;simp only at hc;split at hc
  .rename_i cells t f he;exact hk b _ _ _ (r b o q).2 he
  .cases hc
 obtain⟨a,c,e,u,G,E⟩:=(a:D1 W [v] m F);refine⟨a,c,e,u,G,E.imp id ?_⟩;rintro⟨b,off,Fs,D,C,B,A,y,d⟩;refine⟨b,off,Fs,D,λo g=>?_,λi p=>?_,A,y,d⟩
 .have s:=same b o ((d b o).2 (.inl g));rw[World.cell?_of_block s,World.frozen?_of_block s];exact C o g
 .obtain⟨ec,H,k⟩:=B i p;refine⟨ec,λj x l=>?_,?_⟩
  .have hl:=aN.mD (aN.own_rd k);have w:=(DZ.1 l).1;have:=bD0 (n:=aN.n O) p u (show j<aN.n O by omega);rw[World.cell?_of_block (same b (off+i*aN.n O+j) ((d _ _).2 (.inl ⟨rfl,aa,aa⟩)))];exact H j x l
  .have e:Fs i=F0:=funext λb=>funext λo=>propext ⟨λh=>(Flat.no k b o h).elim,λh=>h.elim⟩;rw[e];exact Flat.own_of (aN.own_rd k)
omit [Flat O] in
theorem bQT{y:AC}(h:lS (eF W) W' [] [ow y m])(hz:z<W.heap.size):OwZ W.heap.size z W' (y.v m.length) m:=by
 obtain⟨⟨R,s1,_⟩,_⟩:=h;obtain⟨F,S,a,_,d,_⟩:=s1.sep;have a:(fF [y.v m.length] m).P W' F:=Sep.one.1 a;refine⟨F,a,λb o c=>?_⟩;obtain h|h:=d b o c
 .exact h.elim
 .have:W.heap.size<=b:=h;exact⟨this,aa⟩
omit [Flat O] in
theorem bL3{c:Ctx}{y:AC}(i:lS c c.w0 [] [])(h:Below c.w0.heap.size c.w0 W')(ho:OwZ c.w0.heap.size z W' (y.v m.length) m):lS c W' [] [ow y m]:=by obtain⟨⟨R,s1,e⟩,d⟩:=i;obtain⟨F,a,g⟩:=ho;have s1:=s1.same (aWA h);obtain⟨r,S,q,p,n,l,k,j⟩:=s1.sep;refine⟨⟨[],⟨s1.keep,⟨F,F0,Sep.one.2 a,λ_ _ _ h=>h,λb o h=>.inr (g b o h).1,λ_ _ h=>h.elim,λ_ _ h=>h.elim,ae⟩,s1.apart⟩,λx f=>by rw[jQ.1 f];trivial⟩,d⟩
end
def B4{c:Ctx}{W:World}{O:Type}[aN O]{s:AC}{l:List O}(e:lS c c.w0 [] [])(d:Below c.w0.heap.size c.w0 W)(h:aU c s l):aU (eF W) s l:=by obtain⟨_,a⟩:=e;refine aN.rd_mono (aN.rd_agree h λb o q=>World.cell?_of_block (d.block b (a b o q))) λb o q=>?_;have:=a b o q;exact LN this d.size
def bTN{W:World}{O:Type}[aN O]{s:AC}{l:List O}{z:Nat}(h:RdZ z W [s.v l.length] l):aU (eF W) s l:=aN.rd_mono h λb o q=>by have:=q.2;unfold a0G at this;exact World.block_lt_of_cell? W ⟨b,o,none⟩ (aM2.1 this).choose_spec
end Go.Gv
end
noncomputable section
namespace Go.Gv
variable{w:World}
abbrev VI(x:Int):Value:=.int .i64 x
structure dW where
 b:bh
 i:Int
 h:Int
 deriving DecidableEq,Inhabited
abbrev a9X(d:dW):=(d.b,d.i,d.h)
instance:aN dW:=aN.via a9X
instance:Fits dW:=Fits.via a9X
structure iK where
 Kind:Int
 Key:Int
 dP:Int
 deriving DecidableEq,Inhabited
abbrev bc:=List iK
abbrev bGO(d:iK):=(d.Kind,d.Key,d.dP)
instance:aN iK:=aN.via bGO
instance:Fits iK:=Fits.via bGO
def bQU{S:cW}{cs:ar}{d:iK}(h:aN.rd S w cs d):cs=[VI d.Kind,VI d.Key,VI d.dP]:=by obtain⟨c0,m,l,j,g⟩:=h;have e:c0=[_]:=j;obtain⟨c1,a,k,i,f⟩:=g;have c:c1=[_]:=i;have b:a=[_]:=f;exact by rw[l,k,e,c,b];rfl
instance:Flat iK:=⟨λh=>Flat.own_of (O:=Int×Int×Int) h,λh=>Flat.no (O:=Int×Int×Int) h⟩
def bQV(d:iK):OP [VI d.Kind,VI d.Key,VI d.dP] d []:=(show OP _ (bGO d) _ from(fC (c1:=[VI d.Kind]) (A:=[]) (eO rfl) (fC (c1:=[VI d.Key]) (A:=[]) (eO rfl) (eO rfl) rfl) rfl))
structure Batch where
 Collect:Bool
 bR:bc
 deriving DecidableEq,Inhabited
abbrev bm:=List Batch
abbrev a0H(d:Batch):=(d.Collect,d.bR)
instance:aN Batch:=aN.via a0H
instance:Fits Batch:=Fits.via a0H
def a3L{S:cW}{cs:ar}{d:Batch}(h:aN.rd S w cs d):∃b:Value,cs=[.bool d.Collect,b]/\aN.rd S w [b] d.bR:=by obtain⟨c0,i,g,f,a⟩:=h;have e:c0=[_]:=f;obtain⟨u1,c⟩:=lB a;rw[c] at a;exact⟨u1,by rw[g,e,c];rfl,a⟩
def a3M(d:Batch){a:Value}:OP [.bool d.Collect,a] d [fF [a] d.bR]:=(show OP _ (a0H d) _ from(fC (c1:=[.bool d.Collect]) (A:=[]) (eO rfl) L4 rfl))
structure aP where
 List:bm
 deriving DecidableEq,Inhabited
abbrev ax:=List aP
abbrev aR0(d:aP):=(d.List)
instance:aN aP:=aN.via aR0
instance:Fits aP:=Fits.via aR0
def bBY{S:cW}{cs:ar}{d:aP}(h:aN.rd S w cs d):∃a:Value,cs=[a]/\aN.rd S w [a] d.List:=by obtain⟨c,b⟩:=lB h;rw[b] at h;exact⟨c,b,h⟩
def bBZ(d:aP){a:Value}:OP [a] d [fF [a] d.List]:=(show OP _ (aR0 d) _ from L4)
structure FA where
 eE:ax
 kD:an
 deriving DecidableEq,Inhabited
abbrev aYI(d:FA):=(d.eE,d.kD)
instance:aN FA:=aN.via aYI
instance:Fits FA:=Fits.via aYI
structure Heap where
 Bytes:an
 Class:an
 deriving DecidableEq,Inhabited
abbrev bGP(d:Heap):=(d.Bytes,d.Class)
instance:aN Heap:=aN.via bGP
instance:Fits Heap:=Fits.via bGP
structure bK where
 aW:an
 deriving DecidableEq,Inhabited
abbrev bf:=List bK
abbrev a0I(d:bK):=(d.aW)
instance:aN bK:=aN.via a0I
instance:Fits bK:=Fits.via a0I
def bGQ{S:cW}{cs:ar}{d:bK}(h:aN.rd S w cs d):∃a:Value,cs=[a]/\aN.rd S w [a] d.aW:=by obtain⟨c,b⟩:=lB h;rw[b] at h;exact⟨c,b,h⟩
def IH(d:bK){a:Value}:OP [a] d [fF [a] d.aW]:=(show OP _ (a0I d) _ from L4)
structure aC where
 Global:bf
 Own:bf
 deriving DecidableEq,Inhabited
abbrev a9Y(d:aC):=(d.Global,d.Own)
instance:aN aC:=aN.via a9Y
instance:Fits aC:=Fits.via a9Y
structure Mem where
 Heap:Heap
 aC:aC
 deriving DecidableEq,Inhabited
abbrev bOT(d:Mem):=(d.Heap,d.aC)
instance:aN Mem:=aN.via bOT
instance:Fits Mem:=Fits.via bOT
structure zR where
 On:Bool
 aL:Int
 hU:Bool
 Seen:Int
 deriving DecidableEq,Inhabited
abbrev b5:=List zR
abbrev bGR(d:zR):=(d.On,d.aL,d.hU,d.Seen)
instance:aN zR:=aN.via bGR
instance:Fits zR:=Fits.via bGR
def bQW{S:cW}{cs:ar}{d:zR}(h:aN.rd S w cs d):cs=[.bool d.On,VI d.aL,.bool d.hU,VI d.Seen]:=by obtain⟨c0,s,p,m,j⟩:=h;have f:c0=[_]:=m;obtain⟨c1,r,o,l,i⟩:=j;have e:c1=[_]:=l;obtain⟨q,a,n,k,g⟩:=i;have c:q=[_]:=k;have b:a=[_]:=g;exact by rw[p,o,n,f,e,c,b];rfl
def bGS{S:cW}(d:zR):aN.rd S w [.bool d.On,VI d.aL,.bool d.hU,VI d.Seen] d:=⟨[.bool d.On],[VI d.aL,.bool d.hU,VI d.Seen],rfl,rfl,⟨[VI d.aL],[.bool d.hU,VI d.Seen],rfl,rfl,⟨[.bool d.hU],[VI d.Seen],rfl,rfl,rfl⟩⟩⟩
instance:Flat zR:=⟨λh=>Flat.own_of (O:=Bool×Int×Bool×Int) h,λh=>Flat.no (O:=Bool×Int×Bool×Int) h⟩
def bQX(d:zR):OP [.bool d.On,VI d.aL,.bool d.hU,VI d.Seen] d []:=(show OP _ (bGR d) _ from(fC (c1:=[.bool d.On]) (A:=[]) (eO rfl) (fC (c1:=[VI d.aL]) (A:=[]) (eO rfl) (fC (c1:=[.bool d.hU]) (A:=[]) (eO rfl) (eO rfl) rfl) rfl) rfl))
structure aD where
 aL:Int
 cV:b5
 deriving DecidableEq,Inhabited
abbrev cy:=Option (aD×Bool)
abbrev a9Z(d:aD):=(d.aL,d.cV)
instance:aN aD:=aN.via a9Z
instance:Fits aD:=Fits.via a9Z
structure eR where
 Handle:Int
 aL:Int
 deriving DecidableEq,Inhabited
abbrev bo:=List eR
abbrev a6M(d:eR):=(d.Handle,d.aL)
instance:aN eR:=aN.via a6M
instance:Fits eR:=Fits.via a6M
def bL4{S:cW}{cs:ar}{d:eR}(h:aN.rd S w cs d):cs=[VI d.Handle,VI d.aL]:=by obtain⟨c0,a,g,f,e⟩:=h;have c:c0=[_]:=f;have b:a=[_]:=e;exact by rw[g,c,b];rfl
def bL5{S:cW}(d:eR):aN.rd S w [VI d.Handle,VI d.aL] d:=⟨[VI d.Handle],[VI d.aL],rfl,rfl,rfl⟩
instance:Flat eR:=⟨λh=>Flat.own_of (O:=Int×Int) h,λh=>Flat.no (O:=Int×Int) h⟩
def bL6(d:eR):OP [VI d.Handle,VI d.aL] d []:=(show OP _ (a6M d) _ from(fC (c1:=[VI d.Handle]) (A:=[]) (eO rfl) (eO rfl) rfl))
structure b7 where
 Rows:bo
 deriving DecidableEq,Inhabited
abbrev bn:=List b7
abbrev a0J(d:b7):=(d.Rows)
instance:aN b7:=aN.via a0J
instance:Fits b7:=Fits.via a0J
def bGT{S:cW}{cs:ar}{d:b7}(h:aN.rd S w cs d):∃a:Value,cs=[a]/\aN.rd S w [a] d.Rows:=by obtain⟨c,b⟩:=lB h;rw[b] at h;exact⟨c,b,h⟩
def aR1(d:b7){a:Value}:OP [a] d [fF [a] d.Rows]:=(show OP _ (a0J d) _ from L4)
structure aA where
 Mem:Mem
 aD:aD
 aQ:bn
 pJ:an
 deriving DecidableEq,Inhabited
abbrev bGU(d:aA):=(d.Mem,d.aD,d.aQ,d.pJ)
instance:aN aA:=aN.via bGU
instance:Fits aA:=Fits.via bGU
structure bZ where
 Head:Int
 eW:Int
 eU:Int
 deriving DecidableEq,Inhabited
abbrev ay:=List bZ
abbrev bGV(d:bZ):=(d.Head,d.eW,d.eU)
instance:aN bZ:=aN.via bGV
instance:Fits bZ:=Fits.via bGV
def bQY{S:cW}{cs:ar}{d:bZ}(h:aN.rd S w cs d):cs=[VI d.Head,VI d.eW,VI d.eU]:=by obtain⟨c0,m,l,j,g⟩:=h;have e:c0=[_]:=j;obtain⟨c1,a,k,i,f⟩:=g;have c:c1=[_]:=i;have b:a=[_]:=f;exact by rw[l,k,e,c,b];rfl
def bGW{S:cW}(d:bZ):aN.rd S w [VI d.Head,VI d.eW,VI d.eU] d:=⟨[VI d.Head],[VI d.eW,VI d.eU],rfl,rfl,⟨[VI d.eW],[VI d.eU],rfl,rfl,rfl⟩⟩
instance:Flat bZ:=⟨λh=>Flat.own_of (O:=Int×Int×Int) h,λh=>Flat.no (O:=Int×Int×Int) h⟩
def bQZ(d:bZ):OP [VI d.Head,VI d.eW,VI d.eU] d []:=(show OP _ (bGV d) _ from(fC (c1:=[VI d.Head]) (A:=[]) (eO rfl) (fC (c1:=[VI d.eW]) (A:=[]) (eO rfl) (eO rfl) rfl) rfl))
structure gL where
 Key:Int
 dP:Int
 Next:Int
 deriving DecidableEq,Inhabited
abbrev a90(d:gL):=(d.Key,d.dP,d.Next)
instance:aN gL:=aN.via a90
instance:Fits gL:=Fits.via a90
def bGX{S:cW}{cs:ar}{d:gL}(h:aN.rd S w cs d):cs=[VI d.Key,VI d.dP,VI d.Next]:=by obtain⟨c0,m,l,j,g⟩:=h;have e:c0=[_]:=j;obtain⟨c1,a,k,i,f⟩:=g;have c:c1=[_]:=i;have b:a=[_]:=f;exact by rw[l,k,e,c,b];rfl
def bGY{S:cW}(d:gL):aN.rd S w [VI d.Key,VI d.dP,VI d.Next] d:=⟨[VI d.Key],[VI d.dP,VI d.Next],rfl,rfl,⟨[VI d.dP],[VI d.Next],rfl,rfl,rfl⟩⟩
instance:Flat gL:=⟨λh=>Flat.own_of (O:=Int×Int×Int) h,λh=>Flat.no (O:=Int×Int×Int) h⟩
structure Sub where
 Kind:Int
 A:Int
 Pc:Int
 E:Int
 Row:Int
 B:Int
 H:Int
 Out:Int
 Code:Int
 iE:Bool
 deriving DecidableEq,Inhabited
abbrev b9:=Option (aA×Sub)
abbrev bOU(d:Sub):=(d.Kind,d.A,d.Pc,d.E,d.Row,d.B,d.H,d.Out,d.Code,d.iE)
instance:aN Sub:=aN.via bOU
instance:Fits Sub:=Fits.via bOU
def bQ0{S:cW}{cs:ar}{d:Sub}(h:aN.rd S w cs d):cs=[VI d.Kind,VI d.A,VI d.Pc,VI d.E,VI d.Row,VI d.B,VI d.H,VI d.Out,VI d.Code,.bool d.iE]:=by obtain⟨c0,r0,M,D,t⟩:=h;have m:c0=[_]:=D;obtain⟨c1,r1,L,C,s⟩:=t;have l:c1=[_]:=C;obtain⟨U,r2,K,B,r⟩:=s;have k:U=[_]:=B;obtain⟨T,Z,J,A,q⟩:=r;have j:T=[_]:=A;obtain⟨R,Y,I,z,p⟩:=q;have i:R=[_]:=z;obtain⟨Q,X,H,y,o⟩:=p;have g:Q=[_]:=y;obtain⟨P,W,G,x,n6⟩:=o;have f:P=[_]:=x;obtain⟨O,V,F,v,n7⟩:=n6;have e:O=[_]:=v;obtain⟨N,a,E,u,n⟩:=n7;have c:N=[_]:=u;have b:a=[_]:=n;exact by rw[M,L,K,J,I,H,G,F,E,m,l,k,j,i,g,f,e,c,b];rfl
def bQ1{S:cW}(d:Sub):aN.rd S w [VI d.Kind,VI d.A,VI d.Pc,VI d.E,VI d.Row,VI d.B,VI d.H,VI d.Out,VI d.Code,.bool d.iE] d:=⟨[VI d.Kind],[VI d.A,VI d.Pc,VI d.E,VI d.Row,VI d.B,VI d.H,VI d.Out,VI d.Code,.bool d.iE],rfl,rfl,⟨[VI d.A],[VI d.Pc,VI d.E,VI d.Row,VI d.B,VI d.H,VI d.Out,VI d.Code,.bool d.iE],rfl,rfl,⟨[VI d.Pc],[VI d.E,VI d.Row,VI d.B,VI d.H,VI d.Out,VI d.Code,.bool d.iE],rfl,rfl,⟨[VI d.E],[VI d.Row,VI d.B,VI d.H,VI d.Out,VI d.Code,.bool d.iE],rfl,rfl,⟨[VI d.Row],[VI d.B,VI d.H,VI d.Out,VI d.Code,.bool d.iE],rfl,rfl,⟨[VI d.B],[VI d.H,VI d.Out,VI d.Code,.bool d.iE],rfl,rfl,⟨[VI d.H],[VI d.Out,VI d.Code,.bool d.iE],rfl,rfl,⟨[VI d.Out],[VI d.Code,.bool d.iE],rfl,rfl,⟨[VI d.Code],[.bool d.iE],rfl,rfl,rfl⟩⟩⟩⟩⟩⟩⟩⟩⟩
instance:Flat Sub:=⟨λh=>Flat.own_of (O:=Int×Int×Int×Int×Int×Int×Int×Int×Int×Bool) h,λh=>Flat.no (O:=Int×Int×Int×Int×Int×Int×Int×Int×Int×Bool) h⟩
structure Seen where
 bZ:Int
 eW:Int
 deriving DecidableEq,Inhabited
abbrev bx:=List Seen
abbrev a6N(d:Seen):=(d.bZ,d.eW)
instance:aN Seen:=aN.via a6N
instance:Fits Seen:=Fits.via a6N
def bL7{S:cW}{cs:ar}{d:Seen}(h:aN.rd S w cs d):cs=[VI d.bZ,VI d.eW]:=by obtain⟨c0,a,g,f,e⟩:=h;have c:c0=[_]:=f;have b:a=[_]:=e;exact by rw[g,c,b];rfl
instance:Flat Seen:=⟨λh=>Flat.own_of (O:=Int×Int) h,λh=>Flat.no (O:=Int×Int) h⟩
def bL8(d:Seen):OP [VI d.bZ,VI d.eW] d []:=(show OP _ (a6N d) _ from(fC (c1:=[VI d.bZ]) (A:=[]) (eO rfl) (eO rfl) rfl))
structure aX where
 Key:Int
 LJ:Bool
 dP:Int
 deriving DecidableEq,Inhabited
abbrev az:=List aX
abbrev a0K(d:aX):=(d.Key,d.LJ,d.dP)
instance:aN aX:=aN.via a0K
instance:Fits aX:=Fits.via a0K
def bGZ{S:cW}{cs:ar}{d:aX}(h:aN.rd S w cs d):cs=[VI d.Key,.bool d.LJ,VI d.dP]:=by obtain⟨c0,m,l,j,g⟩:=h;have e:c0=[_]:=j;obtain⟨c1,a,k,i,f⟩:=g;have c:c1=[_]:=i;have b:a=[_]:=f;exact by rw[l,k,e,c,b];rfl
def bG0{S:cW}(d:aX):aN.rd S w [VI d.Key,.bool d.LJ,VI d.dP] d:=⟨[VI d.Key],[.bool d.LJ,VI d.dP],rfl,rfl,⟨[.bool d.LJ],[VI d.dP],rfl,rfl,rfl⟩⟩
instance:Flat aX:=⟨λh=>Flat.own_of (O:=Int×Bool×Int) h,λh=>Flat.no (O:=Int×Bool×Int) h⟩
def bG1(d:aX):OP [VI d.Key,.bool d.LJ,VI d.dP] d []:=(show OP _ (a0K d) _ from(fC (c1:=[VI d.Key]) (A:=[]) (eO rfl) (fC (c1:=[.bool d.LJ]) (A:=[]) (eO rfl) (eO rfl) rfl) rfl))
structure eX where
 Is:Bool
 dP:Int
 deriving DecidableEq,Inhabited
abbrev bq:=List eX
abbrev da:=List (Int×List eX)
abbrev bG2(d:eX):=(d.Is,d.dP)
instance:aN eX:=aN.via bG2
instance:Fits eX:=Fits.via bG2
def bQ2{S:cW}{cs:ar}{d:eX}(h:aN.rd S w cs d):cs=[.bool d.Is,VI d.dP]:=by obtain⟨c0,a,g,f,e⟩:=h;have c:c0=[_]:=f;have b:a=[_]:=e;exact by rw[g,c,b];rfl
instance:Flat eX:=⟨λh=>Flat.own_of (O:=Bool×Int) h,λh=>Flat.no (O:=Bool×Int) h⟩
def bQ3(d:eX):OP [.bool d.Is,VI d.dP] d []:=(show OP _ (bG2 d) _ from(fC (c1:=[.bool d.Is]) (A:=[]) (eO rfl) (eO rfl) rfl))
structure aK where
 bU:Bool
 Batch:Batch
 aG:Int
 Pc:Int
 At:Int
 K:Int
 bZ:Int
 eW:Int
 H:Int
 g7:Int
 Node:gL
 Found:Bool
 Code:Int
 Sub:Sub
 Reads:bx
 aH:az
 eX:bq
 gN:an
 bH:an
 cK:an
 deriving DecidableEq,Inhabited
abbrev bp:=List aK
abbrev a6O(d:aK):=(d.bU,d.Batch,d.aG,d.Pc,d.At,d.K,d.bZ,d.eW,d.H,d.g7,d.Node,d.Found,d.Code,d.Sub,d.Reads,d.aH,d.eX,d.gN,d.bH,d.cK)
instance:aN aK:=aN.via a6O
instance:Fits aK:=Fits.via a6O
def bL9{S:cW}{cs:ar}{d:aK}(h:aN.rd S w cs d):∃v0 v1 v2 v3 v4 v5 Z:Value,cs=[.bool d.bU,.bool d.Batch.Collect,v0,VI d.aG,VI d.Pc,VI d.At,VI d.K,VI d.bZ,VI d.eW,VI d.H,VI d.g7,VI d.Node.Key,VI d.Node.dP,VI d.Node.Next,.bool d.Found,VI d.Code,VI d.Sub.Kind,VI d.Sub.A,VI d.Sub.Pc,VI d.Sub.E,VI d.Sub.Row,VI d.Sub.B,VI d.Sub.H,VI d.Sub.Out,VI d.Sub.Code,.bool d.Sub.iE,v1,v2,v3,v4,v5,Z]/\aN.rd S w [v0] d.Batch.bR/\aN.rd S w [v1] d.Reads/\aN.rd S w [v2] d.aH/\aN.rd S w [v3] d.eX/\aN.rd S w [v4] d.gN/\aN.rd S w [v5] d.bH/\aN.rd S w [Z] d.cK:=by obtain⟨c0,r0,e0,h0,n0⟩:=h;have q0:c0=[_]:=h0;obtain⟨c1,r1,e1,h1,n1⟩:=n0;obtain⟨j,q1,a⟩:=a3L h1;obtain⟨c2,r2,e2,h2,n2⟩:=n1;have q2:c2=[_]:=h2;obtain⟨c3,r3,e3,h3,n3⟩:=n2;have q3:c3=[_]:=h3;obtain⟨c4,r4,e4,h4,n4⟩:=n3;have q4:c4=[_]:=h4;obtain⟨c5,r5,e5,h5,n5⟩:=n4;have q5:c5=[_]:=h5;obtain⟨c6,r6,e6,h6,n6⟩:=n5;have q6:c6=[_]:=h6;obtain⟨c7,r7,e7,h7,n7⟩:=n6;have q7:c7=[_]:=h7;obtain⟨c8,r8,e8,h8,n8⟩:=n7;have q8:c8=[_]:=h8;obtain⟨c9,r9,e9,h9,n9⟩:=n8;have q9:c9=[_]:=h9;obtain⟨c10,r10,W,M,I⟩:=n9;have A:=bGX M;obtain⟨Y,r11,V,L,H⟩:=I;have z:Y=[_]:=L;obtain⟨X,r12,U,K,G⟩:=H;have y:X=[_]:=K;obtain⟨c13,r13,T,J,F⟩:=G;have x:=bQ0 J;obtain⟨c14,r14,R,i,E⟩:=F;obtain⟨v,p⟩:=lB i;rw[p] at i;obtain⟨c15,r15,Q,g,D⟩:=E;obtain⟨u,o⟩:=lB g;rw[o] at g;obtain⟨c16,r16,P,f,C⟩:=D;obtain⟨t,n⟩:=lB f;rw[n] at f;obtain⟨c17,r17,O,e,B⟩:=C;obtain⟨s,m⟩:=lB e;rw[m] at e;obtain⟨c18,r18,N,c,b⟩:=B;obtain⟨r,l⟩:=lB c;rw[l] at c;obtain⟨q,k⟩:=lB b;rw[k] at b;exact⟨j,v,u,t,s,r,q,by rw[e0,e1,e2,e3,e4,e5,e6,e7,e8,e9,W,V,U,T,R,Q,P,O,N,q0,q1,q2,q3,q4,q5,q6,q7,q8,q9,A,z,y,x,p,o,n,m,l,k];rfl,a,i,g,f,e,c,b⟩
def a0L(d:aK){g:Value}{f:Value}{e:Value}{c:Value}{b:Value}{a:Value}{h:Value}:OP [.bool d.bU,.bool d.Batch.Collect,g,VI d.aG,VI d.Pc,VI d.At,VI d.K,VI d.bZ,VI d.eW,VI d.H,VI d.g7,VI d.Node.Key,VI d.Node.dP,VI d.Node.Next,.bool d.Found,VI d.Code,VI d.Sub.Kind,VI d.Sub.A,VI d.Sub.Pc,VI d.Sub.E,VI d.Sub.Row,VI d.Sub.B,VI d.Sub.H,VI d.Sub.Out,VI d.Sub.Code,.bool d.Sub.iE,f,e,c,b,a,h] d [fF [g] d.Batch.bR,fF [f] d.Reads,fF [e] d.aH,fF [c] d.eX,fF [b] d.gN,fF [a] d.bH,fF [h] d.cK]:=(show OP _ (a6O d) _ from(fC (c1:=[.bool d.bU]) (A:=[]) (eO rfl) (fC (c1:=[.bool d.Batch.Collect,g]) (A:=[fF [g] d.Batch.bR]) (a3M _) (fC (c1:=[VI d.aG]) (A:=[]) (eO rfl) (fC (c1:=[VI d.Pc]) (A:=[]) (eO rfl) (fC (c1:=[VI d.At]) (A:=[]) (eO rfl) (fC (c1:=[VI d.K]) (A:=[]) (eO rfl) (fC (c1:=[VI d.bZ]) (A:=[]) (eO rfl) (fC (c1:=[VI d.eW]) (A:=[]) (eO rfl) (fC (c1:=[VI d.H]) (A:=[]) (eO rfl) (fC (c1:=[VI d.g7]) (A:=[]) (eO rfl) (fC (c1:=[VI d.Node.Key,VI d.Node.dP,VI d.Node.Next]) (A:=[]) (eO (bGY _)) (fC (c1:=[.bool d.Found]) (A:=[]) (eO rfl) (fC (c1:=[VI d.Code]) (A:=[]) (eO rfl) (fC (c1:=[VI d.Sub.Kind,VI d.Sub.A,VI d.Sub.Pc,VI d.Sub.E,VI d.Sub.Row,VI d.Sub.B,VI d.Sub.H,VI d.Sub.Out,VI d.Sub.Code,.bool d.Sub.iE]) (A:=[]) (eO (bQ1 _)) (fC (c1:=[f]) (A:=[fF [f] d.Reads]) L4 (fC (c1:=[e]) (A:=[fF [e] d.aH]) L4 (fC (c1:=[c]) (A:=[fF [c] d.eX]) L4 (fC (c1:=[b]) (A:=[fF [b] d.gN]) L4 (fC (c1:=[a]) (A:=[fF [a] d.bH]) L4 L4 rfl) rfl) rfl) rfl) rfl) rfl) rfl) rfl) rfl) rfl) rfl) rfl) rfl) rfl) rfl) rfl) rfl) rfl) rfl))
structure iO where
 Kind:Int
 Who:Int
 aG:Int
 Code:Int
 bR:bc
 eX:bq
 deriving DecidableEq,Inhabited
abbrev a7:=List iO
abbrev bG3(d:iO):=(d.Kind,d.Who,d.aG,d.Code,d.bR,d.eX)
instance:aN iO:=aN.via bG3
instance:Fits iO:=Fits.via bG3
def bQ4{S:cW}{cs:ar}{d:iO}(h:aN.rd S w cs d):∃e c:Value,cs=[VI d.Kind,VI d.Who,VI d.aG,VI d.Code,e,c]/\aN.rd S w [e] d.bR/\aN.rd S w [c] d.eX:=by obtain⟨c0,I,B,v,r⟩:=h;have n:c0=[_]:=v;obtain⟨c1,H,A,u,q⟩:=r;have m:c1=[_]:=u;obtain⟨D,G,z,t,p⟩:=q;have l:D=[_]:=t;obtain⟨C,F,y,s,o⟩:=p;have k:C=[_]:=s;obtain⟨J,E,x,b,a⟩:=o;obtain⟨j,g⟩:=lB b;rw[g] at b;obtain⟨i,f⟩:=lB a;rw[f] at a;exact⟨j,i,by rw[B,A,z,y,x,n,m,l,k,g,f];rfl,b,a⟩
def bQ5(d:iO){a:Value}{b:Value}:OP [VI d.Kind,VI d.Who,VI d.aG,VI d.Code,a,b] d [fF [a] d.bR,fF [b] d.eX]:=(show OP _ (bG3 d) _ from(fC (c1:=[VI d.Kind]) (A:=[]) (eO rfl) (fC (c1:=[VI d.Who]) (A:=[]) (eO rfl) (fC (c1:=[VI d.aG]) (A:=[]) (eO rfl) (fC (c1:=[VI d.Code]) (A:=[]) (eO rfl) (fC (c1:=[a]) (A:=[fF [a] d.bR]) L4 L4 rfl) rfl) rfl) rfl) rfl))
structure Table where
 aA:aA
 aT:ay
 aR:bp
 eE:ax
 Log:a7
 aG:Int
 deriving DecidableEq,Inhabited
abbrev a91(d:Table):=(d.aA,d.aT,d.aR,d.eE,d.Log,d.aG)
instance:aN Table:=aN.via a91
instance:Fits Table:=Fits.via a91
structure KV where
 Key:Int
 dP:Int
 deriving DecidableEq,Inhabited
abbrev aq:=List KV
abbrev cF:=Option (List KV)
abbrev bQ6(d:KV):=(d.Key,d.dP)
instance:aN KV:=aN.via bQ6
instance:Fits KV:=Fits.via bQ6
def bTO{S:cW}{cs:ar}{d:KV}(h:aN.rd S w cs d):cs=[VI d.Key,VI d.dP]:=by obtain⟨c0,a,g,f,e⟩:=h;have c:c0=[_]:=f;have b:a=[_]:=e;exact by rw[g,c,b];rfl
def bTP{S:cW}(d:KV):aN.rd S w [VI d.Key,VI d.dP] d:=⟨[VI d.Key],[VI d.dP],rfl,rfl,rfl⟩
instance:Flat KV:=⟨λh=>Flat.own_of (O:=Int×Int) h,λh=>Flat.no (O:=Int×Int) h⟩
def bTQ(d:KV):OP [VI d.Key,VI d.dP] d []:=(show OP _ (bQ6 d) _ from(fC (c1:=[VI d.Key]) (A:=[]) (eO rfl) (eO rfl) rfl))
end Go.Gv
end
