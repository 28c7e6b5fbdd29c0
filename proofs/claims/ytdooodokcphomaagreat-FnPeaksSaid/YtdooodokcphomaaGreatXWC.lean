import Derived.Test.YtdooodokcphomaaGreatXWB
import Derived.Shelf.Slices.CompactI
import Derived.Shelf.Spec.SlicesInsertGrow
set_option linter.unusedVariables false
set_option linter.unusedSimpArgs false
set_option linter.unusedSectionVars false
set_option linter.constructorNameAsVariable false
set_option linter.unnecessarySimpa false
set_option linter.defProp false
noncomputable section
namespace Go.Gv
variable{s:AC}{y:Code}{κ:Ctx}{g:FuncId}{c3 xs:aq}{vs:ao}{id n3 t:Nat}{P:Program}{C:Prop}{h i j k l m n p q:Sort _}{O ex β π ρ σ υ:Type}{w:World}{F:dA}
universe u
def Q{O:Sort u}{a:O}:a=a:=Eq.refl a
def Q2{d:Sort _}{a:d}{c:Sort _}{b:c}:a=a/\b=b:=⟨rfl,rfl⟩
def Q3{f:Sort _}{a:f}{e:Sort _}{b:e}{d:Sort _}{c:d}:a=a/\b=b/\c=c:=⟨rfl,rfl,rfl⟩
def Q4{a:h}{g:Sort _}{b:g}{f:Sort _}{c:f}{e:Sort _}{d:e}:a=a/\b=b/\c=c/\d=d:=⟨rfl,rfl,rfl,rfl⟩
def Q5{a:j}{b:i}{c:h}{g:Sort _}{d:g}{f:Sort _}{e:f}:a=a/\b=b/\c=c/\d=d/\e=e:=⟨rfl,rfl,rfl,rfl,rfl⟩
def Q6{a:l}{b:k}{c:j}{d:i}{e:h}{g:Sort _}{f:g}:a=a/\b=b/\c=c/\d=d/\e=e/\f=f:=⟨rfl,rfl,rfl,rfl,rfl,rfl⟩
def Q7{a:n}{b:m}{c:l}{d:k}{e:j}{f:i}{g:h}:a=a/\b=b/\c=c/\d=d/\e=e/\f=f/\g=g:=⟨rfl,rfl,rfl,rfl,rfl,rfl,rfl⟩
def Q8{a:p}{o:Sort _}{b:o}{c:n}{d:m}{e:l}{f:k}{g:j}{h:i}:a=a/\b=b/\c=c/\d=d/\e=e/\f=f/\g=g/\h=h:=⟨rfl,rfl,rfl,rfl,rfl,rfl,rfl,rfl⟩
def Q9{r:Sort _}{a:r}{b:q}{c:p}{o:Sort _}{d:o}{e:n}{f:m}{g:l}{h:k}{i:j}:a=a/\b=b/\c=c/\d=d/\e=e/\f=f/\g=g/\h=h/\i=i:=⟨rfl,rfl,rfl,rfl,rfl,rfl,rfl,rfl,rfl⟩
def Q10{t:Sort _}{a:t}{s:Sort _}{b:s}{r:Sort _}{c:r}{d:q}{e:p}{o:Sort _}{f:o}{g:n}{h:m}{i:l}{j:k}:a=a/\b=b/\c=c/\d=d/\e=e/\f=f/\g=g/\h=h/\i=i/\j=j:=⟨rfl,rfl,rfl,rfl,rfl,rfl,rfl,rfl,rfl,rfl⟩
def HO{A:Sort _}{a:A}{z:Sort _}{b:z}{y:Sort _}{c:y}{x:Sort _}{d:x}{w:Sort _}{e:w}{v:Sort _}{f:v}{t:Sort _}{g:t}{s:Sort _}{h:s}{r:Sort _}{i:r}{j:q}{k:p}{o:Sort _}{l:o}{m:n}:a=a/\b=b/\c=c/\d=d/\e=e/\f=f/\g=g/\h=h/\i=i/\j=j/\k=k/\l=l/\m=m:=⟨rfl,rfl,rfl,rfl,rfl,rfl,rfl,rfl,rfl,rfl,rfl,rfl,rfl⟩
def W{ρ:Type}(C:Prop)(r:ρ)(F:Option ρ):Prop:=F=some r->C
def wm{r:ρ}{F F':Option ρ}(h:F'=F)(k:W C r F):W C r F':=h ▸ k
def wi{r:ρ}{F:Option ρ}(h:F=some r)(k:W C r F):C:=k h
def VS(P:Program)(c:Ctx)(f:FuncId){ρ ex:Type}(F:Option ρ)(xs:aq)(B0:Bl)(L0:an)(sv:ρ->ex->SV)(Lf:ρ->ex->an):Prop:=∀r,F=some r->FnS P f c xs B0 L0 sv Lf r
abbrev V0(P:Program)(c:Ctx)(f:FuncId){ρ:Type}(F:Option ρ)(xs:aq)(sv:ρ->SV):Prop:=VS P c f F xs [] [] (λr (_:Unit)=>sv r) (λ_ _=>[])
theorem VS.r{c:Ctx}{f:FuncId}{F:Option ρ}{B0:Bl}{L0:an}{sv:ρ->ex->SV}{Lf:ρ->ex->an}(h:VS P c f F xs B0 L0 sv Lf){r:ρ}(a:F=some r):FnS P f c xs B0 L0 sv Lf r:=h r a
def QR(P:Program)(a:Func){b:List ResultVar}(_:a.results=b.toArray)(c:Ctx)(B0:Bl){ρ ex:Type}(sv:ρ->ex->SV)(Lf:ρ->ex->an)(r:ρ):Act->World->Prop:=QS P a c B0 sv Lf r
def bDB(T:TT)(b:List ResultVar)(is:ar)(a:Nat)(L2:an):Stop->Option (SV×List Ch)
 |.ret m e L=>match aXJ T e L b with
  |some x=>match CR a (nbS x) with
   |true=>match asT a m e L is a [] L2 with
    |some ([],c)=>some (nbS x,c)
    |_=>none
   |false=>none
  |none=>none
 |_=>none
def a82(is:ar)(c a:Nat)(b:SE)(d:an):Stop->Option (SE×List Ch)
 |.fin m e L=>asT c m e L is a b d
 |_=>none
def exQ(is:ar)(id c a:Nat)(b:SE)(d:an):Stop->Option (SE×List Ch)
 |.ex i m e L=>match Nat.beq i id with
  |true=>asT c m e L is a b d
  |false=>none
 |_=>none
def bNX:Stop->Stop
 |.fin m e L=>.ret m e L
 |_=>.stuck
def ixT(T:TT)(t n:Nat):Bool:=match AY T t with
 |some ⟨.sl el,_,_,_⟩=>match AY T el with
  |some ⟨_,_,a,_⟩=>Nat.beq n a
  |none=>false
 |_=>false
section
variable {P:Program} {T:TT} {hT:I3 P T} {n:Nat} {c:Ctx} {B0:Bl} {N:Act->World->Prop} {X:Nat->Act->World->Prop} {Q:Act->World->Prop} {K K':a8} {m m':Nat} {e e':SE} {L L' Lv:an} {cf cf' cf1 cf2:wJ} {o:Oper}
theorem enW(hT:I3 P T){f:FuncId}{a:Func}{g:Code}{xs:aq}{L0:an}{ρ ex:Type}{sv:ρ->ex->SV}{Lf:ρ->ex->an}{F:Option ρ}{h:List ResultVar}(l:∀args w,(callFunc f args).run P w=.ok (.enter f args) w)(j:P.funcs[f]?=some a)(d:a.results=h.toArray)(b:a.body=some g/\a.ntmps=n)
  (k:∀{r},W (G (.mk P T hT n c B0 (QR P a d c B0 sv Lf r) (λ_ _ _=>False) (QR P a d c B0 sv Lf r)) [] B0.length (aWF 0 xs) L0 (.c g)) r F) (i:Nat.ble xs.length n=true:=by exact rfl):VS P c f F xs B0 L0 sv Lf:=let ⟨p,hm⟩:=b;λ_ q=>en n l j hT p hm i (k q)
theorem a7J{b:List ResultVar}{is:ar}{a:Nat}{L2 d:an}{s:SV}{st:Stop}(h:bDB T b is a L2 st=some (s,d)):∃m' e' L' x,st=.ret m' e' L'/\aXJ T e' L' b=some x/\nbS x=s/\CR a s=true/\asT a m' e' L' is a [] L2=some ([],d):=by unfold bDB at h;grind
theorem dD{g:Func}{sv:ρ->ex->SV}{Lf:ρ->ex->an}{r a:ρ}{d:List ResultVar}{f:g.results=d.toArray}{zz:Option ρ}(y:ex)(is:ar)(b:zz=some a/\bDB T d is B0.length (Lf a y) (j7 T n K cf m e L)=some (sv a y,Lf a y)):W (G (.mk P T hT n c B0 N X (QR P g f c B0 sv Lf r)) K m e L cf) r zz:=let ⟨i,h⟩:=b;λj=>by obtain⟨_,_,_,_,s,q,p,l,k⟩:=a7J h;exact rt y is j i s f q p l k
theorem cQ{f:Func}{sv:ρ->Unit->SV}{Lf:ρ->Unit->an}{r a:ρ}{d:List ResultVar}{i:f.results=d.toArray}{zz:Option ρ}(b:zz=some a/\bDB T d [] B0.length (Lf a ()) (j7 T n K cf m e L)=some (sv a (),Lf a ())):W (G (.mk P T hT n c B0 N X (QR P f i c B0 sv Lf r)) K m e L cf) r zz:=let ⟨g,h⟩:=b;dD () [] ⟨g,h⟩
theorem CS{f:Func}{sv:ρ->ex->SV}{Lf:ρ->ex->an}{r a:ρ}{b:List ResultVar}{d:f.results=b.toArray}{zz:Option ρ}(y:ex)(is:ar)(g:zz=some a)(h:bDB T b is B0.length (Lf a y) (bNX (j7 T n K cf m e L))=some (sv a y,Lf a y)):W (G (.mk P T hT n c B0 (QR P f d c B0 sv Lf r) X Q) K m e L cf) r zz:=λi=>by obtain⟨m',e',L',_,q,p,l,k,j⟩:=a7J h;refine rf y is i g (m':=m') (e':=e') (L':=L') ?_ d p l k j;unfold bNX at q;grind
theorem a7K{is:ar}{f a:Nat}{b d:SE}{g i:an}{st:Stop}(h:a82 is f a b g st=some (d,i)):∃m' e' L',st=.fin m' e' L'/\asT f m' e' L' is a b g=some (d,i):=by unfold a82 at h;grind
theorem iO{g:π->Prop}{f:Nat}{b:π->υ->SE}{d:π->υ->an}{p:π}{q:O}{zz:Option O}(u:υ)(is:ar)(a:(zz=some q)=g p/\a82 is B0.length f (b p u) (d p u) (j7 T n K cf m e L)=some (b p u,d p u)):W (G (.mk P T hT n c B0 (JP n c B0 g f b d) X Q) K m e L cf) q zz:=let ⟨i,h⟩:=a;λj=>by obtain⟨_,_,_,l,k⟩:=a7K h;exact jn u is (i ▸ j) l k
theorem bQ{g:π->Prop}{f:Nat}{b:π->Unit->SE}{d:π->Unit->an}{p:π}{q:O}{zz:Option O}(is:ar)(a:(zz=some q)=g p/\a82 is B0.length f (b p ()) (d p ()) (j7 T n K cf m e L)=some (b p (),d p ())):W (G (.mk P T hT n c B0 (JP n c B0 g f b d) X Q) K m e L cf) q zz:=let ⟨i,h⟩:=a;iO () is ⟨i,h⟩
theorem nxW{o:Step σ ρ}{b:Nat}{el:σ->υ->SE}{a:σ->υ->an}{s:σ}(u:υ)(is:ar)(h:a82 is B0.length b (el s u) (a s u) (j7 T n K cf m e L)=some (el s u,a s u)):W (G (.mk P T hT n c B0 (NxP n c B0 o b el a) X Q) K m e L cf) o (some (Step.next s)):=λd=>by obtain⟨_,_,_,g,f⟩:=a7K h;exact nx u is d g f
theorem F9{o:Step σ ρ}{b:Nat}{el:σ->Unit->SE}{a:σ->Unit->an}{s:σ}(is:ar)(h:a82 is B0.length b (el s ()) (a s ()) (j7 T n K cf m e L)=some (el s (),a s ())):W (G (.mk P T hT n c B0 (NxP n c B0 o b el a) X Q) K m e L cf) o (some (Step.next s)):=nxW () is h
def BkR(n:Nat)(c:Ctx)(B0:Bl){β ρ σ υ:Type}{o:Step σ ρ}{ro:ρ}(_:∀p,o=.stop p->p=ro)(a:β->ρ)(m:Nat)(b:β->υ->SE)(d:β->υ->an)(id:Nat)(X:Nat->Act->World->Prop):Nat->Act->World->Prop:=BkP n c B0 ro a m b d id X
theorem bkW{o:Step σ ρ}{ro:ρ}{a:β->ρ}{g:Nat}{d:β->υ->SE}{f:β->υ->an}{b:β}{i:∀p,o=.stop p->p=ro}(u:υ)(is:ar)(h:exQ is id B0.length g (d b u) (f b u) (j7 T n K cf m e L)=some (d b u,f b u)):W (G (.mk P T hT n c B0 N (BkR n c B0 i a g d f id X) Q) K m e L cf) o (some (Step.stop (a b))):=λl=>by
 unfold exQ at h;split at h
 .rename_i j;split at h
  .rename_i k;rw[rR k] at j;exact bk u is l i j h
  .cases h
 .cases h
theorem xY{o:Step σ ρ}{ro:ρ}{a:β->ρ}{g:Nat}{d:β->Unit->SE}{f:β->Unit->an}{b:β}{i:∀p,o=.stop p->p=ro}(is:ar)(h:exQ is id B0.length g (d b ()) (f b ()) (j7 T n K cf m e L)=some (d b (),f b ())):W (G (.mk P T hT n c B0 N (BkR n c B0 i a g d f id X) Q) K m e L cf) o (some (Step.stop (a b))):=bkW () is h
theorem M0{o:Step σ ρ}{p ro:ρ}{F:ρ->Option O}{q:O}(a:∀p,o=.stop p->p=ro)(b:F ro=some q)(k:W C q (F p)):W C o (some (Step.stop p)):=λh=>k (re h rfl a b)
section
variable {b:Bool} {O:Type} {A B':Option O} {q:O}
theorem aV{o:Operand}{x:Code}(a:ar)(d:j7 T n K cf m e L=.cond o b x y K' m' e' L'/\bE (HL e') a=some (a.map λ_=>SV.b b))
  (g:W (G (.mk P T hT n c B0 N X Q) K' m' (ovr true e' a) L' (.c x)) q A) (f:W (G (.mk P T hT n c B0 N X Q) K' m' (ovr false e' a) L' (.c y)) q B'):W (G (.mk P T hT n c B0 N X Q) K m e L cf) q (if b=true then A else B'):=let ⟨h,i⟩:=d;λj=>cs a h i j g f
theorem aX0{o:Operand}{x:Code}(a:ar)(g:j7 T n K cf m e L=.cond o b x y K' m' e' L')(h:bE (HL e') a=some (a.map λ_=>SV.b b))
  (f:b=true->W (G (.mk P T hT n c B0 N X Q) K' m' (ovr true e' a) L' (.c x)) q A) (d:b=false->W (G (.mk P T hT n c B0 N X Q) K' m' (ovr false e' a) L' (.c y)) q B'):W (G (.mk P T hT n c B0 N X Q) K m e L cf) q (if b=true then A else B'):=λi=>csK a g h i f d
theorem eV(a:ar)(d:j7 T n K cf m e L=.case b cf' K' m' e' L'/\bE (HL e') a=some (a.map λ_=>SV.b b))
  (g:W (G (.mk P T hT n c B0 N X Q) K' m' (ovr true e' a) L' cf') q A) (f:W (G (.mk P T hT n c B0 N X Q) K' m' (ovr false e' a) L' cf') q B'):W (G (.mk P T hT n c B0 N X Q) K m e L cf) q (if b=true then A else B'):=let ⟨h,i⟩:=d;λj=>ca a h i j g f
theorem a07(a:ar)(g:j7 T n K cf m e L=.case b cf' K' m' e' L')(h:bE (HL e') a=some (a.map λ_=>SV.b b))
  (f:b=true->W (G (.mk P T hT n c B0 N X Q) K' m' (ovr true e' a) L' cf') q A) (d:b=false->W (G (.mk P T hT n c B0 N X Q) K' m' (ovr false e' a) L' cf') q B'):W (G (.mk P T hT n c B0 N X Q) K m e L cf) q (if b=true then A else B'):=λi=>caK a g h i f d
end
section
variable {O β:Type} {fo:Option O} {kf:O->Option β} {q:β} {d:Nat} {f:FuncId} {xs:aq}
theorem c0{sv:O->SV}(b:j7 T n K cf m e L=.call o (some d) f xs cf1 cf2 K' m' e' L')
  (g:∀{w},HS c w L'->V0 P (fT w) f fo xs sv) (k:∀x,W (G (.mk P T hT n c B0 N X Q) K' m' ((d,sv x)::e') L' cf2) q (kf x)):W (G (.mk P T hT n c B0 N X Q) K m e L cf) q (fo.bind kf):=λi=>cl0 b (λh _ a=>g h _ a) i λx _ h=>k x h
theorem c1{sv:O->ex->SV}{Lf:O->ex->an}(b:j7 T n K cf m e L=.call o (some d) f xs cf1 cf2 K' m' e' L')
  (g:∀{w},HS c w L'->VS P (fT w) f fo xs [] [] sv Lf) (k:∀x,∀y:ex,W (G (.mk P T hT n c B0 N X Q) K' m' ((d,sv x y)::e') (L'++Lf x y) cf2) q (kf x)) (hn:∀x y,noF (Lf x y)=true:=by exact λ_ _=>rfl):W (G (.mk P T hT n c B0 N X Q) K m e L cf) q (fo.bind kf):=λi=>cl b hn (λh _ a=>g h _ a) i λx _ h y=>k x y h
theorem AF{kf:O->Option β}{q:β}{w:aN O}(C:F8 O){d:Nat}{i:Int}{b:List O}(j:j7 T n K cf m e L=.idx o d t s b.length i Lv cf1 cf2 K' m' e' L')(v:bJ c s b)(a:ixT T t (aN.n O)=true)
  (k:∀x,∀y:C.ex,C.sub c.S0 c.w0 x y->W (G (.mk P T hT n c B0 N X Q) K' (m'+1) ((d,.p m' 0)::e') (L'++[.ro m' (C.cs x y)]) (cf2.ext [.ro m' (C.cs x y)])) q (kf x)):W (G (.mk P T hT n c B0 N X Q) K m e L cf) q ((idx b i).bind kf):=λl=>by
 unfold ixT at a;split at a
 .rename_i r;split at a
  .rename_i p;exact ix C j v l r p (rR a) λx _ h y g=>k x y g h
  .cases a
 .cases a
theorem ZD{kf:Int->Option β}{q:β}{d:Nat}{i:Int}{a:al}(g:j7 T n K cf m e L=.idx o d t s a.length i Lv cf1 cf2 K' m' e' L')(h:bJ c s a)(b:ixT T t 1=true)
  (k:∀x,W (G (.mk P T hT n c B0 N X Q) K' (m'+1) ((d,.p m' 0)::e') (L'++[.ro m' [.i .i64 x]]) (cf2.ext [.ro m' [.i .i64 x]])) q (kf x)):W (G (.mk P T hT n c B0 N X Q) K m e L cf) q ((idx a i).bind kf):=AF cI g h b λx _ _=>k x
theorem dE(b:P.follows .mixedOrders=true){ops:bj}{zz:Option β}(is:ar)(a:j7 T n K cf m e L=.rgn id ops K' m' e' L')
  (k:∀{B1},W (G (.mk P T hT n c B0 N X Q) K' m' e' L' (.d B1 ops (List.replicate ops.size false) is (kl L' is) (kl L' is))) q zz) (g:(a0R ops && (okL m' (kl L' is) && (eA is && is.all λj=>Nat.blt j L'.length)))=true:=by kernel_rfl):W (G (.mk P T hT n c B0 N X Q) K m e L cf) q zz:=λh=>dr is a b g λ_=>k h
theorem cH{zz:Option β}(j a:Nat)(k:π->Option β)(b:ar)(g:π->υ->SE)(is:ar)(i:π->υ->an)(s:V6 (j7 T n K cf m e L)=some (K',cf',m',e',L'))
  (r:W (G (.mk P T hT n c B0 (JP n c B0 (λp=>k p=some q) a (λp u=>g p u++kp e' b) (λp u=>i p u++kl L' is)) (XK (.mk P T hT n c B0 N X Q) (K'.drop j)) Q) (K'.take j) m' e' L' cf') q zz)
  (l:∀p u,W (G (.mk P T hT n c B0 N X Q) (K'.drop j) a (g p u++kp e' b) (i p u++kl L' is) .n) q (k p)):W (G (.mk P T hT n c B0 N X Q) K m e L cf) q zz:=λt=>cut j a (λp=>k p=some q) b g is i s (r t) λp u h=>l p u h
theorem dJ{zz:Option β}(j a:Nat)(g:Bool->Option β)(b:ar)(v:Nat)(is:ar)(k:V6 (j7 T n K cf m e L)=some (K',cf',m',e',L'))
  (i:W (G (.mk P T hT n c B0 (JP n c B0 (λp=>g p=some q) a (λp (_:Unit)=>[(v,.b p)]++kp e' b) (λ_ _=>[]++kl L' is)) (XK (.mk P T hT n c B0 N X Q) (K'.drop j)) Q) (K'.take j) m' e' L' cf') q zz)
  (h:∀p,W (G (.mk P T hT n c B0 N X Q) (K'.drop j) a ([(v,.b p)]++kp e' b) ([]++kl L' is) .n) q (g p)):W (G (.mk P T hT n c B0 N X Q) K m e L cf) q zz:=cH j a g b (λp (_:Unit)=>[(v,.b p)]) is (λ_ _=>[]) k i λp _=>h p
theorem D9{γ ω:Type}{w:σ->Option (Step σ ρ)}{s0:σ}{r:ρ->Option β}(i:υ)(j:ar)(el:σ->υ->SE)(g is:ar)(k:σ->υ->an)(a:γ->ρ)(kb:ar)(t:γ->ω->SE)(l:ar)(v:γ->ω->an)
  (A:j7 T n K cf m e L=.loop id y K' m' e' L')
  (H:asT B0.length m' e' L' g m' (el s0 i++kp e' j) (k s0 i++kl L' is)=some (el s0 i++kp e' j,k s0 i++kl L' is))
  (z:∀{ro o},r ro=some q->∀s u,(B:∀p,o=.stop p->p=ro)->W (G (.mk P T hT n c B0 (NxP n c B0 o m' (λs u=>el s u++kp e' j) (λs u=>k s u++kl L' is)) (BkR n c B0 B a m' (λb u=>t b u++kp e' kb) (λb u=>v b u++kl L' l) id (XK (.mk P T hT n c B0 N X Q) K')) Q) [] m' (el s u++kp e' j) (k s u++kl L' is) (.c y)) o (w s))
  (x:∀b u,W (G (.mk P T hT n c B0 N X Q) K' m' (t b u++kp e' kb) (v b u++kl L' l) .n) q (r (a b))):W (G (.mk P T hT n c B0 N X Q) K m e L cf) q ((loop w s0).bind r):=λC=>
 lp i j el g is k a kb t l v A C H (λro F s u o E D=>z F s u D E) λb u h=>x b u h
theorem SW{k:Int->Option (Step Int ρ)}{s0:Int}{j:ρ->Option β}(v:Nat)(b:ar)(is:ar)(a:Unit->ρ)(kb:ar)(g:ar)
  (t:j7 T n K cf m e L=.loop id y K' m' e' L')
  (w:asT B0.length m' e' L' is m' ([(v,.i .i64 s0)]++kp e' b) ([]++kl L' is)=some ([(v,.i .i64 s0)]++kp e' b,[]++kl L' is))
  (r:∀{ro o},j ro=some q->∀s,(i:∀p,o=.stop p->p=ro)->W (G (.mk P T hT n c B0 (NxP n c B0 o m' (λs (_:Unit)=>[(v,.i .i64 s)]++kp e' b) (λ_ _=>[]++kl L' is)) (BkR n c B0 i a m' (λ_ (_:Unit)=>[]++kp e' kb) (λ_ _=>[]++kl L' g) id (XK (.mk P T hT n c B0 N X Q) K')) Q) [] m' ([(v,.i .i64 s)]++kp e' b) ([]++kl L' is) (.c y)) o (k s))
  (l:W (G (.mk P T hT n c B0 N X Q) K' m' ([]++kp e' kb) ([]++kl L' g) .n) q (j (a ()))):W (G (.mk P T hT n c B0 N X Q) K m e L cf) q ((loop k s0).bind j):=D9 () b (λs (_:Unit)=>[(v,.i .i64 s)]) is is (λ_ _=>[]) a kb (λ_ (_:Unit)=>[]) g (λ_ _=>[]) t w (λh s _ i=>r h s i) λ_ _=>l
theorem lrW{k:σ->Option (Step σ ρ)}{s0:σ}{j:ρ->Option β}(g:υ)(h:ar)(el:σ->υ->SE)(a is:ar)(i:σ->υ->an)
  (r:j7 T n K cf m e L=.loop id y K' m' e' L')
  (z:asT B0.length m' e' L' a m' (el s0 g++kp e' h) (i s0 g++kl L' is)=some (el s0 g++kp e' h,i s0 g++kl L' is))
  (l:∀{ro o},j ro=some q->∀s u,(A:∀p,o=.stop p->p=ro)->W (G (.mk P T hT n c B0 (NxP n c B0 o m' (λs u=>el s u++kp e' h) (λs u=>i s u++kl L' is)) (BkP n c B0 ro (λb:Empty=>nomatch b) m' (λ(b:Empty) (_:Unit)=>nomatch b) (λb _=>nomatch b) id (XK (.mk P T hT n c B0 N X Q) K')) Q) [] m' (el s u++kp e' h) (i s u++kl L' is) (.c y)) o (k s)):W (G (.mk P T hT n c B0 N X Q) K m e L cf) q ((loop k s0).bind j):=λt=>
 lr g h el a is i r t z λro x s u o w v=>l x s u v w
theorem fU{kf:O->Option β}{q:β}[aN O](E:CO O)(j:Nat){t:TypeId}{i:Int}{a:List O}(b:j7 T n K cf m e L=.idx o d t s a.length i Lv cf1 cf2 K' m' e' L'/\L'[j]?=some (ow s a)/\gO j cf1.AV=true)
  (k:∀x,idx a i=some x->∀y:E.ex,Shp s a.length->W (G (.mk P T hT n c B0 N X Q) K' (m'+1) e' (L'.set j .no++([.o (qN (s.v a.length) a i.toNat),.box m' (E.cs x y),wOf O m' s a.length i.toNat]++E.Lx x y)) (cf1.ext [wOf O m' s a.length i.toNat])) q (kf x)):W (G (.mk P T hT n c B0 N X Q) K m e L cf) q ((idx a i).bind kf):=let ⟨h,l,g⟩:=b;λp=>oe E j h l g p λx w v y r=>k x w y r v
end
section
variable {O β ex:Type} {fo:Option O} {kf:O->Option β} {q:β} {d:cm} {f:FuncId} {xs xs0:aq} {M:an} {sv:O->ex->SV} {Lr:O->ex->an}
theorem gP(is:ar)
  (a:cpS (j7 T n K cf m e L)=some (o,d,f,xs,cf1,cf2,K',m',e',L')/\bE (λi=>L'[i]?) is=some M/\bE (rnP [] 0) xs=some xs0/\(MN M && (eA is && is.all λj=>gO j cf1.AV))=true)
  (r:∀{κ:Ctx},HG c κ L' is->VS P κ f fo xs0 [] M sv Lr)
  (k:∀x,∀y:ex,W (G (.mk P T hT n c B0 N X Q) K' m' (dse d (sv x y) e') (PN L' is++Lr x y) cf2) q (kf x)) (hn:∀x y,(MN (Lr x y) && CR 0 (sv x y))=true:=by exact λ_ _=>rfl):W (G (.mk P T hT n c B0 N X Q) K m e L cf) q (fo.bind kf):=let ⟨g,p,b,l⟩:=a;λs=>
 cw0 is g p b l hn (λh _ b=>r h _ b) s λx _ h y=>k x y h
theorem cR{c1:aq}{p:O->ex->aq}(a g b l:Nat)(is:ar)
  (r:cpS (j7 T n K cf m e L)=some (o,d,f,xs,cf1,cf2,K',m',e',L')/\aQK L' [(a,g,b,l)]=some [c1]/\bE (λi=>L'[i]?) is=some M/\bE (rnP [(a,g,b,l)] 0) xs=some xs0/\(MN M && ([c1].all (CR.okC 0) && (eA (a::is) && (a::is).all λj=>gO j cf1.AV)))=true)
  (z:∀{κ:Ctx},HG c κ L' (a::is)->∀{C:Nat×Nat},VS P κ f fo xs0 [C] (.box 0 c1::M) sv (λx y=>.box 0 (p x y)::Lr x y))
  (k:∀x,∀y:ex,W (G (.mk P T hT n c B0 N X Q) K' m' (dse d (sv x y) e') (UF L' (PN L' (a::is)++Lr x y) [(a,g,b,l)] [p x y]) cf2) q (kf x)) (hn:∀x y,(aHW [(a,g,b,l)] [p x y] && ([p x y].all (CR.okC 0) && (MN (Lr x y) && CR 0 (sv x y))))=true:=by exact λ_ _=>rfl):W (G (.mk P T hT n c B0 N X Q) K m e L cf) q (fo.bind kf):=let ⟨t,A,w,s,v⟩:=r;λB=>
 cw1 a g b l is t A w s v hn (λh _ _ s=>z h _ s) B λx _ h y=>k x y h
theorem aGP{c1 B:aq}{w v:O->ex->aq}(b r l t:Nat)(a p g s:Nat)(is:ar)
  (z:cpS (j7 T n K cf m e L)=some (o,d,f,xs,cf1,cf2,K',m',e',L')/\aQK L' [(b,r,l,t),(a,p,g,s)]=some [c1,B]/\bE (λi=>L'[i]?) is=some M/\bE (rnP [(b,r,l,t),(a,p,g,s)] 0) xs=some xs0/\(MN M && ([c1,B].all (CR.okC 0) && (eA (b::a::is) && (b::a::is).all λj=>gO j cf1.AV)))=true)
  (F:∀{κ:Ctx},HG c κ L' (b::a::is)->∀{R J:Nat×Nat},VS P κ f fo xs0 [R,J] (.box 0 c1::.box 1 B::M) sv (λx y=>.box 0 (w x y)::.box 1 (v x y)::Lr x y))
  (k:∀x,∀y:ex,W (G (.mk P T hT n c B0 N X Q) K' m' (dse d (sv x y) e') (UF L' (PN L' (b::a::is)++Lr x y) [(b,r,l,t),(a,p,g,s)] [w x y,v x y]) cf2) q (kf x)) (hn:∀x y,(aHW [(b,r,l,t),(a,p,g,s)] [w x y,v x y] && ([w x y,v x y].all (CR.okC 0) && (MN (Lr x y) && CR 0 (sv x y))))=true:=by exact λ_ _=>rfl):W (G (.mk P T hT n c B0 N X Q) K m e L cf) q (fo.bind kf):=let ⟨C,H,E,A,D⟩:=z;λI=>
 cw2 b r l t a p g s is C H E A D hn (λh _ _ _ A=>F h _ A) I λx _ h y=>k x y h
theorem bPO{c1 E:aq}{C B A:O->ex->aq}(g t r z:Nat)(b s p w:Nat)(a n3 l v:Nat)(is:ar)
  (F:cpS (j7 T n K cf m e L)=some (o,d,f,xs,cf1,cf2,K',m',e',L')) (R:aQK L' [(g,t,r,z),(b,s,p,w),(a,n3,l,v)]=some [c1,E,c3]) (I:bE (λi=>L'[i]?) is=some M) (D:bE (rnP [(g,t,r,z),(b,s,p,w),(a,n3,l,v)] 0) xs=some xs0)
  (H:(MN M && ([c1,E,c3].all (CR.okC 0) && (eA (g::b::a::is) && (g::b::a::is).all λj=>gO j cf1.AV)))=true)
  (J:∀{κ:Ctx},HG c κ L' (g::b::a::is)->∀{Y V U:Nat×Nat},VS P κ f fo xs0 [Y,V,U] (.box 0 c1::.box 1 E::.box 2 c3::M) sv (λx y=>.box 0 (C x y)::.box 1 (B x y)::.box 2 (A x y)::Lr x y))
  (k:∀x,∀y:ex,W (G (.mk P T hT n c B0 N X Q) K' m' (dse d (sv x y) e') (UF L' (PN L' (g::b::a::is)++Lr x y) [(g,t,r,z),(b,s,p,w),(a,n3,l,v)] [C x y,B x y,A x y]) cf2) q (kf x)) (hn:∀x y,(aHW [(g,t,r,z),(b,s,p,w),(a,n3,l,v)] [C x y,B x y,A x y] && ([C x y,B x y,A x y].all (CR.okC 0) && (MN (Lr x y) && CR 0 (sv x y))))=true:=by exact λ_ _=>rfl):W (G (.mk P T hT n c B0 N X Q) K m e L cf) q (fo.bind kf):=λS=>
 cw3 g t r z b s p w a n3 l v is F R I D H hn (λh _ _ _ _ D=>J h _ D) S λx _ h y=>k x y h
end
theorem aX1{f:aN O}{C:F8 O}{a:β->SV}{p:O->Option β}(d:∀args w,(callFunc g args).run P w=.ok (.enter g args) w)(hn:∀{κ:Ctx} {x y},C.sub κ.S0 κ.w0 x y->V0 P κ g (p x) [C.sv x y] a):Fu1 P (fT w) C a g [] p:=fu1 d (by intro κ x y h q b;exact hn h _ b)
theorem aUA{s:aN O}{C:F8 O}{b:β->SV}{Bs:Bl}{cs:cn}{p:O->Option β}(j:∀args w,(callFunc g args).run P w=.ok (.enter g args) w)(k:∀a,fN F0 w a->nZ (fT a) a Bs (roL 0 cs))(i:bE (gT Bs) (bCO 0 cs)=some (XP Bs))(hn:∀{a x y},fN F0 w a->C.sub (All a) a x y->VS P (fT a) g (p x) (C.sv x y::bCO 0 cs) Bs (roL 0 cs) (λr (_:Unit)=>b r) (λ_ _=>[]))(d:∀q,CR 0 (b q)=true:=by exact λ_=>rfl):Fu1 P (fT w) C b g (XP Bs) p:=fk1 j k i d (by intro a x y h l q f;exact hn h l _ f)
section
variable {O β:Type} {fo:Option O} {kf:O->Option β} {q:β} {d:Nat} {f g:FuncId} {xs:aq} {sv:O->SV}
theorem aUB{b:Nat}{c1:aq}(is:ar)(l:j7 T n K cf m e L=.callp o (some d) f xs cf1 cf2 K' m' e' L')(r:kl L' is=[.ro b c1])(p:(a0X [(b,c1)] && okA xs.dropLast)=true)(i:xs=xs.dropLast++[.f g [b]])
  (s:∀{w},HS c w L'->∀{j:Nat×Nat},(∀a,fN F0 w a->nZ (fT a) a [j] [.ro 0 c1])->V0 P (fT w) f fo (xs.dropLast++[.k (.func (.func g) #[] (XP [j]).toArray)]) sv)
  (k:∀x,W (G (.mk P T hT n c B0 N X Q) K' m' ((d,sv x)::e') L' cf2) q (kf x)):W (G (.mk P T hT n c B0 N X Q) K m e L cf) q (fo.bind kf):=λt=>
 bPG is l r p i (λh _ v _ i=>s h v _ i) t λx _ h=>k x h
end
end
def pV(y:Nat×Nat):Value:=.pointer (some ⟨y.1,y.2,none⟩)
section
variable {P:Program} {T:TT} {hT:I3 P T} {n:Nat} {c:Ctx} {B0:Bl} {N:Act->World->Prop} {X:Nat->Act->World->Prop} {Q:Act->World->Prop} {K K':a8} {m m':Nat} {e e':SE} {L L':an} {cf cf1 cf2:wJ} {o:Oper}
abbrev VP(P:Program)(c:Ctx)(f:FuncId){ρ:Type}(F:Option ρ)(xs:aq)(cs:ρ->aq):Prop:=VS P c f F xs [] [] (λ_ (y:Nat×Nat)=>.k (pV y)) (λr y=>[.o (XM [y] 0 (cs r))])
theorem rtP{q:Func}{r b:ρ}{l:q.results=[ResultVar.tmp t].toArray}{zz:Option ρ}{cs:ρ->aq}(is:ar)(s:zz=some b)(A:j7 T n K cf m e L=.ret m' e' L')(D:asT 0 m' e' L' is 1 [(t,.p 0 0)] [.box 0 (cs b)]=some ([(t,.p 0 0)],[.box 0 (cs b)]))(M:CR.okC 0 (cs b)=true):W (G (.mk P T hT n c [] N X (QR P q l c [] (λ_ (y:Nat×Nat)=>.k (pV y)) (λr y=>[.o (XM [y] 0 (cs r))]) r)) K m e L cf) r zz:=λE=>by
 subst s;cases E;refine iV (g:=.mk P T hT n c [] N X _) ?_;rw[A];intro a w j;obtain⟨B,C,f,d⟩:=rU.asT j is D;have H:∃y,B=[y]:=by
  cases B with
  |nil=>simp at C
  |cons y B=>grind
 obtain⟨y,rfl⟩:=H;have d:nZ c w [y] [.box 0 (cs r)]:=d;have f:iW n [y] [(t,.p 0 0)] a:=f;have z:aXJ T [(t,.p 0 0)] [.box 0 (cs r)] [ResultVar.tmp t]=some (.p 0 0):=by simp[aXJ,bB1,HL]
 obtain⟨v,p,I⟩:=aPE l hT f d z;have i:v=pV y:=by simp only[gT,gV,cA,List.getElem?_cons_zero] at p;cases p;rfl
 subst i;refine⟨f.d,_,I,y,by grind[gT,gV,cA,Value.oneCell'],?_⟩;obtain⟨⟨R,s1,J⟩,s0⟩:=d;exact⟨⟨R,s1.imp (.cons (λF h=>h) .nil),λx k=>by obtain rfl|k:=qM.1 k<;>first|trivial|simp at k⟩,s0⟩
theorem cP{fo:Option O}{kf:O->Option β}{q:β}{d:Nat}{f:FuncId}{cs:O->aq}(hs:j7 T n K cf m e L=.call o (some d) f xs cf1 cf2 K' m' e' L')
  (hc:∀{w},HS c w L'->VP P (fT w) f fo xs cs) (k:∀x,W (G (.mk P T hT n c B0 N X Q) K' (m'+1) ((d,.p m' 0)::e') (L'++[.box m' (cs x)]) cf2) q (kf x)) (hk:∀x,CR.okC 0 (cs x)=true:=by exact λ_=>rfl):W (G (.mk P T hT n c B0 N X Q) K m e L cf) q (fo.bind kf):=λH=>by
 refine iV (g:=.mk P T hT n c B0 N X Q) ?_;rw[hs];intro M args S ho hd hf ⟨ys,t,A⟩ D J hE;subst A;cases r:fo with
 |none=>grind
 |some x=>
  rw[r] at H;refine hE Unit (λ_=>m'+1) (λ_=>(d,.p m' 0)::e') (λ_=>L'++[.box m' (cs x)]) (λ_=>tV _) (λB a w next Q' hm s E i=>?_) (λ_=>k x H);obtain⟨j,p⟩:=hc ⟨_,E⟩ x r;obtain⟨vs,h1,h2⟩:=aFK s t;obtain⟨v,I,h4⟩:=fL s hf;simp[gT,bE] at I;subst I;have h5:=p vs (aHV D (by rw[US];exact h1)) (a8V w);have h6:=XO (w:=w) j ho h4 h2;unfold Oper.wp;rw[h6 _ a s.env,Oper.upon_enter];refine Calls.mono h5 λen w' ⟨v,Z,y,g1,g2⟩=>?_;subst Z;rw[hd];have C:v=pV y:=by grind[gT,gV,cA]
  subst C;have hb:∀{F:dA},(XM [y] 0 (cs x)).P w' F->(XM ((B0S (.mk P T hT n c B0 N X Q) cf1++B)++[y]) m' (cs x)).P w' F:=λ⟨b,z,U,Y,V,k3⟩=>by
   simp only[List.getElem?_cons_zero,Option.some.injEq] at Y;refine⟨y.1,y.2,U,?_,?_,aj⟩
   .grind
   .simpa using gH (λx v h=>by simpa using iI (B:=[]) (B0S (.mk P T hT n c B0 N X Q) cf1++B++[y]) h) (F7 (hk x) V)
  have g3:gT ((B0S (.mk P T hT n c B0 N X Q) cf1++B)++[y]) (.p m' 0)=some (pV y):=by grind[gT,gV,cA,pV]
  refine i () _ _ ⟨[y],aj,s.ext g3 (s.env.put (by grind[tR,AA]) _),?_⟩;obtain⟨⟨R,s1,s2⟩,s0⟩:=(E.after (L2:=[.o (XM [y] 0 (cs x))]) rfl g2).app [y];refine⟨⟨R,s1.imp ?_,λz l=>?_⟩,s0⟩
  .rw[D1,D1];exact kW.append (kW.refl _) (.cons (λF h=>hb h) .nil)
  .obtain l|l:=j4.1 l
   .grind
   .obtain rfl|l:=qM.1 l<;>first|trivial|simp at l
def bLG(b:Bool)(off sz:Nat)(cs:aq):bz:=match b with
 |true=>some (.g ((cs.drop off).take sz))
 |false=>match cs[off]? with
  |some x=>match x with
   |.g _=>none
   |.t _=>none
   |.f _ _=>none
   |.u=>none
   |y=>some y
  |none=>none
theorem bPP{F0:Option O}{q:O}{ix sz d:Nat}{b:Bool}{k:TK}{z cs:aq}{Fs:Array Field}{F:Field}{x:Operand}{r:SV}{Lv:an}(A:P.underlying t=some (.struct Fs))(E:Fs[ix]?=some F)(D:AY T F.type=some ⟨k,b,sz,z⟩)(U:opS (j7 T n K cf m e L)=some (o,Lv,cf1,cf2,K',m',e',L'))(C:(o.op,o.dst)=(.field t x ix,some d))(S:jS e' x=some (.g cs))(g:bLG b F.offset sz cs=some r)(M:(!b || Nat.ble (F.offset+sz) cs.length)=true)
  (kk:W (G (.mk P T hT n c B0 N X Q) K' m' ((d,r)::e') L' cf2) q F0):W (G (.mk P T hT n c B0 N X Q) K m e L cf) q F0:=λV=>
 pu U (dL Prod.snd C) (λB a w h _=>by
  obtain⟨v,i,H⟩:=fL h S;simp only[gT,gV] at i;split at i
  case h_2=>cases i
  rename_i vs s;cases i;have p:=m0 s;have I:o.op=.field t x ix:=dL Prod.fst C;have f:=hT.agg _ _ D;have j:=hT.size _ _ D;cases b with
  |true=>
   have J:=XC (by simpa using M);simp only[bLG] at g;cases g;refine⟨.agg ((vs.drop F.offset).take sz).toArray,by grind[gT,gV,XL,XJ],λ_ a h=>?_⟩;have e:vs.toArray.extract F.offset (F.offset+sz)=((vs.drop F.offset).take sz).toArray:=ae
   simp[execOp,I,h.eval H,Instr.field,run_underlying A,E,part,asAgg,f,j,e]
  |false=>
   simp only[bLG] at g;split at g
   case h_2=>cases g
   rename_i y R;obtain⟨u,Z,Y⟩:=XI s R;have l:r=y:=aj
   subst l;refine⟨u,a6Q Z,λ_ a h=>?_⟩;simp[execOp,I,h.eval H,Instr.field,run_underlying A,E,part,asAgg,f,Y]) (kk V)
end
section
variable {n:Nat} {c:Ctx} {B0:Bl} {m:Nat} {e:SE} {L:an}
def kf(L xs:an)(k:Nat):ar->an
 |[]=>[]
 |i::is=>match Nat.blt i k with
  |true=>match L[i]? with
   |some x=>x::kf L xs k is
   |none=>kf L xs k is
  |false=>match xs[i-k]? with
   |some x=>x::kf L xs k is
   |none=>kf L xs k is
end
section
variable {P:Program} {T:TT} {hT:I3 P T} {n:Nat} {c:Ctx} {B0:Bl} {N:Act->World->Prop} {X:Nat->Act->World->Prop} {Q:Act->World->Prop} {K K':a8} {m m':Nat} {e e':SE} {L L' Lv:an} {cf cf' cf1 cf2:wJ} {o:Oper}
theorem a08{O β:Type}{f:O->Option β}:∀{xs a:List O} {vs:List β},bE f (xs++a)=some vs->∃d b,bE f xs=some d/\bE f a=some b/\vs=d++b
 |[],a,vs,h=>⟨[],vs,rfl,h,rfl⟩
 |x::xs,a,vs,h=>by
  simp only[aCN,bE] at h;split at h
  .cases h
  .rename_i k;split at h
   .cases h
   .rename_i g;cases h;obtain⟨d,b,j,i,rfl⟩:=a08 g;grind[bE]
theorem a09{O β:Type}{f:O->Option β}:∀{xs b:List O} {v1 v2:List β},bE f xs=some v1->bE f b=some v2->bE f (xs++b)=some (v1++v2)
 |[],b,v1,v2,a,d=>by cases a;exact d
 |x::xs,b,v1,v2,a,d=>by
  simp only[bE] at a;split at a
  .cases a
  .rename_i h;split at a
   .cases a
   .rename_i g;cases a;simp[bE,h,a09 g d]
theorem bPQ{E:aN O}{C:F8 O}{d:β->SV}{b:Nat×Nat}{c1:aq}{p:O->Option β}(s:∀args w,(callFunc g args).run P w=.ok (.enter g args) w)(t:∀a,fN κ.W κ.w0 a->nZ (fT a) a [b] [.ro 0 c1])
  (hn:∀{a x y},C.sub (All a) a x y->VS P (fT a) g (p x) [C.sv x y,.p 0 0] [b] [.ro 0 c1] (λr (_:Unit)=>d r) (λ_ _=>[])) (F:∀q,CR 0 (d q)=true:=by exact λ_=>rfl):Fu1 P κ C d g (XP [b]) p:=
 ⟨s,λa l x y i q k v j=>by
  have f:gT [b] (C.sv x y)=some v:=by simpa using AE (B:=[]) [b] j
  have G:gT [b] (.p 0 0)=some (.pointer (some ⟨b.1,b.2,none⟩)):=by simp[gT,gV,cA]
  refine Calls.mono ((hn i _ k).run (v::XP [b]) (by grind[bE,XP]) (t a l)) λen w' ⟨h,A,D,H,z⟩=>⟨h,A,?_,?_⟩
  .grind[aWH]
  .simpa using aHS (m:=0) z rfl⟩
theorem bPR{fo:Option O}{kf:O->Option β}{q:β}{d:cm}{f:FuncId}{xs0:aq}{M:an}{sv:O->ex->SV}{Lr:O->ex->an}{n1:Nat}{c1:aq}(jc:Nat)(is:ar)
  (hs:cpS (j7 T n K cf m e L)=some (o,d,f,xs,cf1,cf2,K',m',e',L')) (hro:L'[jc]?=some (.ro n1 c1)) (Z:bE (λi=>L'[i]?) is=some M) (hxl:xs=xs.dropLast++[.f g [n1]]) (D:bE (rnP [] 0) xs.dropLast=some xs0)
  (hk:(CR.okC 0 c1 && (MN M && (eA is && is.all λj=>gO j cf1.AV)))=true)
  (hc:∀{κ:Ctx},HG c κ L' is->∀{b1:Nat×Nat},(∀w1,fN κ.W κ.w0 w1->nZ (fT w1) w1 [b1] [.ro 0 c1])->VS P κ f fo (xs0++[.k (.func (.func g) #[] (XP [b1]).toArray)]) [] M sv Lr)
  (k:∀x,∀y:ex,W (G (.mk P T hT n c B0 N X Q) K' m' (dse d (sv x y) e') (PN L' is++Lr x y) cf2) q (kf x)) (hn:∀x y,(MN (Lr x y) && CR 0 (sv x y))=true:=by exact λ_ _=>rfl):W (G (.mk P T hT n c B0 N X Q) K m e L cf) q (fo.bind kf):=λhF=>by
 refine iV (g:=.mk P T hT n c B0 N X Q) (bCZ hs ?_);intro fo' args ats ho hd hf ⟨ys,hys,hxs⟩ hdn hE;simp only[ET] at hk hn;obtain⟨hk1,J,hka,hkz⟩:=hk;cases S:fo with
 |none=>grind
 |some x=>
  rw[S] at hF;refine hE ex (λ_=>m') (λy=>dse d (sv x y) e') (λy=>PN L' is++Lr x y) (λy=>ZB _ hkz) (λB a w next Q' hm E A l=>?_) (λy=>k x y hF);generalize hBB:B0S (.mk P T hT n c B0 N X Q) cf1++B=C at hm E A l;obtain⟨⟨R,s1,s2⟩,s0⟩:=A;have f1:=s1.front is hka;rw[UU Z] at f1;obtain⟨κ,k1,k2,k3,k4,k5,k6,k7⟩:=f1.bJO s0;subst k1;have hHG:HG c κ L' is:=by
   refine⟨λ{O} _ {s d} h=>k4 (fRd [s.v d.length] d) h,λ{O} _ {s d} i Z hj=>?_,λ{O} _ {s d} i Z=>k5 _ (s2 _ (O1 Z))⟩;have:(blank (L'.map (lS C)) is)[i]?=some (dF [s.v d.length] d):=by rw[aJ7 (aKD hj),D0,Z];rfl
   exact k6 _ (O1 this) (fRd [s.v d.length] d) λw F h=>aN.own_rd h
  obtain⟨b,z,p,g1,g2,g3⟩:=s2 _ (O1 hro);have U:=F7 hk1 g2;rw[List.take_zero] at U;have hB:∀w1,fN κ.W κ.w0 w1->nZ (fT w1) w1 [(b,z)] [.ro 0 c1]:=λw1 I=>by have h1:=k5 _ g3;have h2:(fAt b z p).P κ.S0 w1:=(fAt b z p).agree h1 λb' Y A=>I.cell b' Y (k2 b' Y A) λhw=>k3.apart b' Y hw A;have h3:(fAt b z p).P (All w1) w1:=(fAt b z p).mono h2 λb' Y A=>SS (k2 b' Y A) I.size;have h4:St (fT w1) w1 [] [fAt b z p]:=St.enter aj;refine⟨⟨[fAt b z p],St.more (ch:=QY) h4 (fN.refl _ _) ⟨F0,λ_ _ h=>h,λ_ _ h=>h.elim⟩,λx D=>?_⟩,λ_ _ h=>h⟩;simp at D;subst D;exact⟨b,z,p,ae,gH (λx v h=>by simpa using iI (B:=[]) _ h) U,ae⟩
  obtain⟨r,H⟩:=hc hHG hB x S;obtain⟨vs,h1,h2⟩:=aFK E hys;obtain⟨v,h3,h4⟩:=fL E hf;simp[gT,bE] at h3;subst h3;have V:bE (gT C) xs=some vs:=by grind[US]
  have hvs:bE (gT []) (xs0++[.k (.func (.func g) #[] (XP [(b,z)]).toArray)])=some vs:=by rw[hxl] at V;obtain⟨va,vb,q1,q2,rfl⟩:=a08 V;have q3:=aXX (Bs:=[]) (ps:=[]) (ds:=[]) (pv:=[]) (L:=L') (B:=C) trivial (λi=>by simp[blP]) D q1;simp only[bE,gT,gV,aCD,g1] at q2;cases q2;exact a09 q3 (by simp[bE,gT,gV,cA,XP];rfl)
  have hst:nZ κ κ.w0 [] M:=by
   refine⟨⟨[],?_,λx D=>?_⟩,k2⟩
   .rw[aCS (B':=C) J];exact k3
   .exact aCT J x D
  have h5:=H vs hvs hst;have h6:=XO (w:=κ.w0) r ho h4 h2;unfold Oper.wp;rw[h6 _ a E.env,Oper.upon_enter];refine Calls.mono h5 λen w' ⟨v,hv,y,g1,g2⟩=>?_;subst hv;obtain⟨n3,n4⟩:=hn x y;have g3:=AE C (aWH n4 g1);rw[aHI] at g3;obtain⟨⟨R',t1,t2⟩,t0⟩:=g2;have t3:St κ w' ((Lr x y).map (lS C)) R':=by grind[aCS]
  have t4:=k7 w' _ R' t3;have t6:nZ c w' C (PN L' is++Lr x y):=by
   refine⟨⟨R,?_,λz t=>?_⟩,s0⟩
   .rw[D1,NO];exact t4.rot
   .obtain t|t:=j4.1 t
    .obtain t|t:=UT _ _ t
     .grind
     .subst t;trivial
    grind[aCT]
  rw[hd];cases d with
  |none=>exact l y _ _ ⟨[],aj,by grind[dse,Act.put],aj⟩
  |some d=>exact l y _ _ ⟨[],aj,by simpa[dse] using E.of g3 (E.env.put (by grind[tR,AA]) v),aj⟩
theorem paW{p:Prop}[Decidable p]{v:O}{F:Option β}{q:β}{sv:O->SV}{d:Nat}{f:FuncId}(j:j7 T n K cf m e L=.call o (some d) f xs cf1 cf2 K' m' e' L')
  (l:∀{w},HS c w L'->V0 P (fT w) f (need p (some v)) xs sv) (k:p->W (G (.mk P T hT n c B0 N X Q) K' m' ((d,sv v)::e') L' cf2) q F):W (G (.mk P T hT n c B0 N X Q) K m e L cf) q (need p F):=λb=>by
 obtain⟨g,b⟩:=mZ b;have i:need p (some v)=some v:=by simp[need,g]
 exact cl0 (fo:=need p (some v)) (kf:=λ_=>F) j (λh _ a=>l h _ a) (by rw[i];exact b) (λx a h=>by rw[i] at a;cases a;exact k g h)
theorem a83{j:Int}{n:Nat}(h:0<=j/\j<=(n:Int)):0<=j.toNat/\j.toNat<=n:=aa
end
def I4(l:al):al:=l.foldl (λa x=>if a.getLast?=some x then a else a++[x]) []
theorem aKF(l:al)(x:Int):I4 (l++[x])=if(I4 l).getLast?=some x then I4 l else I4 l++[x]:=by grind[I4]
def a84:∀(l:al),(I4 l).getLast?=l.getLast?:=by
 intro l;obtain rfl|⟨l,x,rfl⟩:=aV3 l
 .rfl
 grind[aKF]
theorem bHT(l:al):(I4 l).length<=l.length:=by
 suffices h:∀(l a:al),(l.foldl (λa x=>if a.getLast?=some x then a else a++[x]) a).length<=a.length+l.length by have:=h l [];rw[List.length_nil,aAQ] at this;exact this
 intro l;induction l with
 |nil=>simp
 |cons x l b=>
  grind
def slices_Compact_int(s:al):ck:=some (I4 s)
theorem a7L(l:al):Lib.compact l=I4 l:=by
 have h:∀m,m<=l.length->Lib.compactUpTo l.toArray m=I4 (l.take m):=by
  intro m;induction m with
  |zero=>intro _;rfl
  |succ m c=>
   intro d;have a:m<l.length:=d;rw[Lib.compactUpTo_succ,c aa,UR a,aKF,a84];have f:l.toArray[m]! = l[m]:=by simp[a]
   have b:(Lib.keeps l.toArray m=true)↔¬(l.take m).getLast?=some l[m]:=by
    cases m with
    |zero=>simp[Lib.keeps]
    |succ k=>
     have e:l.toArray[k]! = l[k]:=aj
     rw[UR (by omega:k<l.length),List.getLast?_concat];simp only[Lib.keeps,decide_eq_true_eq,f,Nat.add_sub_cancel,e];grind
   grind
 have:=h l.length (jR _);rw[List.take_length] at this;exact this
open Go.Sort in
def a1A{b off q:Nat}{g d:Array Int}(p:Holds (Value.int .i64) w b off g)(l:d.size=g.size):fN (fQ b off d.size) w (putRow (Value.int .i64) (Sort.ahead w q) b off d):=by
 have m:∀a o,a<w.heap.size->¬fQ b off d.size a o->(putRow (Value.int .i64) (Sort.ahead w q) b off d).cell? ⟨a,o,none⟩=w.cell? ⟨a,o,none⟩:=λa o _ f=>by
  rw[cell?_putRow_other _ _ _ _ _ _ (by
   by_cases e:a=b
   .right;by_cases n:o<off
    .grind
    .right;by_cases i:o<off+d.size
     .exact absurd ⟨e,aa,i⟩ f
     grind
   grind)]
  rfl
 refine⟨rfl,rfl,rfl,ae,λa r f=>?_,m,λa o _=>ae,λa o h=>?_⟩
 .show(w.heap.modify b _)[a]? = _;rw[Array.getElem?_modify];split
  .rename_i e;subst e;have j:d.size=0:=by
    obtain h|h:=Nat.eq_zero_or_pos d.size
    .exact h
    .exact absurd ⟨rfl,jR _,aa⟩ (f off)
   cases hh:w.heap[b]? with
   |none=>rfl
   |some o=>
    cases o with
    |cells c e fr=>
     simp only[Option.map_some,onCells];have:putCells (Value.int .i64) off d c=c:=by apply Array.ext_getElem?;intro k;simp only[putCells,Array.getElem?_mapIdx,j];grind
     rw[this]
    |_=>rfl
  .rfl
 .by_cases f:fQ b off d.size a o
  .obtain⟨rfl,n,i⟩:=f;have:=cell?_putRow (Value.int .i64) (Sort.ahead w q) a off g d p l (o-off) aa;grind
  grind[lF]
open Go.Proofs in
def bPS{ρ:_}(Ly:Lays2.n20 P ρ)(l:∀args w,(callFunc (ρ.f 20) args).run P w=.ok (.enter (ρ.f 20) args) w){s:al}{G:AC}:VS P κ (ρ.f 20) (slices_Compact_int s) [.h G s.length] [] [ow G s] (λr (y:AC)=>.h y r.length) (λr y=>[ow y r]):=λr hr=>by
 cases hr;refine⟨l,λvs Z hS=>?_⟩;simp[bE,gT,gV,cA] at Z;subst Z;obtain⟨⟨R,S,h2⟩,h0⟩:=hS;have S:St κ κ.w0 [dF [G.v s.length] s] R:=by grind[lS]
 obtain⟨F,Q⟩:=S.chunk 0 rfl;have Q:aN.own κ.w0 [G.v s.length] s F:=Q;obtain⟨a,cp,he,B,A,k⟩:=(show O3 κ.w0 _ s F from Q);obtain⟨sa,E⟩:=G;simp only[AC.v,List.cons.injEq,Value.slice.injEq,and_true,true_and] at he;obtain⟨rfl,rfl⟩:=he;obtain⟨rfl,rfl,hno⟩|⟨b,off,Fs,rfl,n,J,hdj,hdr,hFF⟩:=k
 .have hs:s=[]:=AX aa;subst hs;refine(Any.slices_Compact_int_empty Ly none 0 κ.w0).mono ?_;rintro e w' ⟨rfl,rfl⟩;exact⟨_,rfl,⟨none,0⟩,by grind[gT,gV,cA,I4],⟨R,by grind[I4],λx Y=>by simp at Y;subst Y;trivial⟩,h0⟩
 .have K:aN.n Int=1:=rfl;have O:Sort.Holds (Value.int .i64) κ.w0 b off s.toArray:=λj L=>by
   have I:j<s.length:=aa
   obtain⟨ec,c1,T⟩:=J j I;have c3:ec=[Value.int .i64 s[j]]:=(show _=_/\_ from T).1;have:=c1 0 (.int .i64 s[j]) (by rw[c3];rfl);rw[K,Nat.mul_one,aFJ] at this;refine⟨aj,(n (off+j) ⟨rfl,aa,aj⟩).2⟩
  have p:(Lib.compact s).length<=s.length:=by grind[a7L,bHT]
  refine(Any.slices_Compact_int Ly b off E s κ.w0 O (wI B (wI A ai)) B).mono ?_;rintro e w' ⟨rfl,q,rfl⟩;rw[a7L] at p ⊢;have z:(I4 s++List.replicate (s.length-(I4 s).length) 0).toArray.size=s.toArray.size:=ah
  have hsa:s.toArray.size=s.length:=ae
  have N:=a1A (q:=q) O z;refine⟨_,rfl,⟨some ⟨b,off,none⟩,E⟩,by grind[gT,gV,cA],⟨R,?_,by simp[roF]⟩,h0⟩;have:=S.aHK (w':=Sort.putRow (Value.int .i64) (Sort.ahead κ.w0 q) b off (I4 s++List.replicate (s.length-(I4 s).length) 0).toArray) (ch':=dF [(⟨some ⟨b,off,none⟩,E⟩ : AC).v (I4 s).length] (I4 s)) 0 rfl λF2 m=>by
   have m:aN.own κ.w0 [_] s F2:=m;obtain⟨a',cp',C,_,_,c⟩:=(show O3 κ.w0 _ s F2 from m);simp only[AC.v,List.cons.injEq,Value.slice.injEq,and_true,true_and] at C;obtain⟨rfl,rfl⟩:=C;obtain⟨h,_⟩|⟨d,U,D,h,g,t,X,W,f⟩:=c
   .cases h
   .cases h;have V:∀i (M:i<s.length) d o,¬D i d o:=λi M d o h=>by obtain⟨ec,_,T⟩:=t i M;exact(show _/\∀b o,¬D i b o from T).2 d o h
    refine⟨fQ b off (E*1),fQ b off (I4 s++List.replicate (s.length-(I4 s).length) 0).toArray.size,N,λd o h=>(f d o).2 (.inl ?_),?_,λd o h=>.inl ((f d o).2 (.inl h))⟩
    .obtain⟨h3,h4,h5⟩:=h;exact⟨h3,h4,aj⟩
    .refine⟨_,E,rfl,aa,A,.inr ⟨b,off,λ_=>F0,rfl,λo ho=>?_,λi M=>?_,λ_ _ _ _ _ _ _ h _=>h,λ_ _ _ _ h _=>h,λd o=>by simp[F0,K]⟩⟩
     .have:=g o ho;exact⟨N.stay b o this.1,(N.AV b o (lF this.1)).trans this.2⟩
     .refine⟨[.int .i64 (I4 s)[i]],λj v L=>?_,rfl,λ_ _ h=>h⟩;have H:j=0:=aj
      subst H;simp at L;subst L;rw[K,Nat.mul_one,aFJ];have:=Sort.cell?_putRow (Value.int .i64) (Sort.ahead κ.w0 q) b off s.toArray (I4 s++List.replicate (s.length-(I4 s).length) 0).toArray O z i aa;grind
  grind[lS]
theorem fkP{s:aN O}{C:F8 O}{b:β->SV}{Bs:Bl}{L0:an}{cap:ao}{p:O->Option β}(j:∀args w,(callFunc g args).run P w=.ok (.enter g args) w)(k:∀a,fN F0 w a->nZ (fT a) a Bs L0)(z:bE (gT Bs) xs=some cap)
  (hn:∀{a x y},fN F0 w a->C.sub (All a) a x y->VS P (fT a) g (p x) (C.sv x y::xs) Bs L0 (λr (_:Unit)=>b r) (λ_ _=>[])) (t:∀q,CR 0 (b q)=true:=by exact λ_=>rfl):Fu1 P (fT w) C b g cap p:=
 ⟨j,λa c x y f q i v h=>by
  have d:gT Bs (C.sv x y)=some v:=by simpa using AE (B:=[]) Bs h
  refine Calls.mono ((hn c f q i).run (v::cap) (by grind[bE]) (k a c)) λen w' ⟨e,n,o,A,l⟩=>⟨e,n,?_,?_⟩
  .grind[aWH]
  .simpa using aHS (m:=0) l rfl⟩
def bHU{c:Ctx}{B:Bl}{L:an}{r q:Nat}{c1:aq}{C A:Nat×Nat}(K:nZ c w B L)(Q:Ch.ro r c1∈L)(P:Ch.ro q [.p n3 0]∈L)(O:Ch.ro n3 c3∈L)(F:CR.okC 0 c1=true)(E:CR.okC 0 c3=true)(T:B[r]?=some C)(S:B[q]?=some A) :
  ∃V:Nat×Nat,∀w1,fN F0 w w1->nZ (fT w1) w1 [C,A,V] [.ro 0 c1,.ro 1 [.p 2 0],.ro 2 c3]:=by
 obtain⟨⟨R,s1,n⟩,s0⟩:=K;obtain⟨j,e,m,z,H,Z⟩:=n _ Q;obtain⟨g,d,W,y,s,Y⟩:=n _ P;obtain⟨b,a,l,U,G,X⟩:=n _ O;rw[T] at z;cases z;rw[S] at y;cases y;simp only[bE,cA,U] at s;cases s;have p:=F7 F H;have o:=F7 E G;rw[List.take_zero] at p o;refine⟨(b,a),λw1 k=>?_⟩;have D:∀f∈R,f.P (All w1) w1:=λf J=>by obtain⟨i,I⟩:=aLY J;exact bJF (s1.fact i I) k
 refine⟨⟨[fAt j e m,fAt g d [.pointer (some ⟨b,a+0,none⟩)],fAt b a l],?_,?_⟩,λ_ _ h=>h⟩
 .have N:St (fT w1) w1 [] [fAt j e m,fAt g d [.pointer (some ⟨b,a+0,none⟩)],fAt b a l]:=St.enter (by
   grind)
  have more:∀{M:bc} {R:bn},St (fT w1) w1 M R->St (fT w1) w1 (M++[QY]) R:=λh=>St.more (ch:=QY) h (fN.refl _ _) ⟨F0,λ_ _ h=>h,λ_ _ h=>h.elim⟩;exact more (more (more N))
 .intro x t;simp only[qM,bAW,or_false] at t;obtain rfl|rfl|rfl:=t
  .exact⟨j,e,m,rfl,gH (λx v h=>by simpa using iI (B:=[]) [(j,e),(g,d),(b,a)] h) p,ae⟩
  .exact⟨g,d,_,rfl,rfl,ae⟩
  .exact⟨b,a,l,rfl,gH (λx v h=>by simpa using iI (B:=[]) [(j,e),(g,d),(b,a)] h) o,ae⟩
section
variable {P:Program} {T:TT} {hT:I3 P T} {n:Nat} {c:Ctx} {B0:Bl} {N:Act->World->Prop} {X:Nat->Act->World->Prop} {Q:Act->World->Prop} {K K':a8} {m m':Nat} {e e':SE} {L L':an} {cf cf1 cf2:wJ} {o:Oper} {Lv:an} {d:Nat}
theorem bPT{fo:Option O}{kf:O->Option β}{q:β}{f:FuncId}{sv:O->SV}{z:Nat}{c1:aq}(is:ar)(hs:j7 T n K cf m e L=.callp o (some d) f xs cf1 cf2 K' m' e' L')(hk:kl (shr [n3] L') is=[.ro z c1,.ro t [.p n3 0],.ro n3 c3])(E:((CR.okC 0 c1 && CR.okC 0 c3) && okA xs.dropLast)=true)(hx:xs=xs.dropLast++[.f g [z,t]])
  (hc:∀{w},HS c w L'->∀{S R M:Nat×Nat},(∀w1,fN F0 w w1->nZ (fT w1) w1 [S,R,M] [.ro 0 c1,.ro 1 [.p 2 0],.ro 2 c3])->∀{x},fo=some x->Fn0 P f (fT w) (xs.dropLast++[.k (.func (.func g) #[] (XP [S,R]).toArray)]) sv x) (hF:fo.bind kf=some q)
  (k:∀x,fo=some x->kf x=some q->G (.mk P T hT n c B0 N X Q) K' m' ((d,sv x)::e') L' cf2):G (.mk P T hT n c B0 N X Q) K m e L cf:=by
 refine iV (g:=.mk P T hT n c B0 N X Q) ?_;rw[hs];intro fo' args ats Z hd hf ⟨ys,U,V⟩ hdn hE;rw[ET] at E;cases s:fo with
 |none=>grind
 |some x=>
  rw[s] at hF;refine hE Unit (λ_=>m') (λ_=>(d,sv x)::e') (λ_=>L') (λ_=>by simpa using tV (L:=L') []) (λB a w next Q' hm F hS p=>?_) (λ_=>k x s hF);obtain⟨vs,h1,h2⟩:=aFK F U;obtain⟨v,h3,h4⟩:=fL F hf;simp[gT,bE] at h3;subst h3;rw[<-US,V] at h1;rw[hx] at h1;have split:∀{j:aq} {b:SV} {vs:ao} {B:Bl},bE (gT B) (j++[b])=some vs->∃l v,bE (gT B) j=some l/\gT B b=some v/\vs=l++[v]:=by
   intro j;induction j with
   |nil=>
    grind[bE]
   |cons a j ih=>
    intro b vs B h;simp only[aCN,bE] at h;grind[bE]
  obtain⟨l,fv,g1,H,rfl⟩:=split h1;simp only[gT] at H;split at H
  .rename_i cap D;cases H;obtain⟨Bs,S,R,M⟩:=bCP (cs:=[(z,c1),(t,[.p n3 0])]) D;subst S;obtain⟨J,I,rfl⟩:∃J I,Bs=[J,I]:=by
    match Bs,R with
    |[J,I],_=>simp
   have i:∀x∈[Ch.ro z c1,.ro t [.p n3 0],.ro n3 c3],x∈shr [n3] L':=λx hx=>aQC (is:=is) aj;rw[ET] at E;obtain⟨q1,y1,y2⟩:=M 0 z c1 rfl;obtain⟨q2,y3,y4⟩:=M 1 t _ rfl;simp at y1 y3;subst y1 y3;obtain⟨d3,Y⟩:=bHU (n3:=n3) (c1:=c1) (c3:=c3) (aXR [n3] [] L' hS) (i (.ro z c1) ae) (i (.ro t [.p n3 0]) ae) (i (.ro n3 c3) ae) E.1.1 E.1.2 y2 y4;obtain⟨r,C⟩:=hc ⟨_,hS⟩ Y s;have A:∀{j:aq} {l:ao} {b:SV} {v:Value},bE (gT []) j=some l->gT [] b=some v->bE (gT []) (j++[b])=some (l++[v]):=by
    intro j;induction j with
    |nil=>grind[bE]
    |cons a j ih=>
     intro l b v h hb;simp only[bE] at h;split at h
     .cases h
     .rename_i u hu;split at h
      .cases h
      .rename_i us' W;cases h;simp[bE,hu,ih W hb]
   have h5:=C (l++[.func (.func g) #[] (XP [J,I]).toArray]) (A (aHV E.2 g1) (by simp[gT,gV,cA,Value.oneCell'])) (a8V w);have h6:=XO (w:=w) r Z h4 h2;unfold Oper.wp;rw[h6 _ a F.env,Oper.upon_enter];refine Calls.mono h5 λen w' ⟨v,hv,y,e1,e2⟩=>?_;subst hv;rw[hd];have g3:=AE (B0S (.mk P T hT n c B0 N X Q) cf1++B) e1;exact p () _ _ ⟨[],aj,by simpa using F.of aj (F.env.put (by grind[tR,AA]) v),by simpa using hS.after (L2:=[]) rfl e2⟩
  .cases H
theorem clP{fo:Option O}{kf:O->Option β}{q:β}{f:FuncId}{sv:O->SV}{j i:Nat}{c1:aq}(is:ar)(r:j7 T n K cf m e L=.callp o (some d) f xs cf1 cf2 K' m' e' L')(t:kl (shr [n3] L') is=[.ro j c1,.ro i [.p n3 0],.ro n3 c3])(s:((CR.okC 0 c1 && CR.okC 0 c3) && okA xs.dropLast)=true)(b:xs=xs.dropLast++[.f g [j,i]])
  (v:∀{w},HS c w L'->∀{p l A:Nat×Nat},(∀a,fN F0 w a->nZ (fT a) a [p,l,A] [.ro 0 c1,.ro 1 [.p 2 0],.ro 2 c3])->V0 P (fT w) f fo (xs.dropLast++[.k (.func (.func g) #[] (XP [p,l]).toArray)]) sv)
  (k:∀x,W (G (.mk P T hT n c B0 N X Q) K' m' ((d,sv x)::e') L' cf2) q (kf x)):W (G (.mk P T hT n c B0 N X Q) K m e L cf) q (fo.bind kf):=λy=>
 bPT is r t s b (λh _ _ _ z _ b=>v h z _ b) y λx _ h=>k x h
def noD:wJ->Bool
 |.d _ _ _ _ _ _=>false
 |.o _ _ _ _ _ _ _=>false
 |_=>true
theorem shS(b:ar){cf':wJ}(g:V6 (j7 T n K cf m e L)=some (K',cf',m',e',L'))(f:noD cf'=true)(k:G (.mk P T hT n c B0 N X Q) K' m' e' (shr b L') cf'):G (.mk P T hT n c B0 N X Q) K m e L cf:=by
 refine go g (chg (λ_:Unit=>m') (λ_=>e') (λ_=>shr b L') (λB a w i j h=>⟨(),[],aj,aj,by simpa using aXR b [] L' h⟩) (λ_=>?_) (λ_=>k));cases cf' with
 |d _ _ _ _ _ _=>cases f
 |o _ _ _ _ _ _ _=>cases f
 |_=>trivial
end
abbrev R2:=Raw×Raw
variable{us:List R2}
def prs:ao->List R2
 |a::b::r=>(⟨a⟩,⟨b⟩)::prs r
 |_=>[]
def ZE:∀{n:Nat} {cs:ao},cs.length=n*2->(prs cs).length=n
 |0,cs,h=>by have:cs=[]:=AX aa;rw[this];rfl
 |n + 1,cs,h=>by
  match cs,h with
  |a::b::r,h=>simp only[prs,UQ] at *;rw[ZE (n:=n) aa]
  |[_],h=>grind
  |[],h=>simp at h
def aPK:∀{n:Nat} {cs ds:ao},cs.length=n*2->prs (cs++ds)=prs cs++prs ds
 |0,cs,ds,h=>by have:cs=[]:=AX aa;rw[this];rfl
 |n + 1,cs,ds,h=>by
  match cs,h with
  |a::b::r,h=>simp only[prs,aCN,UQ] at *;rw[aPK (n:=n) aa]
  |[_],h=>grind
  |[],h=>simp at h
def a7M{a b:Value}(d:a.oneCell'=true)(c:b.oneCell'=true):aN.own w [a,b] ((⟨a⟩,⟨b⟩):R2) F0:=⟨[a],[b],F0,F0,rfl,⟨⟨rfl,d⟩,λ_ _ h=>h⟩,⟨⟨rfl,c⟩,λ_ _ h=>h⟩,λ_ _ h=>h.elim,λ_ _=>by simp[F0]⟩
def bHV{cs:ao}{u:R2}(h:aN.own w cs u F):cs=[u.1.v,u.2.v]/\∀b o,¬F b o:=by obtain⟨c1,f,i,g,e,c,a,_,d⟩:=h;refine⟨by rw[e,c.1.1,a.1.1];rfl,λb o p=>((d b o).1 p).elim (c.2 b o) (a.2 b o)⟩
section
variable {O:Type} [aN O] (hn:aN.n O=2) {w:World}
include hn
theorem a7N:∀{l:List O} {cs:ao} {F:dA},dQ w cs l F->dQ w cs (prs cs) F0
 |[],cs,F,h=>by rw[h.1];exact⟨rfl,λ_ _ h=>h⟩
 |x::r,cs,F,⟨c1,d,j,i,e,b,c,f,g⟩=>by
  have a:=aN.nY (aN.own_rd b);have o:=aN.rd_one (aN.own_rd b);rw[hn] at a
  match c1,a,o with
  |[u,v],_,o=>
   subst e;exact⟨[u,v],d,F0,F0,rfl,a7M (o u ae) (o v ae),a7N c,λ_ _ h=>h.elim,λ_ _=>by simp[F0]⟩
theorem aX2{l:List O}{cs:ao}(h:dQ w cs l F):cs.length=l.length*2:=by rw[h.length,hn]
omit hn in
theorem aWJ:∀{us:List R2} {cs:ao} {F:dA},dQ w cs us F->us=prs cs/\∀b o,¬F b o
 |[],cs,F,h=>by rw[h.1];exact⟨rfl,h.2⟩
 |u::r,cs,F,⟨c1,l,n,m,e,c,a,d,f⟩=>by obtain⟨k,i⟩:=bHV c;obtain⟨j,g⟩:=aWJ a;simp_all[prs]
theorem bDC{s:Value}{l:List O}{cs:ao}{G Fe:dA}(h:aN.own w [s] us G)(v:dQ w cs l Fe)(F:us=prs cs)(J:G.I9 Fe):aN.own w [s] l (λb o=>G b o\/Fe b o):=by
 have m:=aX2 hn v;have A:=ZE m;rw[<-F] at A;obtain⟨a,c,e,T,M,L⟩:=nN.1 h;refine nN.2 ⟨a,c,by rw[e,A],aa,M,?_⟩;obtain⟨rfl,rfl,k⟩|⟨b,off,z,V,rfl,H,K,g,C,t⟩:=L
 .have I:l=[]:=AX aa;subst I;exact .inl ⟨rfl,rfl,λb o p=>p.elim (k b o) (v.2 b o)⟩
 .obtain⟨Q,E⟩:=aWJ g;have D:z.length=us.length*2:=g.length;have N:z=cs:=by
   have S:∀{n:Nat} {x y:ao},x.length=n*2->y.length=n*2->prs x=prs y->x=y:=by
    intro n;induction n with
    |zero=>simp
    |succ n R=>
     intro x y j i f
     match x,y,j,i,f with
     |a::b::r,U::d::P,j,i,f=>
      grind[prs]
     |[],_,j,_,_=>simp at j
     |[_],_,j,_,_=>grind
     |_::_::_,[],_,i,_=>simp at i
     |_::_::_,[_],_,i,_=>grind
   grind
  subst N;have B:∀d o,G d o↔fQ b off (c*2) d o:=λd o=>by rw[t];exact⟨λq=>q.elim id λq=>(E d o q).elim,.inl⟩
  refine .inr ⟨b,off,z,Fe,rfl,by rw[hn];exact H,K,v,λd o p q=>J d o ((B d o).2 aj) p,λd o=>by rw[B,hn]⟩
def cIn(cs:ao)(l:List O):Chunk:=⟨λw F=>dQ w cs l F,λh a c=>dQ.keep a h c,λh b=>dQ.lt h b⟩
end
def bNY{O:Type}(l:List O)(i j:Int):Option (List O):=need (0<=i/\i<=j/\j<=(l.length:Int)) (some (l.take i.toNat++l.drop j.toNat))
def zR2:R2:=(⟨.bool false⟩,⟨.slice none 0 0⟩)
def bLH:aN.rd F0 w [.bool false,.slice none 0 0] zR2:=⟨[_],[_],rfl,⟨rfl,rfl⟩,⟨rfl,rfl⟩⟩
def bHW{l:List O}{a b:Nat}(c:a<=b)(d:b<=l.length):((dM l a (l.drop b)).take (a+(l.length-b))).drop 0=l.take a++l.drop b:=by
 have f:(l.take a).length=a:=aj
 have e:(l.drop b).length=l.length-b:=ae
 unfold dM;rw[QL,aHJ (l:=l.drop b) aa,<-QX,show a+(l.length-b)=(l.take a++l.drop b).length by grind];grind
def a1B{p:Prop}[Decidable p]{k:Option O}(h:p):need p k=k:=aM h
def bDD(s:List R2)(i j:Int):Option (List R2):=need (0<=(i:Int)/\(i:Int)<=(j:Int)/\(j:Int)<=((s.length:Int):Int)/\((s.length:Int):Int)<=(s.length:Int)) ((if i == j then some s else need (0<=(i:Int)/\(i:Int)<=(s.length:Int)) (need (0<=(j:Int)/\(j:Int)<=(s.length:Int)) (need (i.toNat<=j.toNat) (need (0<=(((((dM s i.toNat (s.drop j.toNat)).take (i.toNat+(s.length-j.toNat))).drop 0).length:Int):Int)/\(((((dM s i.toNat (s.drop j.toNat)).take (i.toNat+(s.length-j.toNat))).drop 0).length:Int):Int)<=((s.length:Int):Int)/\((s.length:Int):Int)<=((dM s i.toNat (s.drop j.toNat)).length:Int)) (some (((dM s i.toNat (s.drop j.toNat)).take (i.toNat+(s.length-j.toNat))).drop 0)))))))
theorem bHX{i j:Int}(h:0<=i/\i<=j/\j<=(us.length:Int)):bDD us i j=some (us.take i.toNat++us.drop j.toNat):=by
 unfold bDD;rw[a1B aa];by_cases e:i=j
 .simp_all
 .rw[aO aj,a1B aa,a1B aa,a1B aa,bHW aa aa,a1B];grind[gG]
theorem bDE[aN O](hn:aN.n O=2){s:Value}{l:List O}{ec:ao}(J:ec.length=2)(y:∀v∈ec,v.oneCell'=true)(h:Sep w [qN s l 0,cAt (elB s) (Y5 (aN.n O) 0 s) ec] F) :
  ∃c2,c2.length=(l.drop 1).length*2/\l.length=(l.drop 1).length+1/\∀F,Sep w [qN s l 0,cAt (elB s) (Y5 (aN.n O) 0 s) ec] F->∃G Fe,aN.own w [s] (prs (ec++c2)) G/\dQ w c2 (l.drop 1) Fe/\G.I9 Fe/\∀b o,F b o↔G b o\/Fe b o:=by
 obtain⟨G1,G2,⟨a,c,b,off,c1,c2,F1,F3,e,h1,h2,hk,rfl,hr,k1,X,o1,W,d1,d2,d3,P⟩,_,_,_⟩:=h;have t:=aX2 hn W;have N:(l.drop 1).length=l.length-1:=ae
 have E:(l.drop (0+1)).length=l.length-1:=ae
 refine⟨c2,t,aa,λF h=>?_⟩;obtain⟨V,G2',⟨a',c',b',D,U,d,C,B,K,R,A,M,e3,r,L,m,k,j,T,S,x,i⟩,f,dG,hF⟩:=h;rw[e] at K;cases K;cases e3;have z:d=c2:=aGI m X (by grind[aX2]);subst z;have f:(cAt (elB s) (Y5 (aN.n O) 0 s) ec).P w G2':=Sep.one.1 f;obtain⟨H,I,Z⟩:=f;subst e;simp only[elB,Y5,Nat.zero_mul,aFJ,J] at H I Z;have Q:∀b o,¬C b o:=by have:l.take 0=[]:=rfl;rw[this] at k;exact k.2
 rw[hn] at r m x i;have Y:(prs (ec++d)).length=l.length:=by rw[aPK (n:=1) aa,O0,ZE (n:=1) aa,ZE t];omega
 have g:dQ w (ec++d) (prs (ec++d)) F0:=by
  match ec,J,y with
  |[u,v],_,y=>exact⟨[u,v],d,F0,F0,rfl,a7M (y u ae) (y v ae),a7N hn j,λ_ _ h=>h.elim,λ_ _=>by simp[F0]⟩
 refine⟨fQ b off (c*2),B,nN.2 ⟨_,c,by rw[Y],aa,A,.inr ⟨b,off,ec++d,F0,rfl,λo p=>?_,?_,g,λ_ _ h=>h.elim,λ_ _=>?_⟩⟩,j,λb o p q=>x b o q p,λb' o=>?_⟩
 .by_cases q:fQ b off 2 b o
  .refine⟨?_,I o q⟩;obtain⟨_,q1,q2⟩:=q;have:=H (o-off) _ (mA aa);simp_all
  .exact r o p aa
 .grind[Y7]
 .exact⟨.inl,λq=>q.elim id λq=>q.elim⟩
 grind[fQ]
def aWK{B:Bl}:∀{cs:aq} {vs:ao},bE (cA B) cs=some vs->∀v∈vs,v.oneCell'=true
 |[],vs,h,v,a=>by cases h;simp at a
 |x::r,vs,h,v,a=>by
  simp only[bE] at h;split at h
  .cases h
  .rename_i y c;split at h
   .cases h
   .rename_i d b;cases h;obtain rfl|a:=qM.1 a
    .exact aP8 c
    .exact aWK b v a
section
variable {P:Program} {T:TT} {hT:I3 P T} {n:Nat} {c:Ctx} {B0:Bl} {N:Act->World->Prop} {X:Nat->Act->World->Prop} {Q:Act->World->Prop} {K K':a8} {m m':Nat} {e e':SE} {L L':an} {cf cf' cf1 cf2:wJ} {o:Oper} {Lv:an} {d:Nat}
theorem hzR[aN O](hn:aN.n O=2){l:List O}{nb E:Nat}{cs:aq}(h g hv:Nat)(hs:V6 (j7 T n K cf m e L)=some (K',cf',m',e',L'))(hh:L'[h]?=some (.o (qN (s.v l.length) l 0)))(hb:L'[g]?=some (.box nb cs))(hw:L'[hv]?=some (wOf O nb s E 0))(hl:cs.length=2)(ha:eA [h,g]=true)(hz:([h,g].all λj=>gO j cf'.AV)=true)
  (k:∀(us:List R2) (c2:ao),us.length=l.length->us.drop 1=prs c2->l.length=(l.drop 1).length+1->G (.mk P T hT n c B0 N X Q) K' m' e' (PN L' [h,g]++[ow s us,.o (cIn c2 (l.drop 1))]) cf'):G (.mk P T hT n c B0 N X Q) K m e L cf:=by
 refine go hs (chg (ι:={p:List R2×ao // p.1.length=l.length/\p.1.drop 1=prs p.2/\l.length=(l.drop 1).length+1}) (λ_=>m') (λ_=>e') (λp=>PN L' [h,g]++[ow s p.1.1,.o (cIn p.1.2 (l.drop 1))]) (λB a w hm hA hS=>?_) (λ_=>ZB _ hz) (λp=>k p.1.1 p.1.2 p.2.1 p.2.2.1 p.2.2.2));obtain⟨⟨R,s1,s2⟩,s0⟩:=hS;have f1:=s1.front [h,g] ha;rw[UU (M:=[.o (qN (s.v l.length) l 0),.box nb cs]) (by grind[bE])] at f1;obtain⟨F,S,q,_⟩:=f1.sep;obtain⟨Fa,Fb,D,_⟩:=Sep.append.1 q;have H:=s2 _ (O1 hw);simp only[roF] at H;obtain⟨V,G2,U,i,J,I⟩:=D;have i:(XM B nb cs).P w G2:=Sep.one.1 i;obtain⟨b,z,vs,Z,Y,W⟩:=i;rw[H] at Z;cases Z;have C:vs.length=2:=by grind[m0]
 have e1:elB (s.v E)=elB (s.v l.length):=bJR s _ _;have e2:Y5 (aN.n O) 0 (s.v E)=Y5 (aN.n O) 0 (s.v l.length):=bJS s _ _ _ _;rw[e1,e2] at W;obtain⟨c2,z1,z2,z3⟩:=bDE hn C (aWK Y) (F:=Fa) ⟨V,G2,U,Sep.one.2 W,J,I⟩;have y:(prs (vs++c2)).length=l.length:=by rw[aPK (n:=1) aa,O0,ZE (n:=1) aa,ZE z1];omega
 have A:(prs (vs++c2)).drop 1=prs c2:=by rw[aPK (n:=1) aa];exact List.drop_left' (ZE (n:=1) aa)
 refine⟨⟨(prs (vs++c2),c2),y,A,z2⟩,[],aj,aj,⟨⟨R,?_,λx f=>?_⟩,s0⟩⟩
 .rw[ML,D1,NO];have:=s1.shift [h,g] ha (A':=[dF [s.v (prs (vs++c2)).length] (prs (vs++c2)),cIn c2 (l.drop 1)]) (λF hF=>by
   rw[UU (M:=[.o (qN (s.v l.length) l 0),.box nb cs]) (by grind[bE])] at hF;obtain⟨V,G2,U,i,J,I⟩:=hF;have i:(XM B nb cs).P w G2:=Sep.one.1 i;obtain⟨b',z',vs',v,t,r⟩:=i;rw[H] at v;cases v;rw[Y] at t;cases t;rw[e1,e2] at r;obtain⟨G,Fe,a1,a2,a3,a4⟩:=z3 F ⟨V,G2,U,Sep.one.2 r,J,I⟩;rw[y];exact⟨G,Fe,a1,Sep.one.2 a2,a3,a4⟩)
  exact this
 .rw[ML];obtain f|f:=j4.1 f
  .obtain f|f:=UT _ _ f
   .grind
   .subst f;trivial
  .simp only[qM,bAW,or_false] at f;obtain rfl|rfl:=f<;>trivial
theorem joR[aN O](hn:aN.n O=2){l:List O}{cs:ao}(i j:Nat)(E:L[i]?=some (ow s us))(D:L[j]?=some (.o (cIn cs l)))(r:us=prs cs)(v:eA [i,j]=true)(q:([i,j].all λj=>gO j cf.AV)=true)(t:us.length=l.length)
  (k:G (.mk P T hT n c B0 N X Q) K m e (PN L [i,j]++[ow s l]) cf):G (.mk P T hT n c B0 N X Q) K m e L cf:=by
 refine chg (λ_:Unit=>m) (λ_=>e) (λ_=>PN L [i,j]++[ow s l]) (λB a w C H y=>?_) (λ_=>ZB _ q) (λ_=>k);obtain⟨⟨R,s1,A⟩,s0⟩:=y;refine⟨(),[],aj,aj,⟨⟨R,?_,λx f=>?_⟩,s0⟩⟩
 .rw[ML,D1,NO];exact s1.shift [i,j] v (A':=[dF [s.v l.length] l]) (λF p=>by
   rw[UU (M:=[ow s us,.o (cIn cs l)]) (by grind[bE])] at p;obtain⟨G1,G2,g,h,z,I⟩:=p;have h:dQ w cs l G2:=Sep.one.1 h;have g:aN.own w [s.v us.length] us G1:=g;rw[t] at g;have:=bDC hn g h r z;exact Sep.one.2 (by
    have e:F=λb o=>G1 b o\/G2 b o:=aj
    rw[e];exact this))
 .rw[ML];obtain f|f:=j4.1 f
  .obtain f|f:=UT _ _ f
   .grind
   .subst f;trivial
  .simp only[qM,bAW,or_false] at f;subst f;trivial
theorem dlW[aN O](hn:aN.n O=2){f:FuncId}{kf:List O->Option β}{q:β}{l:List O}{z:ao}(i j:Nat)
  (B:cpS (j7 T n K cf m e L)=some (o,some d,f,[.h s l.length,.i .i64 0,.i .i64 1],cf1,cf2,K',m',e',L')) (E:L'[i]?=some (ow s us)) (D:(PN L' [i]++[ow s us])[j]?=some (.o (cIn z (l.drop 1)))) (S:gO i cf1.AV=true) (w:eA [L'.length,j]=true) (a:([L'.length,j].all λj=>gO j cf2.AV)=true)
  (v:us.length=l.length) (F:us.drop 1=prs z) (V:l.length=(l.drop 1).length+1)
  (H:∀{κ:Ctx} {us:List R2},VS P κ f (bDD us 0 1) [.h s us.length,.i .i64 0,.i .i64 1] [] [ow s us] (λ(r:List R2) (y:AC)=>.h y r.length) (λr y=>[ow y r]))
  (k:∀y:AC,W (G (.mk P T hT n c B0 N X Q) K' m' ((d,.h y (l.drop 1).length)::e') (PN (PN L' [i]++[ow y (us.drop 1)]) [L'.length,j]++[ow y (l.drop 1)]) cf2) q (kf (l.drop 1))):W (G (.mk P T hT n c B0 N X Q) K m e L cf) q ((bNY l 0 1).bind kf):=λI=>by
 have t:(PN L' [i]).length=L'.length:=by simp[PN]
 have p:∀{x},bNY l 0 1=some x->x=l.drop 1:=λh=>by obtain⟨_,h⟩:=mZ h;grind
 refine cw0 (sv:=λ(r:List O) (y:AC)=>.h y r.length) (Lr:=λ_ y=>[ow y (us.drop 1)]) (M:=[ow s us]) (xs0:=[.h s l.length,.i .i64 0,.i .i64 1]) [i] B (by simp[bE,E]) rfl (by grind[MN,eA]) (λ_ _=>rfl) (λ{κ} _ {x} U=>?_) I (λx R J y=>?_)
 .have C:bDD us 0 1=some (us.drop 1):=by grind[bHX]
  have h:=H (κ:=κ) (us:=us) _ C;rw[v] at h;refine⟨h.call,λvs b g=>Calls.mono (h.run vs b g) λen w' Y=>?_⟩;grind
 .obtain rfl:=p R;refine joR hn L'.length j aj ?_ F w a (by simp[v]) (k y J);have A:j<L'.length:=by
   have h3:j<(PN L' [i]++[ow s us]).length:=(I8.1 D).1;have Z:j≠L'.length:=by intro e;subst e;simp[eA,gO] at w
   grind
  grind
end
open Go.Lib Go.Proofs
def ZF(w:World)(l q p c:TypeId)(k b o e h:Nat)(a:Addr)(d f m:Nat)(cs:ao)
  (t:P.underlying l=some (.slice c)) (x:(P.info? c).map (·.size)=some k) (r:Nat.min d e=m) (hn:cs.length=m*k)
  (g:∀j v,cs[j]?=some v->w.cell? (a.add j)=some v) (B:∀j,j<cs.length->(w.cell? ⟨b,o+j,none⟩).isSome=true) (A:∀j,j<cs.length->w.frozen? ⟨b,o+j,none⟩=false) (s:∀v∈cs,v.oneCell'=true) :
  (Builtin.copy_ #[l,q] p #[.slice (some ⟨b,o,none⟩) e h,.slice (some a) d f]).run P w=.ok (goInt m) (w.setCells b o cs):=by
 have z:=run_loadCells_list (P:=P) w a cs g;have n:=run_storeCells_cells (P:=P) b o cs 0 w aa aa s;subst r;cases y:P.info? c with
 |none=>grind
 |some i=>
  simp_all[Builtin.copy_,run_underlying,Builtin.lenOf,Builtin.firstCells,sizeOf,typeInfo]
def EY(b a m:Nat):∀(vs:ao) (o:Nat) (w:World),a<=o->o+vs.length<=a+m->fN (fQ b a m) w (w.setCells b o vs)
 |[],_,w,_,_=>fN.refl _ _
 |v::r,o,w,d,c=>by simp only[UQ] at c;rw[World.setCells];exact(fN.setCell _ w ⟨b,o,none⟩ v ⟨rfl,d,aj⟩ rfl).trans (EY b a m r (o+1) _ aa aa) λ_ _ _ h=>h
def aL9{a:World}(b:Nat)(f:w.heap.size<=b){o:Nat}(h:fN F0 w a):fN F0 w (a.setCells b o vs):=h.trans ((EY b o vs.length vs o a (jR _) (jR _)).mono (G:=fQ b o vs.length) λ_ _ _ h=>h) (F:=F0) λg e c d=>by obtain⟨rfl,_⟩:=d;omega
def JC{b o:Nat}(h:∀j,j<vs.length->(w.cell? ⟨b,o+j,none⟩).isSome=true):bU (w.setCells b o vs) b o vs:=λj v a=>by grind[World.cell?_setCells_in]
theorem zG{b o o':Nat}{cs:ao}(h:bU w b o' cs)(d:o'+cs.length<=o\/o+vs.length<=o'):bU (w.setCells b o vs) b o' cs:=λj v a=>by have c:=(I8.1 a).1;rw[World.cell?_setCells_out b vs o w ⟨b,o'+j,none⟩ (λ_ _=>aj)];exact h j v a
def XQ{b o:Nat}{cs ds:ao}(h:bU w b o cs)(k:bU w b (o+cs.length) ds):bU w b o (cs++ds):=λj v a=>by
 by_cases c:j<cs.length
 .rw[List.getElem?_append_left c] at a;exact h j v a
 .rw[aV4 aa] at a;have:=k _ v a;grind
theorem a4H{b o n:Nat}{cs:ao}(h:bU w b o cs):bU w b o (cs.take n):=λj v a=>by
 rw[aLZ] at a;split at a
 .exact h j v a
 .cases a
def aHZ{b o n o':Nat}(h:Row w b o n)(e:o<=o'/\o'+vs.length<=o+n):Row (w.setCells b o' vs) b o n:=λq d=>by obtain⟨_,c,a⟩:=d;refine⟨Go.Proofs.isSome_setCells b vs o' w (λj f=>(h (o'+j) ⟨rfl,aa,aa⟩).1) q (h q ⟨rfl,c,a⟩).1,?_⟩;rw[World.frozen?_setCells];exact(h q ⟨rfl,c,a⟩).2
def bPU(w:World)(k n:Nat)(f:Option Addr)(c:Nat)(d:ao)(e:Ending)(w':World):Prop:=
 ∃b o a,e=.returned (.slice (some ⟨b,o,none⟩) (n+1) a)/\n+1<=a/\a<=maxLen/\bU w' b o d/\Row w' b o (a*k) /\
  ((f=some ⟨b,o,none⟩/\a=c/\fN (fQ b o (c*k)) w w')\/(w.heap.size<=b/\fN F0 w w'))
def bPV(P:Program)(f k:Nat):Prop:=∀(b off n c i a:Nat) (cs vs:ao) (w:World),i<n->n+1<=c->c<=9223372036854775807->a≠b->cs.length=n*k->vs.length=k ->
  bU w b off cs->(∀j,j<c*k->(w.cell? ⟨b,off+j,none⟩).isSome=true)->(∀j,j<c*k->w.frozen? ⟨b,off+j,none⟩=false) ->
  bU w a 0 vs->(∀v∈cs,v.oneCell'=true)->(∀v∈vs,v.oneCell'=true) ->
  ∀(l h:TypeId) (g d:Nat),w.shape? a=some (l,g)->w.shape? b=some (h,d)->d≠0->w.frozen? ⟨a,0,none⟩=false->w.frozen? ⟨a,g,none⟩=false ->
  Calls P f #[.slice (some ⟨b,off,none⟩) n c,.int .i64 i,.slice (some ⟨a,0,none⟩) 1 1] w λe w'=>
   e=.returned (.slice (some ⟨b,off,none⟩) (n+1) c)/\w'=(w.drew.setCells b (off+(i+1)*k) (cs.drop (i*k))).setCells b (off+i*k) vs
def bPW(P:Program)(f k:Nat):Prop:=∀(b off n c a:Nat) (vs:ao) (w:World),n+1<=c->c<=9223372036854775807->vs.length=k ->
  (∀j,j<c*k->(w.cell? ⟨b,off+j,none⟩).isSome=true)->(∀j,j<c*k->w.frozen? ⟨b,off+j,none⟩=false)->bU w a 0 vs->(∀v∈vs,v.oneCell'=true) ->
  Calls P f #[.slice (some ⟨b,off,none⟩) n c,.int .i64 n,.slice (some ⟨a,0,none⟩) 1 1] w λe w'=>
   e=.returned (.slice (some ⟨b,off,none⟩) (n+1) c)/\w'=w.setCells b (off+n*k) vs
def bPX(P:Program)(f k el:Nat)(z:Value):Prop:=∀(base:Option Addr) (n c b:Nat) (cs vs:ao) (w:World),n<=c->c<n+1->n+1<=1073741824->cs.length=n*k->vs.length=k->(base=none->n=0) ->
  (∀a,base=some a->∀j v,cs[j]?=some v->w.cell? (a.add j)=some v)->bU w b 0 vs->(∀v∈vs,v.oneCell'=true) ->
  Calls P f #[.slice base n c,.int .i64 n,.slice (some ⟨b,0,none⟩) 1 1] w λe w'=>
   e=.returned (.slice (some ⟨w.heap.size,0,none⟩) (n+1) (grownCap w (n+1) c el)) /\
   w'=w.drew.alloc (.cells ((cs++vs).toArray++Builtin.zeroCells z.cells (grownCap w (n+1) c el-(n+1))) el)
def bPY(P:Program)(f k el:Nat)(z:Value):Prop:=∀(b off n c i a:Nat) (cs vs:ao) (w:World),i<n->n<=c->c<n+1->n+1<=1073741824->cs.length=n*k->vs.length=k ->
  bU w b off cs->bU w a 0 vs->(∀v∈cs,v.oneCell'=true)->(∀v∈vs,v.oneCell'=true) ->
  Calls P f #[.slice (some ⟨b,off,none⟩) n c,.int .i64 i,.slice (some ⟨a,0,none⟩) 1 1] w λe w'=>
   e=.returned (.slice (some ⟨w.heap.size,0,none⟩) (n+1) (grownCap w (n+1) c el)) /\
   w'=(((w.alloc (.cells ((cs.take (i*k)).toArray++Builtin.zeroCells z.cells (n+1-i)++Builtin.zeroCells z.cells (grownCap w (n+1) c el-(n+1))) el)).drew.setCells w.heap.size (i*k) vs).drew).setCells w.heap.size ((i+1)*k) (cs.drop (i*k))
def bNZ(P:Program)(f k:Nat):Prop:=∀(d:Option Addr) (n c i a:Nat) (cs vs:ao) (w:World),i<=n->n<=c->c<=maxLen->n+1<=1073741824->cs.length=n*k->vs.length=k ->
  bU w a 0 vs->(∀v∈cs,v.oneCell'=true)->(∀v∈vs,v.oneCell'=true)->(∀o,w.frozen? ⟨a,o,none⟩=false) ->
  ((d=none/\c=0)\/∃b off,d=some ⟨b,off,none⟩/\Row w b off (c*k)/\bU w b off cs/\(0<c->a≠b)) ->
  Calls P f #[.slice d n c,.int .i64 i,.slice (some ⟨a,0,none⟩) 1 1] w (bPU w k n d c (cs.take (i*k)++vs++cs.drop (i*k)))
def a1C{b o:Nat}(h:(w.cell? ⟨b,o,none⟩).isSome=true):∃t k,w.shape? b=some (t,k)/\k≠0:=by grind[World.cell?,World.shape?]
def bHY{f k el:Nat}{z:Value}(hk:0<k)(hz:z.cells.size=k)(hS:bPV P f k)(hR:bPW P f k)(hE:bPX P f k el z)(hG:bPY P f k el z):bNZ P f k:=by
 intro ad n c i M cs vs w hi H A hb s l q L B K p;have y:n+1<=grownCap w (n+1) c el:=grownCap_ge _ _ _ _;have J:grownCap w (n+1) c el<=maxLen:=grownCap_le_maxLen w (n+1) c el (by grind[maxLen]);have T:(n+1)*k=n*k+k:=aj
 by_cases W:i=n
 .subst W;have e1:cs.take (i*k)=cs:=aj
  have e2:cs.drop (i*k)=[]:=aj
  rw[e1,e2,ML];by_cases d:i+1<=c
  .obtain⟨_,h0⟩|⟨b,off,rfl,t,F,_⟩:=p
   .omega
   have X:(i+1)*k<=c*k:=xX _ d;refine(hR b off i c M vs w d A l (λj m=>(t _ ⟨rfl,aa,aa⟩).1) (λj m=>(t _ ⟨rfl,aa,aa⟩).2) q B).mono ?_;rintro e w' ⟨rfl,rfl⟩;refine⟨b,off,c,rfl,d,A,XQ (zG F (.inl aa)) (by rw[s];exact JC λj m=>(t _ ⟨rfl,aa,aa⟩).1),aHZ t ⟨aa,aa⟩,.inl ⟨rfl,rfl,EY b off _ vs _ w aa aa⟩⟩
  .refine(hE ad i c M cs vs w H aa hb s l (λh=>?_) (λa ha=>?_) q B).mono ?_
   .grind
   .obtain⟨h0,_⟩|⟨b,off,h1,t,F,_⟩:=p
    .grind
    .rw[ha] at h1;cases h1;intro j v m;rw[Addr.add_lit];exact F j v m
   rintro e w' ⟨rfl,rfl⟩;have N:((cs++vs).toArray++Builtin.zeroCells z.cells (grownCap w (i+1) c el-(i+1))).size=grownCap w (i+1) c el*k:=by rw[Array.size_append,size_zeroCells,hz,List.size_toArray,O0,s,l,Nat.sub_mul,T];have:(i+1)*k<=grownCap w (i+1) c el*k:=xX _ y;omega
   refine⟨w.heap.size,0,_,rfl,y,J,λj v m=>?_,λo Z=>⟨?_,World.frozen?_alloc_at (w:=w.drew) _ _ w.heap.size o rfl⟩,.inr ⟨jR _,(fN.drew F0 w).trans (fN.alloc _ _ _) λ_ _ _ h=>h⟩⟩
   .rw[aAQ,World.cell?_alloc_at (w:=w.drew) _ _ w.heap.size j rfl];grind
   .obtain⟨_,_,h3⟩:=Z;rw[World.cell?_alloc_at (w:=w.drew) _ _ w.heap.size o rfl,Array.getElem?_eq_getElem aa];rfl
 .have E:i<n:=aa
  have I:(i+1)*k=i*k+k:=aj
  have hink:(i+1)*k<=n*k:=xX _ E;have r:(cs.take (i*k)).length=i*k:=aj
  have hdl:(cs.drop (i*k)).length=n*k-i*k:=aj
  obtain⟨_,h0⟩|⟨b,off,rfl,t,F,U⟩:=p
  .omega
  have O:=a1C (w:=w) (b:=M) (o:=0) (by rw[show(0:Nat)=0+0 from rfl,q 0 _ (mA aa)];rfl);obtain⟨tA,kA,R,_⟩:=O;by_cases d:n+1<=c
  .have X:(n+1)*k<=c*k:=xX _ d;obtain⟨tB,kB,Q,V⟩:=a1C (w:=w) (b:=b) (o:=off) (t off ⟨rfl,aa,aa⟩).1;refine(hS b off n c i M cs vs w E d A (U aa) s l F (λj m=>(t _ ⟨rfl,aa,aa⟩).1) (λj m=>(t _ ⟨rfl,aa,aa⟩).2) q L B tA tB kA kB R Q V (K _) (K _)).mono ?_;rintro e w' ⟨rfl,rfl⟩;have hc':bU w.drew b off cs:=F;have G:Row w.drew b off (c*k):=t;have x:=aHZ (o':=off+(i+1)*k) (vs:=cs.drop (i*k)) G ⟨aa,aa⟩;refine⟨b,off,c,rfl,d,A,?_,aHZ x ⟨aa,aa⟩,.inl ⟨rfl,rfl,((fN.drew _ w).trans (EY b off _ _ _ _ aa aa) λ_ _ _ h=>h).trans (EY b off _ vs _ _ aa aa) λ_ _ _ h=>h⟩⟩;refine XQ (XQ ?_ ?_) ?_
   .grind[zG,a4H]
   .rw[r];exact JC λj m=>(x _ ⟨rfl,aa,aa⟩).1
   .rw[O0,r,l,<-I];exact zG (JC λj m=>(G _ ⟨rfl,aa,aa⟩).1) (.inr aa)
  .refine(hG b off n c i M cs vs w E H aa hb s l F q L B).mono ?_;rintro e w' ⟨rfl,rfl⟩;obtain⟨g,D⟩:∃g:b4,g=(cs.take (i*k)).toArray++Builtin.zeroCells z.cells (n+1-i)++Builtin.zeroCells z.cells (grownCap w (n+1) c el-(n+1)):=⟨_,rfl⟩;rw[<-D];have N:g.size=grownCap w (n+1) c el*k:=by rw[D,Array.size_append,Array.size_append,size_zeroCells,size_zeroCells,hz,List.size_toArray,r,<-pP,<-pP];grind
   have hgk:(n+1)*k<=grownCap w (n+1) c el*k:=xX _ y;have hcN:∀j,(w.alloc (.cells g el)).cell? ⟨w.heap.size,j,none⟩=g[j]?:=λj=>World.cell?_alloc_at (w:=w) g _ w.heap.size j rfl;have S:Row (w.alloc (.cells g el)).drew w.heap.size 0 (grownCap w (n+1) c el*k):=λo Z=>by obtain⟨_,_,h3⟩:=Z;simp_all
   have Y:bU (w.alloc (.cells g el)).drew w.heap.size 0 (cs.take (i*k)):=λj v m=>by show(w.alloc (.cells g el)).cell? _=_;grind
   have x:=aHZ (o':=i*k) (vs:=vs) S ⟨aa,aa⟩;have C:Row ((w.alloc (.cells g el)).drew.setCells w.heap.size (i*k) vs).drew w.heap.size 0 (grownCap w (n+1) c el*k):=x;refine⟨w.heap.size,0,_,rfl,y,J,?_,aHZ C ⟨aa,aa⟩,.inr ⟨jR _,aL9 _ (jR _) ((aL9 _ (jR _) ((fN.alloc _ _ _).trans (fN.drew _ _) λ_ _ _ h=>h)).trans (fN.drew _ _) λ_ _ _ h=>h)⟩⟩;refine XQ (XQ ?_ ?_) ?_
   .exact zG (show bU _ _ _ _ from zG Y (.inl aa)) (.inl aa)
   .rw[r,aAQ];refine zG (show bU _ _ _ _ from JC λj m=>?_) (.inl aa)
    (simp_all;omega)
   .rw[O0,r,l,<-I,aAQ];exact JC λj m=>(C _ ⟨rfl,aa,aa⟩).1
def bLI{O:Type}[aN O](s:AC)(x:O):Chunk where
 P w F:=∃b cs,s=⟨some ⟨b,0,none⟩,1⟩/\b<w.heap.size/\(∀o,w.frozen? ⟨b,o,none⟩=false)/\bU w b 0 cs/\(∀w,aN.own w cs x F0)/\∀i o,F i o↔i=b
 keep:=λ⟨b,cs,h,a,g,f,e,d⟩ c m=>⟨b,cs,h,SS a c.size,λo=>(c.AV b o a).trans (g o),λj v k=>(c.cell b _ a λl=>m b _ ((d b _).2 rfl) l).trans (f j v k),e,d⟩
 lt:=λ⟨b,cs,h,a,g,f,e,d⟩ n=>aj
def cLs{O:Type}[aN O](s:AC)(v:List O):Chunk where
 P w F:=∃x,v=[x]/\(bLI s x).P w F
 keep:=λ⟨x,e,a⟩ b c=>⟨x,e,(bLI s x).keep a b c⟩
 lt:=λ⟨x,_,a⟩ d=>(bLI s x).lt a d
def bN0{O:Type}(l:List O)(i:Int)(v:List O):Option (List O):=need (0<=i/\i<=(l.length:Int)/\l.length+v.length<=1073741824) (some (l.take i.toNat++v++l.drop i.toNat))
def bDF[aN O]{cs:ao}{x:O}(h:aN.own w cs x F0):dQ w cs [x] F0:=⟨cs,[],F0,F0,(ML _).symm,h,⟨rfl,λ_ _ h=>h⟩,λ_ _ h=>h.elim,λ_ _=>by simp[F0]⟩
def aH0{O:Type}[aN O][Flat O]{w w':World}:∀{l:List O} {cs:ao} {F:dA},dQ w cs l F->dQ w' cs l F0
 |[],cs,F,h=>⟨h.1,λ_ _ h=>h⟩
 |x::r,cs,F,⟨c1,c,i,g,e,b,a,d,f⟩=>⟨c1,c,F0,F0,e,bA8 b,aH0 a,λ_ _ h=>h.elim,λ_ _=>by simp[F0]⟩
def a7O{O:Type}[aN O]{w:World}:∀{l:List O} {cs:ao} {F:dA},dQ w cs l F->∀v∈cs,v.oneCell'=true
 |[],cs,F,h,v,a=>by rw[h.1] at a;cases a
 |x::r,cs,F,⟨c1,g,j,i,e,c,b,d,f⟩,v,a=>by rw[e] at a;exact(j4.1 a).elim (aN.rd_one (aN.own_rd c) v) (a7O b v)
def bPZ{f:FuncId}[aN O][Flat O]{k:Nat}(hn:aN.n O=k)(hk:0<k)(hC:bNZ P f k)(n:∀args w,(callFunc f args).run P w=.ok (.enter f args) w){s v:List O}{i:Int}{J s2:AC} :
  VS P κ f (bN0 s i v) [.h J s.length,.i .i64 i,.h s2 v.length] [] [ow J s,.o (cLs s2 v)] (λr (y:AC)=>.h y r.length) (λr y=>[ow y r]):=λr l=>by
 unfold bN0 at l;obtain⟨⟨hi0,hi1,hb⟩,l⟩:=mZ l;obtain⟨j,rfl⟩:∃j:Nat,i=j:=⟨i.toNat,aa⟩;rw[MK] at l;cases l;refine⟨n,λvs hv hS=>?_⟩;simp[bE,gT,gV,cA] at hv;subst hv;obtain⟨⟨R,h1,h2⟩,h0⟩:=hS;have h1:St κ κ.w0 [dF [J.v s.length] s,cLs s2 v] R:=by grind[lS]
 obtain⟨F,S,⟨F1,F2,q,⟨F3,F4,X,_,_,G⟩,hdj,_⟩,_⟩:=h1.sep;obtain⟨x,rfl,B,K,rfl,hvb,Q,T,p,U⟩:=X;have q:aN.own κ.w0 [J.v s.length] s F1:=q;obtain⟨a,c,he,hl1,Z,m⟩:=nN.1 q;obtain⟨sa,I⟩:=J;simp only[AC.v,Value.slice.injEq,true_and] at he;obtain⟨rfl,rfl⟩:=he;have N:K.length=k:=by rw[<-hn];exact aN.nY (aN.own_rd (p κ.w0))
 have V:∀v∈K,v.oneCell'=true:=aN.rd_one (aN.own_rd (p κ.w0));obtain⟨cs,hcl,hc1,C,E⟩:∃cs,cs.length=s.length*k/\(∀v∈cs,v.oneCell'=true)/\((sa=none/\I=0)\/∃b off,sa=some ⟨b,off,none⟩/\Row κ.w0 b off (I*k)/\bU κ.w0 b off cs/\(0<I->B≠b))/\∀w,dQ w cs s F0:=by
  obtain⟨rfl,rfl,_⟩|⟨b,off,cc,Fe,rfl,l,hc,ho,_,M⟩:=m
  .have W:s=[]:=AX aa;subst W;exact⟨[],ae,ae,.inl ⟨rfl,rfl⟩,λ_=>⟨rfl,λ_ _ h=>h⟩⟩
  .rw[hn] at l M;refine⟨cc,by rw[<-hn];exact ho.length,a7O ho,.inr ⟨b,off,rfl,l,hc,λh0 e=>?_⟩,λ_=>aH0 ho⟩;subst e;have hk:0<I*k:=Nat.mul_pos h0 hk;exact hdj B off ((M B off).2 (.inl ⟨rfl,jR _,aa⟩)) ((G B off).2 (.inl ((U B off).2 rfl)))
 refine(hC sa s.length I j B cs K κ.w0 aa hl1 Z hb hcl N T hc1 V Q C).mono ?_;rintro e w' ⟨b,o,L,rfl,hlc,hcm,hcc,hrw,hkk⟩;have hlen:(s.take j++[x]++s.drop j).length=s.length+1:=aj
 refine⟨_,rfl,⟨some ⟨b,o,none⟩,L⟩,by grind[gT,gV,cA],⟨R,?_,by simp[roF]⟩,h0⟩;have hcs:∀w,dQ w (cs.take (j*k)++K++cs.drop (j*k)) (s.take j++[x]++s.drop j) F0:=λw=>by
  have h:=E w;rw[<-aL2 j s] at h;obtain⟨c1,c2,G1,G2,e,k1,k2,_,_⟩:=dQ.split h;have hl:c1.length=j*k:=by rw[k1.length,hn,XB];grind
  rw[e,List.take_left' hl,List.drop_left' hl,QX,QX];exact dQ.app (aH0 k1) (show dQ w (K++c2) ([x]++s.drop j) F0 from dQ.app (bDF (p w)) (aH0 k2) (λ_ _ h=>h.elim) λ_ _=>by simp[F0]) (λ_ _ h=>h.elim) λ_ _=>by simp[F0]
 have:=h1.bBC (w':=w') [0,1] rfl (A':=[dF [(⟨some ⟨b,o,none⟩,L⟩:AC).v (s.take j++[x]++s.drop j).length] (s.take j++[x]++s.drop j)]) (λF M=>by
  obtain⟨F1',F2',q1,q2,q3,q4⟩:=M;have q1:aN.own κ.w0 [_] s F1':=q1;have d:aN.own w' [(⟨some ⟨b,o,none⟩,L⟩:AC).v (s.take j++[x]++s.drop j).length] (s.take j++[x]++s.drop j) (fQ b o (L*k)):=
   nN.2 ⟨_,L,rfl,aa,hcm,.inr ⟨b,o,_,F0,rfl,aj,hcc,hcs w',λ_ _ h=>h.elim,λA z=>by grind[F0]⟩⟩
  obtain⟨rfl,rfl,hK⟩|⟨D,hK⟩:=hkk
  .obtain⟨a',c'',H,_,_,Y⟩:=nN.1 q1;simp only[AC.v,Value.slice.injEq,true_and] at H;obtain⟨rfl,rfl⟩:=H;obtain⟨h,_⟩|⟨b2,o2,cc2,Fe2,h,_,_,_,_,t⟩:=Y
   .cases h
   .cases h;rw[hn] at t;exact⟨_,_,hK,λA z g=>(q4 A z).2 (.inl ((t A z).2 (.inl g))),Sep.one.2 d,λA z g=>.inl ((q4 A z).2 (.inl ((t A z).2 (.inl g))))⟩
  .exact⟨_,F0,hK,λ_ _ h=>h.elim,Sep.one.2 d,λA z g=>.inr (by obtain⟨rfl,_⟩:=g;exact D)⟩)
 exact this.sel [2] rfl
section
variable {P:Program} {T:TT} {hT:I3 P T} {n:Nat} {c:Ctx} {B0:Bl} {N:Act->World->Prop} {X:Nat->Act->World->Prop} {Q:Act->World->Prop} {K K':a8} {m m':Nat} {e e':SE} {L L' Lv:an} {cf cf' cf1 cf2:wJ} {o:Oper} {d:Nat}
variable {x:Operand} {t t2 el sz:Nat} {b1 b2 b3:Bool} {n1 n2 n3:Nat} {z1 z2 z3:aq}
theorem ltL[aN O][Flat O](E:CO O)(y:E.ex)(q:O){M:Value}(g:XE P el sz M)(hs:j7 T n K cf m e L=.op o Lv cf1 cf2 K' m' e' L')(U:(o.op,o.dst)=(.buildSlice t 1 #[(0,x)],some d))(ht:AY T t=some ⟨.sl el,b1,n1,z1⟩)(hn:aN.n O=sz)(hm:Nat.ble 1 sz=true)(W:Nat.ble (1*sz) 16777216=true)(H:bE (λp=>(jS e' p.2).map λv=>nbL (qP v)) [((0:Nat),x)]=some ([q].map λq=>E.cs q y))(I:([q].all λq=>Nat.beq (E.cs q y).length sz && (bE (cA []) (E.cs q y)).isSome)=true)(hL:∀q,E.Lx q y=[])
  (k:∀s':AC,G (.mk P T hT n c B0 N X Q) K' m' ((d,.h s' [q].length)::e') (L'++[.o (cLs s' [q])]) cf2):G (.mk P T hT n c B0 N X Q) K m e L cf:=by
 refine aXV (l:=[q]) (λs'=>L'++[.o (cLs s' [q])]) hs (dL Prod.snd U) (λ_=>tV _) (λB a w hA hS=>?_) k;obtain⟨⟨R,s1,s2⟩,s0⟩:=hS;obtain⟨vs,cells,g1,g2,g3,g4,g5⟩:=lits E y (sz:=sz) hA hL H I;obtain⟨v,rfl⟩:∃v,vs=[v]:=by
  match vs,g2 with
  |[v],_=>simp
 obtain⟨ti,hi,f,s,Z⟩:=g;obtain⟨h1,h2⟩:=g5.get hn;have Y:cells.length=sz:=aj
 have V:=aP6 (len:=1) (m:=sz) (vs:=[v]) (ps:=[(0,x)]) (F:=λi=>(if 1*sz=0 then #[] else M.cells)[i % (if 1*sz=0 then #[] else M.cells).size]!) rfl rfl g3 g4;have hu:=JA ht hT;have D:¬1*sz=0:=by(simp_all;omega)
 have S:¬1*sz > 2 ^ 24:=by simp_all
 refine⟨⟨some ⟨w.heap.size,0,none⟩,1⟩,w.alloc (.cells cells.toArray el),λ_ a J=>?_,⟨R,?_,λz f=>?_⟩,s0⟩
 .have C:a.eval x=v:=by have:=Y6 J g1;grind
  have h:=dL Prod.fst U;simp only at h;simp only[D,aT] at V;have r:¬sz=0:=aa
  have A:¬sz > 16777216:=aa
  simp only[Nat.one_mul,r,aT] at V;simp[execOp,h,Instr.buildSlice,run_underlying hu,sizeOf,typeInfo,zeroValue,hi,f,s,C,r,A,AC.v];simp_all[newRow]
 .have:=s1.more (fN.alloc F0 w (.cells cells.toArray el)) (ch:=cLs ⟨some ⟨w.heap.size,0,none⟩,1⟩ [q]) ⟨λb _=>b=w.heap.size,⟨q,rfl,w.heap.size,cells,rfl,ae,λo=>World.frozen?_alloc_at (w:=w) _ _ w.heap.size o rfl,λj v hj=>?_,λw'=>?_,λ_ _=>Iff.rfl⟩,λb o hb=>QM hb.symm⟩
  .grind[lS]
  .simp_all
  .have:=h2 0 q rfl;rw[show PM cells sz 0=cells by unfold PM;grind] at this;grind[Flat.own_of]
 .obtain f|f:=j4.1 f
  .grind
  .simp at f;subst f;trivial
end
end Go.Gv
end
noncomputable section
namespace Go.Gv
variable{s:AC}{i z:Nat}{O:Type}{c e g h:Value}{w:World}
def a1D(k:Nat):ar->Bool
 |[]=>false
 |a::r=>match Nat.beq k a with
  |true=>true
  |false=>a1D k r
def aH1(is:ar):Nat->an->an
 |_,[]=>[]
 |k,x::r=>match a1D k is with
  |true=>.no::aH1 is (k+1) r
  |false=>x::aH1 is (k+1) r
def a1E:∀(L:an) (k:Nat),aH1 [] k L=L
 |[],_=>rfl
 |x::L,k=>by simp only[aH1,a1D,a1E L]
def a7P{k:Nat}(r:ar)(h:k≠i):a1D k (i::r)=a1D k r:=by grind[rR,a1D]
theorem bHZ(i:Nat)(r:ar):a1D i (i::r)=true:=by simp only[a1D,Nat.beq_refl]
theorem a7Q(i:Nat)(r:ar):∀(L:an) (k:Nat),i<k->aH1 (i::r) k L=aH1 r k L
 |[],_,_=>rfl
 |x::L,k,h=>by simp only[aH1,a7P r (show k≠i by omega),a7Q i r L (k+1) aa]
def a1F(i:Nat)(r:ar):∀(L:an) (k:Nat),k<=i->aH1 (i::r) k L=aH1 r k (L.set (i-k) .no)
 |[],_,_=>rfl
 |x::L,k,h=>by
  by_cases e:k=i
  .subst e;rw[Nat.sub_self];grind[aH1,bHZ,a7Q]
  .obtain⟨d,a⟩:∃d,i-k=d+1:=⟨i-k-1,aa⟩;have b:i-(k+1)=d:=aa
   rw[a];simp only[List.set,aH1,a7P r e,a1F i r L (k+1) aa,b]
theorem a4I:∀(is:ar) (L:an),PN L is=aH1 is 0 L
 |[],L=>(a1E L 0).symm
 |i::r,L=>by rw[a1F i r L 0 (lR _),Nat.sub_zero];exact a4I r _
section
variable {P:Program} {T:TT} {hT:I3 P T} {n:Nat} {c:Ctx} {B0:Bl} {N:Act->World->Prop} {X:Nat->Act->World->Prop} {Q:Act->World->Prop} {K K':a8} {m m':Nat} {e e':SE} {L L' Lv:an} {cf cf' cf1 cf2:wJ} {o:Oper}
variable {O β ex:Type} {fo:Option O} {kf:O->Option β} {q:β} {d:cm} {f:FuncId} {xs xs0:aq} {M:an} {sv:O->ex->SV} {Lr:O->ex->an}
theorem bN1{c1 B c3:aq}{A z w:O->ex->aq}(g s p v:Nat)(b r l u:Nat)(a n3 h t:Nat)(is:ar)
  (D:cpS (j7 T n K cf m e L)=some (o,d,f,xs,cf1,cf2,K',m',e',L')) (I:aQK L' [(g,s,p,v),(b,r,l,u),(a,n3,h,t)]=some [c1,B,c3]) (F:bE (λi=>L'[i]?) is=some M) (C:bE (rnP [(g,s,p,v),(b,r,l,u),(a,n3,h,t)] 0) xs=some xs0)
  (E:(MN M && ([c1,B,c3].all (CR.okC 0) && (eA (g::b::a::is) && (g::b::a::is).all λj=>gO j cf1.AV)))=true)
  (H:∀{κ:Ctx},HG c κ L' (g::b::a::is)->∀{S R J:Nat×Nat},VS P κ f fo xs0 [S,R,J] (.box 0 c1::.box 1 B::.box 2 c3::M) sv (λx y=>.box 0 (A x y)::.box 1 (z x y)::.box 2 (w x y)::Lr x y))
  (k:∀x,∀y:ex,W (G (.mk P T hT n c B0 N X Q) K' m' (dse d (sv x y) e') (UF L' (aH1 (g::b::a::is) 0 L'++Lr x y) [(g,s,p,v),(b,r,l,u),(a,n3,h,t)] [A x y,z x y,w x y]) cf2) q (kf x)) (hn:∀x y,(aHW [(g,s,p,v),(b,r,l,u),(a,n3,h,t)] [A x y,z x y,w x y] && ([A x y,z x y,w x y].all (CR.okC 0) && (MN (Lr x y) && CR 0 (sv x y))))=true:=by exact λ_ _=>rfl):W (G (.mk P T hT n c B0 N X Q) K m e L cf) q (fo.bind kf):=bPO g s p v b r l u a n3 h t is D I F C E H (λx y=>by grind[a4I]) hn
end
section
variable {P:Program} {T:TT} {hT:I3 P T} {n:Nat} {c:Ctx} {B0:Bl} {N:Act->World->Prop} {X:Nat->Act->World->Prop} {Q:Act->World->Prop} {K K':a8} {m m':Nat} {e e':SE} {L L' Lv:an} {cf cf' cf1 cf2:wJ} {o:Oper}
variable {O:Type} {fo:Option O} {d:Nat} {f:FuncId} {xs:aq} {v:O}
theorem ES{sv:O->SV}(g:fo=some v)(a:j7 T n K cf m e L=.call o (some d) f xs cf1 cf2 K' m' e' L')
  (b:∀{w},HS c w L'->V0 P (fT w) f fo xs sv) (k:G (.mk P T hT n c B0 N X Q) K' m' ((d,sv v)::e') L' cf2):G (.mk P T hT n c B0 N X Q) K m e L cf:=c0 (kf:=some) (q:=v) a b (λx h=>aj) (rb g)
theorem I5{ex:Type}{sv:O->ex->SV}{Lf:O->ex->an}(g:fo=some v)(a:j7 T n K cf m e L=.call o (some d) f xs cf1 cf2 K' m' e' L')
  (b:∀{w},HS c w L'->VS P (fT w) f fo xs [] [] sv Lf) (k:∀y:ex,G (.mk P T hT n c B0 N X Q) K' m' ((d,sv v y)::e') (L'++Lf v y) cf2) (hn:∀x y,noF (Lf x y)=true:=by exact λ_ _=>rfl):G (.mk P T hT n c B0 N X Q) K m e L cf:=c1 (kf:=some) (q:=v) a b (λx y h=>aj) hn (rb g)
end
structure AH where
 s:AC
 n:Nat
instance:aN AH:=aN.flat (λx=>x.s.v x.n) λ_=>rfl
instance:Flat AH:=⟨λh=>⟨h,λ_ _ h=>h⟩,λh=>h.2⟩
def cAH:F8 AH:=⟨Unit,λx _=>[.h x.s x.n],λ_ _ _ _=>True,λh=>⟨(),by cases h;rfl,trivial⟩,λx _=>.h x.s x.n,λ_ _ _=>trivial⟩
def oAH:CO AH:=cAH.o (λ_ _=>[]) (λh=>by cases h;exact cW rfl) (λ_ _=>rfl) (λ_ _ _=>rfl)
def cBr(κ:Ctx){O:Type}[aN O](s:AC)(d:List O):Chunk where
 P w F:=(∀b o,F b o->b<w.heap.size)/\∀w',(∀b o,F b o->w'.cell? ⟨b,o,none⟩=w.cell? ⟨b,o,none⟩)->(∀b o,κ.S0 b o->w'.cell? ⟨b,o,none⟩=κ.w0.cell? ⟨b,o,none⟩)->aN.rd (λb o=>κ.S0 b o\/F b o) w' [s.v d.length] d
 keep:=by rintro w w' F G ⟨c,i⟩ a g;exact⟨λb o hF=>SS (c b o hF) a.size,λe k j=>i e (λb o hF=>(k b o hF).trans (a.cell b o (c b o hF) λf=>g b o hF f)) j⟩
 lt h hF:=h.1 _ _ hF
def AHs(c:Ctx){O:Type}[aN O]:List AH->List (List O)->Prop
 |[],[]=>True
 |q::a,d::b=>(q.n=d.length/\bJ c q.s d)/\AHs c a b
 |_,_=>False
def AHs.get{c:Ctx}[aN O]:∀{qs:List AH} {ds:List (List O)},AHs c qs ds->qs.length=ds.length/\∀(i:Nat) (f:i<qs.length) (e:i<ds.length),qs[i].n=ds[i].length/\bJ c qs[i].s ds[i]
 |[],[],_=>⟨rfl,λi h=>by simp at h⟩
 |q::qs,d::ds,h=>by
  obtain⟨a,b⟩:=h.2.get;refine⟨by simp[a],λi f e=>?_⟩;cases i with
  |zero=>exact h.1
  |succ i=>grind
def bN2{κ:Ctx}[aN O]{qs:List AH}{ds:List (List O)}{F:dA}(h:(dF [s.v qs.length] qs).P w F)(q:AHs κ qs ds):(cBr κ s ds).P w F:=by
 refine⟨λ_ _ r=>(dF [s.v qs.length] qs).lt h r,λw' u t=>?_⟩;obtain⟨m,p⟩:=q.get;obtain⟨y,c,e,x,v,a⟩:=(show AB F w' [s.v qs.length] qs from aN.rd_agree (aN.own_rd h) u);refine⟨y,c,aj,m ▸ x,v,?_⟩;obtain a|⟨b,off,rfl,a⟩:=a
 .grind
 .refine .inr ⟨b,off,rfl,λi n=>?_⟩;obtain⟨ec,g,f,d⟩:=a i aa;obtain⟨k,j⟩:=p i aa n;have d:ec=[(qs[i]' aa).s.v (qs[i]' aa).n]:=d;refine⟨ec,g,λo l=>.inr (f o l),?_⟩;rw[d,k];exact aN.rd_mono (aN.rd_agree j t) λ_ _ h=>.inl h
def HS.b{c:Ctx}{L:an}[aN O]{d:List O}(h:HS c w L)(i:Nat)(j:L[i]?=some (.o (cBr c s d))):bJ (fT w) s d:=by obtain⟨B,e⟩:=h.ex;obtain⟨⟨R,s1,_⟩,s0⟩:=id e;obtain⟨F,f⟩:=s1.chunk i (ch:=cBr c s d) (by rw[D0,j];rfl);have:=f.2 w (λ_ _ _=>rfl) (λb o a=>s1.keep.cell b o (s0 b o a) λg=>s1.apart b o g a);exact aN.rd_mono this λb o h=>h.elim (a37 e b o) (f.1 b o)
section
variable {P:Program} {T:TT} {hT:I3 P T} {n:Nat} {c:Ctx} {B0:Bl} {N:Act->World->Prop} {X:Nat->Act->World->Prop} {Q:Act->World->Prop} {K K':a8} {m m':Nat} {e e':SE} {L L':an} {cf cf' cf1 cf2:wJ} {o:Oper}
theorem chI(j:Nat){x y:Chunk}(d:V6 (j7 T n K cf m e L)=some (K',cf',m',e',L'))(f:L'[j]?=some (.o x))(b:gO j cf'.AV=true)(h:∀w F,x.P w F->y.P w F)
  (k:G (.mk P T hT n c B0 N X Q) K' m' e' (L'.set j (.o y)) cf'):G (.mk P T hT n c B0 N X Q) K m e L cf:=by
 refine go d (chg (λ_:Unit=>m') (λ_=>e') (λ_=>L'.set j (.o y)) (λB a w p q g=>?_) (λ_=>EW b) (λ_=>k));obtain⟨⟨R,s1,l⟩,s0⟩:=g;refine⟨(),[],aj,aj,⟨⟨R,?_,λz b=>?_⟩,s0⟩⟩
 .rw[ML,MR];exact s1.imp (kW.put j (by rw[D0,f];rfl) λF i=>h w F i)
 .rw[ML];obtain b|b:=nM b
  .grind
  .subst b;trivial
theorem brL[aN O](j:Nat){qs:List AH}{ds:List (List O)}(f:AHs c qs ds)(b:V6 (j7 T n K cf m e L)=some (K',cf',m',e',L'))(d:L'[j]?=some (ow s qs))(a:gO j cf'.AV=true)
  (k:G (.mk P T hT n c B0 N X Q) K' m' e' (L'.set j (.o (cBr c s ds))) cf'):G (.mk P T hT n c B0 N X Q) K m e L cf:=chI j b d a (λ_ _ h=>bN2 h f) k
end
section
variable {P:Program} {T:TT} {hT:I3 P T} {n:Nat} {c c':Ctx} {B0:Bl} {N N':Act->World->Prop} {X:Nat->Act->World->Prop} {Q Q':Act->World->Prop} {K K':a8} {m m':Nat} {e e':SE} {L L':an} {cf:wJ}
theorem aX3(d:∀a w,N' a w->N a w)(b:∀a w,Q' a w->Q a w):∀K:a8,(∀a w,NK (.mk P T hT n c' B0 N' X Q') K a w->NK (.mk P T hT n c B0 N X Q) K a w)/\∀i a w,XK (.mk P T hT n c' B0 N' X Q') K i a w->XK (.mk P T hT n c B0 N X Q) K i a w
 |[]=>⟨d,λ_ _ _ h=>h⟩
 |.s y::K=>by obtain⟨g,f⟩:=aX3 d b K;exact⟨λa w h=>CW.mono h g f b,f⟩
 |.k j::K=>by obtain⟨g,f⟩:=aX3 d b K;refine⟨g,λi a w h=>?_⟩;simp only[XK,aV5] at h ⊢;grind
theorem lkC{β ρ ex γ:Type}[aN O][aN β]{t:Func}{rs:List ResultVar}{u:t.results=rs.toArray}{sv:ρ->ex->SV}{Lf:ρ->ex->an}{r:ρ}{q:γ}{zz:Option γ}{x:Code}(j:Nat){us:List O}{d:List β}
  (hx:∀S w,(∀b o,c.S0 b o->S b o)->(∀b o,c.S0 b o->w.cell? ⟨b,o,none⟩=c.w0.cell? ⟨b,o,none⟩)->aN.rd S w [s.v us.length] us->aN.rd S w [s.v d.length] d)
  (hs:V6 (j7 T n K cf m e L)=some (K',.c x,m',e',L')) (hj:L'[j]?=some (ow s us))
  (k:∀{c':Ctx},(∀{O:Type} [aN O] {s:AC} {d:List O},bJ c s d->bJ c' s d)->bJ c' s d->W (G (.mk P T hT n c' B0 (QR P t u c' B0 sv Lf r) (λ_ _ _=>False) (QR P t u c' B0 sv Lf r)) K' m' e' (L'.set j .no) (.c x)) q zz)
  (hn:∀r y,noF (Lf r y)=true:=by exact λ_ _=>rfl):W (G (.mk P T hT n c B0 (QR P t u c B0 sv Lf r) (λ_ _ _=>False) (QR P t u c B0 sv Lf r)) K m e L cf) q zz:=λhF=>by
 refine go hs λa w ⟨B,hm,hA,hS⟩=>?_;obtain⟨⟨R,s1,s2⟩,s0⟩:=id hS;obtain⟨F,S,a1,a2,a3,a4,Z,a6⟩:=s1.sep;obtain⟨Fj,Fr,Y,b2,b3,V⟩:=(Sep.take (c:=dF [s.v us.length] us) (i:=j) (by rw[D0,hj];rfl)).1 a1;have M:∀b o,F b o->¬c.S0 b o:=λb o U h0=>(a3 b o U).elim (λh=>s1.apart b o h h0) λh=>aj
 let g:Ctx:=⟨w,Fr,λb o=>c.S0 b o\/Fj b o\/S b o⟩
 have J:∀b o,g.S0 b o->b<w.heap.size:=λb o h=>h.elim (λh=>SS (s0 b o h) s1.keep.size) λh=>h.elim (λh=>(dF [s.v us.length] us).lt Y h) (Z b o);have A:∀b o,c.S0 b o->w.cell? ⟨b,o,none⟩=c.w0.cell? ⟨b,o,none⟩:=λb o h=>s1.keep.cell b o (s0 b o h) λhw=>s1.apart b o hw h;have ap:g.W.I9 g.S0:=λb o p C=>C.elim (λh=>M b o ((V b o).2 (.inr p)) h) λh=>h.elim (λh=>b3 b o h p) λh=>a2 b o ((V b o).2 (.inr p)) h;have E:nZ g w (B0++B) (L'.set j .no):=by
  refine⟨⟨R,⟨fN.refl _ _,⟨Fr,S,?_,λb o p C=>a2 b o ((V b o).2 (.inr p)) C,λb o h=>.inl h,λb o h=>.inl (.inr (.inr h)),Z,a6⟩,ap⟩,λz D=>?_⟩,J⟩
  .rw[MR];exact b2
  .obtain D|D:=nM D
   .grind
   .subst D;trivial
 have I:∀{O:Type} [aN O] {s:AC} {d:List O},bJ c s d->bJ g s d:=λh=>aN.rd_mono (aN.rd_agree h A) λ_ _ h=>.inl h;have H:bJ g s d:=hx _ _ (λ_ _ h=>.inl h) A (aN.rd_mono (aN.own_rd Y) λ_ _ h=>.inr (.inl h));have l:∀a w,QR P t u g B0 sv Lf r a w->QR P t u c B0 sv Lf r a w:=λa w2 ⟨hd,v,hv,y,p,C⟩=>by
  obtain⟨⟨R2,t1,_⟩,_⟩:=C;obtain⟨F2,S2,e1,e2,e3,e4,e5,e6⟩:=t1.sep;refine⟨hd,v,hv,y,p,⟨⟨[],⟨s1.keep.trans t1.keep λb o hb h=>?_,⟨F2,F0,e1,λ_ _ _ h=>h,λb o h=>?_,λ_ _ h=>h.elim,λ_ _ h=>h.elim,λf U=>by cases U⟩,s1.apart⟩,aQI (hn r y)⟩,s0⟩⟩
  .grind
  .obtain h|h:=e3 b o h
   .grind
   .exact .inr (wI s1.keep.size h)
 obtain⟨m1,m2⟩:=aX3 (P:=P) (T:=T) (hT:=hT) (n:=n) (c:=c) (c':=g) (B0:=B0) (X:=λ_ _ _=>False) l l K';exact CW.mono (k I H hF a w ⟨B,hm,hA,E⟩) m1 m2 l
end
def bLJ{c:Ctx}[aN O](k:aN.n O=1){us:cd}{d:List O}(a:aCP c.S0 c.w0 us d):∀S w,(∀b o,c.S0 b o->S b o)->(∀b o,c.S0 b o->w.cell? ⟨b,o,none⟩=c.w0.cell? ⟨b,o,none⟩)->aN.rd S w [s.v us.length] us->aN.rd S w [s.v d.length] d:=λS w j g h=>by rw[<-a.1];exact bBN k h ⟨a.1,λi u x f e=>aN.rd_mono (aN.rd_agree (a.2 i u x f e) g) j⟩
section
variable {P:Program} {T:TT} {hT:I3 P T} {n:Nat} {c:Ctx} {B0:Bl} {N:Act->World->Prop} {X:Nat->Act->World->Prop} {Q:Act->World->Prop} {K K':a8} {m m':Nat} {e e':SE} {L L' Lv:an} {cf cf1 cf2:wJ} {o:Oper} {d:Nat}
variable {x y z:Operand} {t t2 el sz:Nat} {zv:Value} {b1 b2:Bool} {n1 n2:Nat} {z1 z2:aq} {kt:TK} {k2:IntKind}
theorem qcn(h:opS (j7 T n K cf m e L)=some (o,Lv,cf1,cf2,K',m',e',L'))(b:(o.op,o.dst)=(.call {callee:=.builtin .cap,args:=#[x],argTypes:=#[t]},some d))(f:jS e' x=some (.h ⟨none,0⟩ 0))(g:AY T t=some ⟨.sl el,b1,n1,z1⟩)
  (kk:G (.mk P T hT n c B0 N X Q) K' m' ((d,.i .i64 0)::e') L' cf2):G (.mk P T hT n c B0 N X Q) K m e L cf:=
 pu h (dL Prod.snd b) (λB a w i _=>by
  obtain⟨v,k,j⟩:=fL i f;cases k;exact⟨.int .i64 0,rfl,a8Q (JA g hT) (dL Prod.fst b) j⟩) kk
theorem qn0(j:opS (j7 T n K cf m e L)=some (o,Lv,cf1,cf2,K',m',e',L'))(b:(o.op,o.dst)=(.slice t x none (some z) none,some d))(h:jS e' x=some (.h ⟨none,0⟩ 0))(g:(jS e' z).bind uK=some (k2,0))(i:AY T t=some ⟨.sl el,b1,n1,z1⟩)(k:AY T el=some ⟨kt,b2,sz,z2⟩)
  (kk:G (.mk P T hT n c B0 N X Q) K' m' ((d,.h ⟨none,0⟩ 0)::e') L' cf2):G (.mk P T hT n c B0 N X Q) K m e L cf:=
 pu j (dL Prod.snd b) (λB a w f _=>by
  obtain⟨v,p,l⟩:=fL f h;cases p;exact⟨.slice none 0 0,rfl,a6M (n:=sz) ⟨_,_,_,rfl⟩ (JA i hT) (hT.size _ _ k) (dL Prod.fst b) l (AW f g)⟩) kk
theorem apZ{i:Int}(E:1<=i/\i<=1073741824)(b:XE P el sz zv)(C:j7 T n K cf m e L=.op o Lv cf1 cf2 K' m' e' L')(j:(o.op,o.dst)=(.call {callee:=.builtin .append,args:=#[x,y],argTypes:=#[t,t2]},some d))(A:AY T t=some ⟨.sl el,b1,n1,z1⟩)(h:AY T t2=some ⟨.i k2,b2,n2,z2⟩)(g:zv.cells.size=sz)(D:Nat.ble 1 sz=true)(s:jS e' x=some (.h ⟨none,0⟩ 0))(r:(jS e' y).bind uK=some (.i64,i))
  (k:∀s':AC,G (.mk P T hT n c B0 N X Q) K' m' ((d,.h s' (List.replicate i.toNat (0:Int)).length)::e') (L'++[.o (bBO (s'.v (List.replicate i.toNat (0:Int)).length) sz)]) cf2):G (.mk P T hT n c B0 N X Q) K m e L cf:=by
 refine aXV (l:=List.replicate i.toNat (0:Int)) (λs'=>L'++[.o (bBO (s'.v (List.replicate i.toNat (0:Int)).length) sz)]) C (dL Prod.snd j) (λ_=>tV _) (λB a w p F=>?_) k;obtain⟨⟨R,q,U⟩,s0⟩:=F;obtain⟨v,I,H⟩:=fL p s;cases I;obtain⟨u,M,J⟩:=hT.und _ _ h;subst J;obtain⟨v,w',V,k2,S,O,rfl⟩:=bGZ (e:=vE B e') (o:=o) q (JA A hT) M b g D E (dL Prod.fst j) H (AW p r);refine⟨⟨S,O⟩,w',aj,⟨⟨R,by grind[lS],λz f=>?_⟩,s0⟩⟩;obtain f|f:=j4.1 f
 .grind
 .simp at f;subst f;trivial
theorem rn0(O:Type)[aN O](j:Nat){kk:Nat}(hn:aN.n O=sz)(q:j7 T n K cf m e L=.op o Lv cf1 cf2 K' m' e' L')(g:(o.op,o.dst)=(.slice t x none (some z) none,some d))(i:jS e' x=some (.h s kk))(b:(jS e' z).bind uK=some (k2,0))(p:AY T t=some ⟨.sl el,b1,n1,z1⟩)(u:AY T el=some ⟨kt,b2,sz,z2⟩)(r:L'[j]?=some (.o (bBO (s.v kk) sz)))(f:gO j cf1.AV=true)
  (k:∀s':AC,G (.mk P T hT n c B0 N X Q) K' m' ((d,.h s' ([]:List O).length)::e') (L'.set j (ow s' ([]:List O))) cf2):G (.mk P T hT n c B0 N X Q) K m e L cf:=by
 refine aXV (l:=([]:List O)) (λs'=>L'.set j (ow s' ([]:List O))) q (dL Prod.snd g) (λ_=>EW f) (λB a w h A=>?_) k;obtain⟨⟨R,s1,E⟩,s0⟩:=A;obtain⟨v,D,C⟩:=fL h i;cases D;have k2:=s1.bKV (O:=O) j (by rw[D0,r];rfl) hn;refine⟨s.sub sz 0,w,a6M (n:=sz) ⟨_,_,_,rfl⟩ (JA p hT) (hT.size _ _ u) (dL Prod.fst g) C (AW h b),⟨⟨R,?_,λz b=>?_⟩,s0⟩⟩
 .rw[MR];exact k2
 .obtain b|b:=nM b
  .grind
  .subst b;trivial
end
def ah2{c:Ctx}[aN O]{b a:AH}{e d:List O}(g:b.n=e.length/\bJ c b.s e)(f:a.n=d.length/\bJ c a.s d):AHs c [b,a] [e,d]:=And.intro g (And.intro f trivial)
def rwX{C:Prop}{c:Ctx}[aN O](hn:aN.n O=1){d:List O}(h:bJ c s d)(k:∀us:cd,bJ c s us->aCP c.S0 c.w0 us d->C):C:=by obtain⟨us,b,a⟩:=bKU hn h;refine k us ?_ a;unfold bJ;rw[a.1];exact b
def bN3{n:Int}(hn:0<=n/\n<=1073741824)(a:decide (0<bB (n-bB (0-0)))=true):1<=bB (n-bB (0-0))/\bB (n-bB (0-0))<=1073741824:=by grind[V4]
def a1G{O:Type}:∀l:List O,frc l=some l
 |[]=>rfl
 |x::l=>by simp only[frc,a1G l]
def aX4(x:SV):∀(cs:aq) (i:Nat),nbL (cs.set i x)=(nbL cs).set i (nb1 x)
 |[],_=>rfl
 |y::cs,0=>rfl
 |y::cs,i+1=>by simp only[List.set_cons_succ,nbL,aX4 x cs i]
def aB(l:az):aq:=[.b (l.getD 0 false),.b (l.getD 1 false),.b (l.getD 2 false),.b (l.getD 3 false),.b (l.getD 4 false),.b (l.getD 5 false),.b (l.getD 6 false),.b (l.getD 7 false),.b (l.getD 8 false),.b (l.getD 9 false),.b (l.getD 10 false),.b (l.getD 11 false),.b (l.getD 12 false),.b (l.getD 13 false),.b (l.getD 14 false),.b (l.getD 15 false),.b (l.getD 16 false),.b (l.getD 17 false),.b (l.getD 18 false),.b (l.getD 19 false),.b (l.getD 20 false),.b (l.getD 21 false),.b (l.getD 22 false),.b (l.getD 23 false)]
def a4J{l:az}(h:i<24):(aB l)[i]?=some (.b (l.getD i false)):=by have:(aB l).length=24:=rfl;obtain _|_|_|_|_|_|_|_|_|_|_|_|_|_|_|_|_|_|_|_|_|_|_|_|i:=i<;>first|rfl|omega
def bLK{l:az}(h:i<24)(b:i<l.length)(u:Bool):(aB l).set i (.b u)=aB (l.set i u):=by
 refine aFF λk=>?_;have e:(aB l).length=24:=rfl;by_cases a:k<24
 .rw[a4J a,List.getElem?_set];by_cases q:i=k
  .grind
  .rw[aO q,a4J a];grind
 simp_all[aB]
section
variable {P:Program} {T:TT} {hT:I3 P T} {n:Nat} {c:Ctx} {B0:Bl} {N:Act->World->Prop} {X:Nat->Act->World->Prop} {Q:Act->World->Prop} {K K':a8} {m m':Nat} {e e':SE} {L L':an} {cf cf1 cf2:wJ} {o:Oper} {Lv:an} {d:Nat}
variable {x y:Operand} {t el:TypeId} {k:IntKind} {i:Int} {β:Type} {A:Option β} {kf:Bool->Option β} {q:β} {n1 b0:Nat} {l:az}
theorem elP{B:Bl}{b i:Nat}(a:B[b0]?=some (b,z)):gT B (.p b0 i)=gT B (.e ⟨some ⟨b,z,none⟩,0⟩ 1 i 0):=by simp[gT,gV,cA,a,elB,Y5]
theorem qia(U:P.underlying t=some (.array 24 el))(h:∀w,(sizeOf el).run P w=.ok 1 w)(V:j7 T n K cf m e L=.op o Lv cf1 cf2 K' m' e' L')(F:(o.op,o.dst)=(.indexAddr t x y,some d))(O:jS e' x=some (.p b0 0))(M:(jS e' y).bind uK=some (k,i))(H:need (0<=i/\i<24) A=some q)
  (kk:0<=i/\i<24->A=some q->∀b z:Nat,G (.mk P T hT n c B0 N X Q) K' m' ((d,.e ⟨some ⟨b,z,none⟩,0⟩ 1 i.toNat 0)::e') (L'++[.w b0 b z]) cf2):G (.mk P T hT n c B0 N X Q) K m e L cf:=by
 have E:=(mZ H).1;have W:o.dst=some d:=dL Prod.snd F;refine iV (g:=.mk P T hT n c B0 N X Q) ?_;rw[V];intro I _ Z;refine Z (Nat×Nat) (λ_=>m') (λs=>(d,.e ⟨some ⟨s.1,s.2,none⟩,0⟩ 1 i.toNat 0)::e') (λs=>L'++[.w b0 s.1 s.2]) (λ_=>tV _) (λB a w next Q' hm r Y f=>?_) (λs=>kk E (mZ H).2 s.1 s.2);obtain⟨v,u,h2⟩:=fL r O;have h3:=AW r M;simp only[gT,gV,cA] at u;split at u
 .rename_i b z D;cases u;have S:(B0S (.mk P T hT n c B0 N X Q) cf1++B)[b0]?=some (b,z):=D;have j:gD P o (vE (B0S (.mk P T hT n c B0 N X Q) cf1++B) e') w (.pointer (some ⟨b,z+i.toNat,none⟩)) w:=λ_ a' p=>by
   have C:o.op=.indexAddr t x y:=dL Prod.fst F;have h5:(⟨b,z,none⟩:Addr).add i.toNat=⟨b,z+i.toNat,none⟩:=by grind[Addr.add]
   simp[execOp,C,Instr.indexAt,p.eval h2,p.eval h3,asIntOf,run_underlying U,Instr.sureAddr,E.1,E.2,h,h5]
  unfold Oper.wp;rw[j _ a r.env,Oper.upon_value,W];obtain⟨⟨R,J,s2⟩,s0⟩:=Y;refine f (b,z) _ _ ⟨[],aj,by simpa using r.of (by simp[gT,gV,cA,elB,Y5]) (r.env.put (by grind[tR,AA]) _),?_⟩;rw[ML];refine⟨⟨R,by rw[D1];exact a0Z J,λz h=>?_⟩,s0⟩;obtain h|h:=j4.1 h
  .grind
  .simp at h;subst h;exact S
 .cases u
theorem qal{E:TK}{C:Nat}{D:aq}{b:Nat}(p:Nat)(s:0<=i/\i<24)(M:opS (j7 T n K cf m e L)=some (o,Lv,cf1,cf2,K',m',e',L'))(f:(o.op,o.dst)=(.load t x,some d))(H:jS e' x=some (.e ⟨some ⟨b,z,none⟩,0⟩ 1 i.toNat 0))(O:Lv[p]?=some (.w b0 b z))(S:MS b0 Lv=some (aB l))(J:AY T t=some ⟨E,false,C,D⟩)(j:(idx l i).bind kf=some q)
  (kk:∀u,kf u=some q->G (.mk P T hT n c B0 N X Q) K' m' ((d,.b u)::e') L' cf2):G (.mk P T hT n c B0 N X Q) K m e L cf:=by
 cases g:idx l i with
 |none=>grind
 |some u=>
  rw[g] at j;refine pu M (dL Prod.snd f) (λB a w U h=>?_) (kk u j);obtain⟨v,W,V⟩:=fL U H;have I:B[b0]?=some (b,z):=by obtain⟨⟨R,_,F⟩,_⟩:=id h;exact F _ (O1 O)
  refine a0T (a:=.p b0 i.toNat) (r:=.b u) hT h (dL Prod.fst f) V ((elP I).trans W) ?_;simp only[aV9,S,J];rw[a4J aa,MQ,(EV g).2.2];rfl
theorem bN4{v:SV}{y:Operand}(h:jS [] y=some v)(e:SE):jS e y=some v:=by cases y<;>first|exact h|grind[jS,HL]
theorem qas{tk:TK}{ag:Bool}{z1:aq}{u:Bool}{b D:Nat}(p:Nat)(h24:0<=i/\i<24)(hs:j7 T n K cf m e L=.op o Lv cf1 cf2 K' m' e' L')(V:(o.op,o.dst)=(.store t (.tmp D) y,none))(hx:HL e' D=some (.e ⟨some ⟨b,z,none⟩,0⟩ 1 i.toNat 0))(hy:jS [] y=some (.l u))(hp:L'[p]?=some (.w b0 b z))(s:XH b0 L'=true)(hb:MS b0 L'=some (aB l))(ht:AY T t=some ⟨tk,ag,1,z1⟩)(E:noD cf1=true)(Z:(idx l i).bind kf=some q)
  (kk:∀v,kf v=some q->G (.mk P T hT n c B0 N X Q) K' m' e' (wW b0 (aB (l.set i.toNat u)) L') cf2):G (.mk P T hT n c B0 N X Q) K m e L cf:=by
 cases W:idx l i with
 |none=>grind
 |some v=>
  rw[W] at Z;obtain⟨i0,i1,i2⟩:=EV W;have J:i.toNat<l.length:=aa
  have I:o.op=.store t (.tmp D) y:=dL Prod.fst V;have hd:o.dst=none:=dL Prod.snd V;have H:Y8 T t (.p b0 i.toNat) (.l u) L'=some (wW b0 ((aB l).set i.toNat (.l u)) L'):=by
   have e1:Nat.beq 1 1=true:=rfl;have e2:Nat.ble (i.toNat+1) (aB l).length=true:=by rw[Nat.ble_eq];show i.toNat+1<=24;omega
   have e3:qP (.l u)=[.l u]:=rfl;have e4:isCells (.l u)=true:=rfl;simp only[Y8,s,hb,ht,e3,e4,List.length_singleton,e1,e2,a1G];simp_all[aQA,bBY]
  refine iV (g:=.mk P T hT n c B0 N X Q) ?_;rw[hs];intro hdn _ hE;refine hE Unit (λ_=>m') (λ_=>e') (λ_=>wW b0 (aB (l.set i.toNat u)) L') (λ_=>?_) (λB a w next Q' hm r Y h=>?_) (λ_=>kk v Z)
  .cases cf1 with
   |d _ _ _ _ _ _=>cases E
   |o _ _ _ _ _ _ _=>cases E
   |_=>trivial
  .have hw:(B0S (.mk P T hT n c B0 N X Q) cf1++B)[b0]?=some (b,z):=by obtain⟨⟨R,_,O⟩,_⟩:=id Y;exact O _ (O1 hp)
   have C:iW n (B0S (.mk P T hT n c B0 N X Q) cf1++B) ((D,.p b0 i.toNat)::e') a:=⟨r.d,r.size,λU x' f=>by
    simp only[HL] at f;split at f
    .rename_i hq;cases f;have:=rR hq;subst this;obtain⟨v,g1,g2⟩:=r.get U _ hx;grind[elP]
    .exact r.get U x' f⟩
   obtain⟨w',k1,S⟩:=aWC hT C Y I (by simp[jS,HL]) (bN4 hy _) H;unfold Oper.wp;rw[k1 _ a C.env,Oper.upon_skip,hd];refine h () _ _ ⟨[],aj,by rw[ML];exact⟨r.d,r.size,r.get⟩,?_⟩;rw[ML];obtain⟨j,cs,g1,g2,g3⟩:=aQD s;rw[g3] at S ⊢;obtain⟨⟨R,s1,O⟩,s0⟩:=S;have e0:∀B:Bl,bE (cA B) ((aB l).set i.toNat (.l u))=bE (cA B) (aB (l.set i.toNat u)):=λB=>by rw[<-bLK aa J,<-QZ,<-QZ (cs:=(aB l).set i.toNat (.b u)),aX4,aX4];rfl
   refine⟨⟨R,?_,λz E=>?_⟩,s0⟩
   .rw[MR] at s1 ⊢;refine s1.imp (kW.set j (kW.refl _) λF ⟨b,z,vs,q1,q2,q3⟩=>⟨b,z,vs,q1,(e0 _).symm.trans q2,q3⟩)
   .obtain⟨k,f⟩:=aLY E;by_cases M:j=k
    .subst M;rw[List.getElem?_set] at f;simp only[aS] at f;split at f
     .cases f;trivial
     .cases f
    .exact O z (O1 (i:=k) aj)
end
def aWL[aN O]{l:List O}{sz:Nat}(hn:aN.n O=sz){F:dA}(h:(qN (s.v l.length) l 0).P w F):l.length<=s.c/\∃z,aN.own w [(s.sub sz (1:Int).toNat).v ((l.take l.length).drop (1:Int).toNat).length] ((l.take l.length).drop (1:Int).toNat) z/\∀b o,z b o->F b o:=by
 obtain⟨a,c,b,off,c1,S,T,J,e,E,P,N,rfl,D,M,u,L,t,R,Q,I,y⟩:=h;subst hn;obtain⟨K,d⟩:=s;simp only[AC.v,Value.slice.injEq] at e;obtain⟨rfl,-,rfl⟩:=e;refine⟨E,?_⟩;have H:(l.take l.length).drop (1:Int).toNat=l.drop 1:=ae
 rw[H];have r:(l.drop 1).length=l.length-1:=ae
 by_cases x:d=1
 .have C:l.drop 1=[]:=AX aa;refine⟨F0,?_,λ_ _ h=>h.elim⟩;subst x;rw[C];exact nN.2 ⟨some ⟨b,off,none⟩,0,rfl,jR _,lR _,.inr ⟨b,off,[],F0,rfl,λo p=>by obtain⟨_,i,g⟩:=p;omega,λj v h=>by simp at h,⟨rfl,λ_ _ h=>h⟩,λ_ _ h=>h.elim,λf o=>by simp[F0,fQ]⟩⟩
 .have n:aN.n O+(d-1)*aN.n O=d*aN.n O:=by obtain⟨m,rfl⟩:∃m,d=m+1:=⟨d-1,aa⟩;rw[pP,Nat.add_sub_cancel];omega
  have G:AC.v (AC.sub ⟨some ⟨b,off,none⟩,d⟩ (aN.n O) (1:Int).toNat) (l.drop 1).length=.slice (some ⟨b,off+aN.n O,none⟩) (l.drop 1).length (d-1):=by show AC.v (AC.sub ⟨some ⟨b,off,none⟩,d⟩ (aN.n O) 1) _=_;simp[AC.sub,AC.v,x,Addr.add]
  rw[G];simp only[aAQ,Nat.one_mul] at u t;refine⟨λf o=>fQ b (off+aN.n O) ((d-1)*aN.n O) f o\/J f o,MY (λo p=>D o ?_ ?_) u t (λf o p q=>I f o p ?_) aa aa,?_⟩
  .obtain⟨_,i,g⟩:=p;exact⟨rfl,aa,aa⟩
  .rintro⟨_,B,A⟩;obtain⟨_,i,g⟩:=p;omega
  .obtain⟨k,i,g⟩:=q;exact⟨k,aa,aa⟩
  .rintro f o (p|p)
   .refine(y f o).2 (.inl ⟨?_,?_⟩)
    .obtain⟨k,i,g⟩:=p;exact⟨k,aa,aa⟩
    .rintro⟨_,B,A⟩;obtain⟨_,i,g⟩:=p;omega
   .exact(y f o).2 (.inr (.inr p))
section
variable {P:Program} {T:TT} {hT:I3 P T} {n:Nat} {c:Ctx} {B0:Bl} {N:Act->World->Prop} {X:Nat->Act->World->Prop} {Q:Act->World->Prop} {K K':a8} {m m':Nat} {e e':SE} {L L':an} {cf cf':wJ}
theorem hoT[aN O](j:Nat){sz:Nat}{l:List O}(hn:aN.n O=sz)(g:V6 (j7 T n K cf m e L)=some (K',cf',m',e',L'))(f:L'[j]?=some (.o (qN (s.v l.length) l 0)))(a:gO j cf'.AV=true)
  (k:l.length<=s.c->G (.mk P T hT n c B0 N X Q) K' m' e' (L'.set j (ow (s.sub sz (1:Int).toNat) ((l.take l.length).drop (1:Int).toNat))) cf'):G (.mk P T hT n c B0 N X Q) K m e L cf:=by
 refine go g (chg (λ_:PLift (l.length<=s.c)=>m') (λ_=>e') (λ_=>L'.set j (ow (s.sub sz (1:Int).toNat) ((l.take l.length).drop (1:Int).toNat))) (λB y w v x i=>?_) (λ_=>EW a) (λh=>k h.down));obtain⟨⟨R,s1,u⟩,s0⟩:=i;obtain⟨A,d⟩:=s1.chunk (ch:=qN (s.v l.length) l 0) j (by simp[f,lS]);refine⟨⟨(aWL hn d).1⟩,[],aj,aj,⟨⟨R,?_,λz a=>?_⟩,s0⟩⟩
 .rw[ML,MR];refine s1.aHK j (by rw[D0,f];rfl) λF p=>?_;obtain⟨_,t,r,q⟩:=aWL hn p;exact⟨t,F0,fN.refl _ _,λ_ _ h=>h.elim,r,λb o h=>.inl (q b o h)⟩
 .rw[ML];obtain a|a:=nM a
  .grind
  .subst a;trivial
end
section
variable {P:Program} {T:TT} {hT:I3 P T} {n:Nat} {c:Ctx} {B0:Bl} {N:Act->World->Prop} {X:Nat->Act->World->Prop} {Q:Act->World->Prop} {K K':a8} {m m':Nat} {e e':SE} {L L':an} {cf cf1 cf2:wJ} {o:Oper}
variable {O β ex:Type} {fo:Option O} {kf:O->Option β} {q:β} {d:cm} {f:FuncId} {xs xs0:aq} {M:an} {sv:O->ex->SV} {Lr:O->ex->an}
theorem aAS(is:ar)
  (b:cpS (j7 T n K cf m e L)=some (o,d,f,xs,cf1,cf2,K',m',e',L')) (h:bE (λi=>L'[i]?) is=some M) (a:bE (rnP [] 0) xs=some xs0)
  (g:(MN M && (eA is && is.all λj=>gO j cf1.AV))=true)
  (l:∀{κ:Ctx},HG c κ L' is->VS P κ f fo xs0 [] M sv Lr)
  (k:∀x,∀y:ex,W (G (.mk P T hT n c B0 N X Q) K' m' (dse d (sv x y) e') (aH1 is 0 L'++Lr x y) cf2) q (kf x)) (hn:∀x y,(MN (Lr x y) && CR 0 (sv x y))=true:=by exact λ_ _=>rfl):W (G (.mk P T hT n c B0 N X Q) K m e L cf) q (fo.bind kf):=gP is ⟨b,h,a,g⟩ l (λx y=>by rw[a4I];exact k x y) hn
end
abbrev VI(x:Int):Value:=.int .i64 x
structure cE where
 b:aF
 i:Int
 h:Int
 deriving DecidableEq,Inhabited
abbrev a7R(d:cE):=(d.b,d.i,d.h)
instance:aN cE:=aN.via a7R
instance:Fits cE:=Fits.via a7R
structure mS where
 Kind:Int
 Cell:Int
 jZ:Int
 cT:Int
 deriving DecidableEq,Inhabited
abbrev bm:=List mS
abbrev bDG(d:mS):=(d.Kind,d.Cell,d.jZ,d.cT)
instance:aN mS:=aN.via bDG
instance:Fits mS:=Fits.via bDG
def bDH{S:dA}{cs:ao}{d:mS}(h:aN.rd S w cs d):cs=[VI d.Kind,VI d.Cell,VI d.jZ,VI d.cT]:=by obtain⟨c0,s,p,m,j⟩:=h;have f:c0=[_]:=m;obtain⟨c1,r,o,l,i⟩:=j;have e:c1=[_]:=l;obtain⟨q,a,n,k,g⟩:=i;have c:q=[_]:=k;have b:a=[_]:=g;exact by rw[p,o,n,f,e,c,b];rfl
def a4K{S:dA}(d:mS):aN.rd S w [VI d.Kind,VI d.Cell,VI d.jZ,VI d.cT] d:=⟨[VI d.Kind],[VI d.Cell,VI d.jZ,VI d.cT],rfl,rfl,⟨[VI d.Cell],[VI d.jZ,VI d.cT],rfl,rfl,⟨[VI d.jZ],[VI d.cT],rfl,rfl,rfl⟩⟩⟩
instance:Flat mS:=⟨λh=>Flat.own_of (O:=Int×Int×Int×Int) h,λh=>Flat.no (O:=Int×Int×Int×Int) h⟩
def bLL(d:mS):OP [VI d.Kind,VI d.Cell,VI d.jZ,VI d.cT] d []:=(show OP _ (bDG d) _ from(cO (c1:=[VI d.Kind]) (A:=[]) (cW rfl) (cO (c1:=[VI d.Cell]) (A:=[]) (cW rfl) (cO (c1:=[VI d.jZ]) (A:=[]) (cW rfl) (cW rfl) rfl) rfl) rfl))
structure Queue where
 mY:bm
 deriving DecidableEq,Inhabited
abbrev av:=List Queue
abbrev aX5(d:Queue):=(d.mY)
instance:aN Queue:=aN.via aX5
instance:Fits Queue:=Fits.via aX5
def bDI{S:dA}{cs:ao}{d:Queue}(h:aN.rd S w cs d):∃a:Value,cs=[a]/\aN.rd S w [a] d.mY:=by obtain⟨c,b⟩:=eX h;rw[b] at h;exact⟨c,b,h⟩
def bDJ(d:Queue){a:Value}:OP [a] d [dF [a] d.mY]:=(show OP _ (aX5 d) _ from oW)
structure iD where
 aY:av
 bG:al
 deriving DecidableEq,Inhabited
abbrev a1H(d:iD):=(d.aY,d.bG)
instance:aN iD:=aN.via a1H
instance:Fits iD:=Fits.via a1H
structure Heap where
 Bytes:al
 Class:al
 deriving DecidableEq,Inhabited
abbrev a4L(d:Heap):=(d.Bytes,d.Class)
instance:aN Heap:=aN.via a4L
instance:Fits Heap:=Fits.via a4L
def bH0{S:dA}{cs:ao}{d:Heap}(h:aN.rd S w cs d):∃e c:Value,cs=[e,c]/\aN.rd S w [e] d.Bytes/\aN.rd S w [c] d.Class:=by obtain⟨c0,k,j,b,a⟩:=h;obtain⟨i,g⟩:=eX b;rw[g] at b;obtain⟨u1,f⟩:=eX a;rw[f] at a;exact⟨i,u1,by rw[j,g,f];rfl,b,a⟩
def bH1(d:Heap){a:Value}{b:Value}:OP [a,b] d [dF [a] d.Bytes,dF [b] d.Class]:=(show OP _ (a4L d) _ from(cO (c1:=[a]) (A:=[dF [a] d.Bytes]) oW oW rfl))
structure bD where
 bA:al
 deriving DecidableEq,Inhabited
abbrev ax:=List bD
abbrev aX6(d:bD):=(d.bA)
instance:aN bD:=aN.via aX6
instance:Fits bD:=Fits.via aX6
def bDK{S:dA}{cs:ao}{d:bD}(h:aN.rd S w cs d):∃a:Value,cs=[a]/\aN.rd S w [a] d.bA:=by obtain⟨c,b⟩:=eX h;rw[b] at h;exact⟨c,b,h⟩
def JD(d:bD){a:Value}:OP [a] d [dF [a] d.bA]:=(show OP _ (aX6 d) _ from oW)
structure aD where
 Global:ax
 Own:ax
 deriving DecidableEq,Inhabited
abbrev aX7(d:aD):=(d.Global,d.Own)
instance:aN aD:=aN.via aX7
instance:Fits aD:=Fits.via aX7
def bDL{S:dA}{cs:ao}{d:aD}(h:aN.rd S w cs d):∃e c:Value,cs=[e,c]/\aN.rd S w [e] d.Global/\aN.rd S w [c] d.Own:=by obtain⟨c0,k,j,b,a⟩:=h;obtain⟨i,g⟩:=eX b;rw[g] at b;obtain⟨u1,f⟩:=eX a;rw[f] at a;exact⟨i,u1,by rw[j,g,f];rfl,b,a⟩
def bDM(d:aD){a:Value}{b:Value}:OP [a,b] d [dF [a] d.Global,dF [b] d.Own]:=(show OP _ (aX7 d) _ from(cO (c1:=[a]) (A:=[dF [a] d.Global]) oW oW rfl))
structure Mem where
 Heap:Heap
 aD:aD
 deriving DecidableEq,Inhabited
abbrev cq:=Option (Mem×Int)
abbrev bDN(d:Mem):=(d.Heap,d.aD)
instance:aN Mem:=aN.via bDN
instance:Fits Mem:=Fits.via bDN
def bLM{S:dA}{cs:ao}{d:Mem}(h:aN.rd S w cs d):∃n m l k:Value,cs=[n,m,l,k]/\aN.rd S w [n] d.Heap.Bytes/\aN.rd S w [m] d.Heap.Class/\aN.rd S w [l] d.aD.Global/\aN.rd S w [k] d.aD.Own:=by obtain⟨c0,t,s,r,q⟩:=h;obtain⟨j,i,p,e,c⟩:=bH0 r;obtain⟨g,f,o,b,a⟩:=bDL q;exact⟨j,i,g,f,by rw[s,p,o];rfl,e,c,b,a⟩
def bLN(d:Mem){b:Value}{a:Value}:OP [b,a,e,c] d [dF [b] d.Heap.Bytes,dF [a] d.Heap.Class,dF [e] d.aD.Global,dF [c] d.aD.Own]:=(show OP _ (bDN d) _ from(cO (c1:=[b,a]) (A:=[dF [b] d.Heap.Bytes,dF [a] d.Heap.Class]) (bH1 _) (bDM _) rfl))
structure xZ where
 On:Bool
 aP:Int
 gU:Bool
 Seen:Int
 deriving DecidableEq,Inhabited
abbrev b6:=List xZ
abbrev bDO(d:xZ):=(d.On,d.aP,d.gU,d.Seen)
instance:aN xZ:=aN.via bDO
instance:Fits xZ:=Fits.via bDO
def bLO{S:dA}{cs:ao}{d:xZ}(h:aN.rd S w cs d):cs=[.bool d.On,VI d.aP,.bool d.gU,VI d.Seen]:=by obtain⟨c0,s,p,m,j⟩:=h;have f:c0=[_]:=m;obtain⟨c1,r,o,l,i⟩:=j;have e:c1=[_]:=l;obtain⟨q,a,n,k,g⟩:=i;have c:q=[_]:=k;have b:a=[_]:=g;exact by rw[p,o,n,f,e,c,b];rfl
def bDP{S:dA}(d:xZ):aN.rd S w [.bool d.On,VI d.aP,.bool d.gU,VI d.Seen] d:=⟨[.bool d.On],[VI d.aP,.bool d.gU,VI d.Seen],rfl,rfl,⟨[VI d.aP],[.bool d.gU,VI d.Seen],rfl,rfl,⟨[.bool d.gU],[VI d.Seen],rfl,rfl,rfl⟩⟩⟩
instance:Flat xZ:=⟨λh=>Flat.own_of (O:=Bool×Int×Bool×Int) h,λh=>Flat.no (O:=Bool×Int×Bool×Int) h⟩
def bLP(d:xZ):OP [.bool d.On,VI d.aP,.bool d.gU,VI d.Seen] d []:=(show OP _ (bDO d) _ from(cO (c1:=[.bool d.On]) (A:=[]) (cW rfl) (cO (c1:=[VI d.aP]) (A:=[]) (cW rfl) (cO (c1:=[.bool d.gU]) (A:=[]) (cW rfl) (cW rfl) rfl) rfl) rfl))
structure aI where
 aP:Int
 bV:b6
 deriving DecidableEq,Inhabited
abbrev aX8(d:aI):=(d.aP,d.bV)
instance:aN aI:=aN.via aX8
instance:Fits aI:=Fits.via aX8
def bDQ{S:dA}{cs:ao}{d:aI}(h:aN.rd S w cs d):∃b:Value,cs=[VI d.aP,b]/\aN.rd S w [b] d.bV:=by obtain⟨c0,i,g,f,a⟩:=h;have e:c0=[_]:=f;obtain⟨u1,c⟩:=eX a;rw[c] at a;exact⟨u1,by rw[g,e,c];rfl,a⟩
def bDR(d:aI){a:Value}:OP [VI d.aP,a] d [dF [a] d.bV]:=(show OP _ (aX8 d) _ from(cO (c1:=[VI d.aP]) (A:=[]) (cW rfl) oW rfl))
structure eW where
 Handle:Int
 aP:Int
 deriving DecidableEq,Inhabited
abbrev bg:=List eW
abbrev a4M(d:eW):=(d.Handle,d.aP)
instance:aN eW:=aN.via a4M
instance:Fits eW:=Fits.via a4M
def bH2{S:dA}{cs:ao}{d:eW}(h:aN.rd S w cs d):cs=[VI d.Handle,VI d.aP]:=by obtain⟨c0,a,g,f,e⟩:=h;have c:c0=[_]:=f;have b:a=[_]:=e;exact by rw[g,c,b];rfl
def bH3{S:dA}(d:eW):aN.rd S w [VI d.Handle,VI d.aP] d:=⟨[VI d.Handle],[VI d.aP],rfl,rfl,rfl⟩
instance:Flat eW:=⟨λh=>Flat.own_of (O:=Int×Int) h,λh=>Flat.no (O:=Int×Int) h⟩
def bH4(d:eW):OP [VI d.Handle,VI d.aP] d []:=(show OP _ (a4M d) _ from(cO (c1:=[VI d.Handle]) (A:=[]) (cW rfl) (cW rfl) rfl))
structure bP where
 Rows:bg
 deriving DecidableEq,Inhabited
abbrev a7:=List bP
abbrev aX9(d:bP):=(d.Rows)
instance:aN bP:=aN.via aX9
instance:Fits bP:=Fits.via aX9
def bDS{S:dA}{cs:ao}{d:bP}(h:aN.rd S w cs d):∃a:Value,cs=[a]/\aN.rd S w [a] d.Rows:=by obtain⟨c,b⟩:=eX h;rw[b] at h;exact⟨c,b,h⟩
def aQN(d:bP){a:Value}:OP [a] d [dF [a] d.Rows]:=(show OP _ (aX9 d) _ from oW)
structure aA where
 Mem:Mem
 aI:aI
 aQ:a7
 iU:al
 deriving DecidableEq,Inhabited
abbrev a4N(d:aA):=(d.Mem,d.aI,d.aQ,d.iU)
instance:aN aA:=aN.via a4N
instance:Fits aA:=Fits.via a4N
def bH5{S:dA}{cs:ao}{d:aA}(h:aN.rd S w cs d):∃u t s r q p o:Value,cs=[u,t,s,r,VI d.aI.aP,q,p,o]/\aN.rd S w [u] d.Mem.Heap.Bytes/\aN.rd S w [t] d.Mem.Heap.Class/\aN.rd S w [s] d.Mem.aD.Global/\aN.rd S w [r] d.Mem.aD.Own/\aN.rd S w [q] d.aI.bV/\aN.rd S w [p] d.aQ/\aN.rd S w [o] d.iU:=by obtain⟨c0,K,H,E,C⟩:=h;obtain⟨l,k,j,i,A,f,e,c,b⟩:=bLM E;obtain⟨c1,J,G,D,B⟩:=C;obtain⟨g,z,a⟩:=bDQ D;obtain⟨L,I,F,n,m⟩:=B;obtain⟨u2,x⟩:=eX n;rw[x] at n;obtain⟨y,v⟩:=eX m;rw[v] at m;exact⟨l,k,j,i,g,u2,y,by rw[H,G,F,A,z,x,v];rfl,f,e,c,b,a,n,m⟩
def bH6(d:aA){f:Value}{b:Value}{a:Value}:OP [g,f,e,c,VI d.aI.aP,b,a,h] d [dF [g] d.Mem.Heap.Bytes,dF [f] d.Mem.Heap.Class,dF [e] d.Mem.aD.Global,dF [c] d.Mem.aD.Own,dF [b] d.aI.bV,dF [a] d.aQ,dF [h] d.iU]:=(show OP _ (a4N d) _ from(cO (c1:=[g,f,e,c]) (A:=[dF [g] d.Mem.Heap.Bytes,dF [f] d.Mem.Heap.Class,dF [e] d.Mem.aD.Global,dF [c] d.Mem.aD.Own]) (bLN _) (cO (c1:=[VI d.aI.aP,b]) (A:=[dF [b] d.aI.bV]) (bDR _) (cO (c1:=[a]) (A:=[dF [a] d.aQ]) oW oW rfl) rfl) rfl))
structure Sub where
 Kind:Int
 A:Int
 Pc:Int
 E:Int
 Row:Int
 B:Int
 H:Int
 Out:Int
 Code:Int
 eG:Bool
 deriving DecidableEq,Inhabited
abbrev bJV(d:Sub):=(d.Kind,d.A,d.Pc,d.E,d.Row,d.B,d.H,d.Out,d.Code,d.eG)
instance:aN Sub:=aN.via bJV
instance:Fits Sub:=Fits.via bJV
def bDT{S:dA}{cs:ao}{d:Sub}(h:aN.rd S w cs d):cs=[VI d.Kind,VI d.A,VI d.Pc,VI d.E,VI d.Row,VI d.B,VI d.H,VI d.Out,VI d.Code,.bool d.eG]:=by obtain⟨c0,r0,O,F,v⟩:=h;have m:c0=[_]:=F;obtain⟨c1,r1,N,E,u⟩:=v;have l:c1=[_]:=E;obtain⟨W,r2,M,D,t⟩:=u;have k:W=[_]:=D;obtain⟨V,r3,L,C,s⟩:=t;have j:V=[_]:=C;obtain⟨U,r4,K,B,r⟩:=s;have i:U=[_]:=B;obtain⟨T,Z,J,A,q⟩:=r;have g:T=[_]:=A;obtain⟨R,Y,I,z,p⟩:=q;have f:R=[_]:=z;obtain⟨Q,X,H,y,o⟩:=p;have e:Q=[_]:=y;obtain⟨P,a,G,x,n⟩:=o;have c:P=[_]:=x;have b:a=[_]:=n;exact by rw[O,N,M,L,K,J,I,H,G,m,l,k,j,i,g,f,e,c,b];rfl
def a4O{S:dA}(d:Sub):aN.rd S w [VI d.Kind,VI d.A,VI d.Pc,VI d.E,VI d.Row,VI d.B,VI d.H,VI d.Out,VI d.Code,.bool d.eG] d:=⟨[VI d.Kind],[VI d.A,VI d.Pc,VI d.E,VI d.Row,VI d.B,VI d.H,VI d.Out,VI d.Code,.bool d.eG],rfl,rfl,⟨[VI d.A],[VI d.Pc,VI d.E,VI d.Row,VI d.B,VI d.H,VI d.Out,VI d.Code,.bool d.eG],rfl,rfl,⟨[VI d.Pc],[VI d.E,VI d.Row,VI d.B,VI d.H,VI d.Out,VI d.Code,.bool d.eG],rfl,rfl,⟨[VI d.E],[VI d.Row,VI d.B,VI d.H,VI d.Out,VI d.Code,.bool d.eG],rfl,rfl,⟨[VI d.Row],[VI d.B,VI d.H,VI d.Out,VI d.Code,.bool d.eG],rfl,rfl,⟨[VI d.B],[VI d.H,VI d.Out,VI d.Code,.bool d.eG],rfl,rfl,⟨[VI d.H],[VI d.Out,VI d.Code,.bool d.eG],rfl,rfl,⟨[VI d.Out],[VI d.Code,.bool d.eG],rfl,rfl,⟨[VI d.Code],[.bool d.eG],rfl,rfl,rfl⟩⟩⟩⟩⟩⟩⟩⟩⟩
instance:Flat Sub:=⟨λh=>Flat.own_of (O:=Int×Int×Int×Int×Int×Int×Int×Int×Int×Bool) h,λh=>Flat.no (O:=Int×Int×Int×Int×Int×Int×Int×Int×Int×Bool) h⟩
structure fE where
 gW:Bool
 Op:mS
 aG:Int
 Pc:Int
 Sub:Sub
 H:Int
 Old:Int
 cT:Int
 Code:Int
 deriving DecidableEq,Inhabited
abbrev br:=List fE
abbrev bDU(d:fE):=(d.gW,d.Op,d.aG,d.Pc,d.Sub,d.H,d.Old,d.cT,d.Code)
instance:aN fE:=aN.via bDU
instance:Fits fE:=Fits.via bDU
def bLQ{S:dA}{cs:ao}{d:fE}(h:aN.rd S w cs d):cs=[.bool d.gW,VI d.Op.Kind,VI d.Op.Cell,VI d.Op.jZ,VI d.Op.cT,VI d.aG,VI d.Pc,VI d.Sub.Kind,VI d.Sub.A,VI d.Sub.Pc,VI d.Sub.E,VI d.Sub.Row,VI d.Sub.B,VI d.Sub.H,VI d.Sub.Out,VI d.Sub.Code,.bool d.Sub.eG,VI d.H,VI d.Old,VI d.cT,VI d.Code]:=by obtain⟨c0,X,K,C,t⟩:=h;have l:c0=[_]:=C;obtain⟨c1,W,J,B,s⟩:=t;have k:=bDH B;obtain⟨P,V,I,A,r⟩:=s;have j:P=[_]:=A;obtain⟨O,U,H,z,q⟩:=r;have i:O=[_]:=z;obtain⟨Y,T,G,y,p⟩:=q;have g:=bDT y;obtain⟨N,R,F,x,o⟩:=p;have f:N=[_]:=x;obtain⟨M,Q,E,v,n⟩:=o;have e:M=[_]:=v;obtain⟨L,a,D,u,m⟩:=n;have c:L=[_]:=u;have b:a=[_]:=m;exact by rw[K,J,I,H,G,F,E,D,l,k,j,i,g,f,e,c,b];rfl
def bDV{S:dA}(d:fE):aN.rd S w [.bool d.gW,VI d.Op.Kind,VI d.Op.Cell,VI d.Op.jZ,VI d.Op.cT,VI d.aG,VI d.Pc,VI d.Sub.Kind,VI d.Sub.A,VI d.Sub.Pc,VI d.Sub.E,VI d.Sub.Row,VI d.Sub.B,VI d.Sub.H,VI d.Sub.Out,VI d.Sub.Code,.bool d.Sub.eG,VI d.H,VI d.Old,VI d.cT,VI d.Code] d:=⟨[.bool d.gW],[VI d.Op.Kind,VI d.Op.Cell,VI d.Op.jZ,VI d.Op.cT,VI d.aG,VI d.Pc,VI d.Sub.Kind,VI d.Sub.A,VI d.Sub.Pc,VI d.Sub.E,VI d.Sub.Row,VI d.Sub.B,VI d.Sub.H,VI d.Sub.Out,VI d.Sub.Code,.bool d.Sub.eG,VI d.H,VI d.Old,VI d.cT,VI d.Code],rfl,rfl,⟨[VI d.Op.Kind,VI d.Op.Cell,VI d.Op.jZ,VI d.Op.cT],[VI d.aG,VI d.Pc,VI d.Sub.Kind,VI d.Sub.A,VI d.Sub.Pc,VI d.Sub.E,VI d.Sub.Row,VI d.Sub.B,VI d.Sub.H,VI d.Sub.Out,VI d.Sub.Code,.bool d.Sub.eG,VI d.H,VI d.Old,VI d.cT,VI d.Code],rfl,(a4K _),⟨[VI d.aG],[VI d.Pc,VI d.Sub.Kind,VI d.Sub.A,VI d.Sub.Pc,VI d.Sub.E,VI d.Sub.Row,VI d.Sub.B,VI d.Sub.H,VI d.Sub.Out,VI d.Sub.Code,.bool d.Sub.eG,VI d.H,VI d.Old,VI d.cT,VI d.Code],rfl,rfl,⟨[VI d.Pc],[VI d.Sub.Kind,VI d.Sub.A,VI d.Sub.Pc,VI d.Sub.E,VI d.Sub.Row,VI d.Sub.B,VI d.Sub.H,VI d.Sub.Out,VI d.Sub.Code,.bool d.Sub.eG,VI d.H,VI d.Old,VI d.cT,VI d.Code],rfl,rfl,⟨[VI d.Sub.Kind,VI d.Sub.A,VI d.Sub.Pc,VI d.Sub.E,VI d.Sub.Row,VI d.Sub.B,VI d.Sub.H,VI d.Sub.Out,VI d.Sub.Code,.bool d.Sub.eG],[VI d.H,VI d.Old,VI d.cT,VI d.Code],rfl,(a4O _),⟨[VI d.H],[VI d.Old,VI d.cT,VI d.Code],rfl,rfl,⟨[VI d.Old],[VI d.cT,VI d.Code],rfl,rfl,⟨[VI d.cT],[VI d.Code],rfl,rfl,rfl⟩⟩⟩⟩⟩⟩⟩⟩
instance:Flat fE:=⟨λh=>Flat.own_of (O:=Bool×mS×Int×Int×Sub×Int×Int×Int×Int) h,λh=>Flat.no (O:=Bool×mS×Int×Int×Sub×Int×Int×Int×Int) h⟩
def bLR(d:fE):OP [.bool d.gW,VI d.Op.Kind,VI d.Op.Cell,VI d.Op.jZ,VI d.Op.cT,VI d.aG,VI d.Pc,VI d.Sub.Kind,VI d.Sub.A,VI d.Sub.Pc,VI d.Sub.E,VI d.Sub.Row,VI d.Sub.B,VI d.Sub.H,VI d.Sub.Out,VI d.Sub.Code,.bool d.Sub.eG,VI d.H,VI d.Old,VI d.cT,VI d.Code] d []:=(show OP _ (bDU d) _ from(cO (c1:=[.bool d.gW]) (A:=[]) (cW rfl) (cO (c1:=[VI d.Op.Kind,VI d.Op.Cell,VI d.Op.jZ,VI d.Op.cT]) (A:=[]) (cW (a4K _)) (cO (c1:=[VI d.aG]) (A:=[]) (cW rfl) (cO (c1:=[VI d.Pc]) (A:=[]) (cW rfl) (cO (c1:=[VI d.Sub.Kind,VI d.Sub.A,VI d.Sub.Pc,VI d.Sub.E,VI d.Sub.Row,VI d.Sub.B,VI d.Sub.H,VI d.Sub.Out,VI d.Sub.Code,.bool d.Sub.eG]) (A:=[]) (cW (a4O _)) (cO (c1:=[VI d.H]) (A:=[]) (cW rfl) (cO (c1:=[VI d.Old]) (A:=[]) (cW rfl) (cO (c1:=[VI d.cT]) (A:=[]) (cW rfl) (cW rfl) rfl) rfl) rfl) rfl) rfl) rfl) rfl) rfl))
structure Ev where
 Kind:Int
 Who:Int
 aG:Int
 Cell:Int
 Handle:Int
 cT:Int
 Code:Int
 deriving DecidableEq,Inhabited
abbrev bw:=List Ev
abbrev bLS(d:Ev):=(d.Kind,d.Who,d.aG,d.Cell,d.Handle,d.cT,d.Code)
instance:aN Ev:=aN.via bLS
instance:Fits Ev:=Fits.via bLS
def bN5{S:dA}{cs:ao}{d:Ev}(h:aN.rd S w cs d):cs=[VI d.Kind,VI d.Who,VI d.aG,VI d.Cell,VI d.Handle,VI d.cT,VI d.Code]:=by obtain⟨c0,L,C,v,p⟩:=h;have j:c0=[_]:=v;obtain⟨c1,K,B,u,o⟩:=p;have i:c1=[_]:=u;obtain⟨G,J,A,t,n⟩:=o;have g:G=[_]:=t;obtain⟨F,I,z,s,m⟩:=n;have f:F=[_]:=s;obtain⟨E,H,y,r,l⟩:=m;have e:E=[_]:=r;obtain⟨D,a,x,q,k⟩:=l;have c:D=[_]:=q;have b:a=[_]:=k;exact by rw[C,B,A,z,y,x,j,i,g,f,e,c,b];rfl
instance:Flat Ev:=⟨λh=>Flat.own_of (O:=Int×Int×Int×Int×Int×Int×Int) h,λh=>Flat.no (O:=Int×Int×Int×Int×Int×Int×Int) h⟩
def bN6(d:Ev):OP [VI d.Kind,VI d.Who,VI d.aG,VI d.Cell,VI d.Handle,VI d.cT,VI d.Code] d []:=(show OP _ (bLS d) _ from(cO (c1:=[VI d.Kind]) (A:=[]) (cW rfl) (cO (c1:=[VI d.Who]) (A:=[]) (cW rfl) (cO (c1:=[VI d.aG]) (A:=[]) (cW rfl) (cO (c1:=[VI d.Cell]) (A:=[]) (cW rfl) (cO (c1:=[VI d.Handle]) (A:=[]) (cW rfl) (cO (c1:=[VI d.cT]) (A:=[]) (cW rfl) (cW rfl) rfl) rfl) rfl) rfl) rfl) rfl))
structure aJ where
 aA:aA
 Cells:al
 aH:br
 aY:av
 Log:bw
 aG:Int
 deriving DecidableEq,Inhabited
abbrev bh:=List aJ
abbrev aYA(d:aJ):=(d.aA,d.Cells,d.aH,d.aY,d.Log,d.aG)
instance:aN aJ:=aN.via aYA
instance:Fits aJ:=Fits.via aYA
def bDW{S:dA}{cs:ao}{d:aJ}(h:aN.rd S w cs d):∃F E D C B A z y x v q:Value,cs=[F,E,D,C,VI d.aA.aI.aP,B,A,z,y,x,v,q,VI d.aG]/\aN.rd S w [F] d.aA.Mem.Heap.Bytes/\aN.rd S w [E] d.aA.Mem.Heap.Class/\aN.rd S w [D] d.aA.Mem.aD.Global/\aN.rd S w [C] d.aA.Mem.aD.Own/\aN.rd S w [B] d.aA.aI.bV/\aN.rd S w [A] d.aA.aQ/\aN.rd S w [z] d.aA.iU/\aN.rd S w [y] d.Cells/\aN.rd S w [x] d.aH/\aN.rd S w [v] d.aY/\aN.rd S w [q] d.Log:=by obtain⟨c0,r0,e0,V,U⟩:=h;obtain⟨p,o,n,m,l,k,j,O,i,g,f,e,c,b,a⟩:=bH5 V;obtain⟨c1,r1,Z,u,T⟩:=U;obtain⟨u1,J⟩:=eX u;rw[J] at u;obtain⟨c2,r2,Y,t,R⟩:=T;obtain⟨u2,I⟩:=eX t;rw[I] at t;obtain⟨c3,r3,X,s,Q⟩:=R;obtain⟨L,H⟩:=eX s;rw[H] at s;obtain⟨c4,M,W,r,P⟩:=Q;obtain⟨K,G⟩:=eX r;rw[G] at r;have N:M=[_]:=P;exact⟨p,o,n,m,l,k,j,u1,u2,L,K,by rw[e0,Z,Y,X,W,O,J,I,H,G,N];rfl,i,g,f,e,c,b,a,u,t,s,r⟩
def bDX(d:aJ){l:Value}{k:Value}{j:Value}{i:Value}{f:Value}{b:Value}{a:Value}:OP [l,k,j,i,VI d.aA.aI.aP,h,g,f,e,c,b,a,VI d.aG] d [dF [l] d.aA.Mem.Heap.Bytes,dF [k] d.aA.Mem.Heap.Class,dF [j] d.aA.Mem.aD.Global,dF [i] d.aA.Mem.aD.Own,dF [h] d.aA.aI.bV,dF [g] d.aA.aQ,dF [f] d.aA.iU,dF [e] d.Cells,dF [c] d.aH,dF [b] d.aY,dF [a] d.Log]:=(show OP _ (aYA d) _ from(cO (c1:=[l,k,j,i,VI d.aA.aI.aP,h,g,f]) (A:=[dF [l] d.aA.Mem.Heap.Bytes,dF [k] d.aA.Mem.Heap.Class,dF [j] d.aA.Mem.aD.Global,dF [i] d.aA.Mem.aD.Own,dF [h] d.aA.aI.bV,dF [g] d.aA.aQ,dF [f] d.aA.iU]) (bH6 _) (cO (c1:=[e]) (A:=[dF [e] d.Cells]) oW (cO (c1:=[c]) (A:=[dF [c] d.aH]) oW (cO (c1:=[b]) (A:=[dF [b] d.aY]) oW (cO (c1:=[a]) (A:=[dF [a] d.Log]) oW (cW rfl) rfl) rfl) rfl) rfl) rfl))
structure Span where
 bIA:Int
 To:Int
 deriving DecidableEq,Inhabited
abbrev bDY(d:Span):=(d.bIA,d.To)
instance:aN Span:=aN.via bDY
instance:Fits Span:=Fits.via bDY
instance:Flat Span:=⟨λh=>Flat.own_of (O:=Int×Int) h,λh=>Flat.no (O:=Int×Int) h⟩
structure oV where
 Kind:Int
 Key:Int
 cT:Int
 deriving DecidableEq,Inhabited
abbrev bp:=List oV
abbrev bDZ(d:oV):=(d.Kind,d.Key,d.cT)
instance:aN oV:=aN.via bDZ
instance:Fits oV:=Fits.via bDZ
def bLT{S:dA}{cs:ao}{d:oV}(h:aN.rd S w cs d):cs=[VI d.Kind,VI d.Key,VI d.cT]:=by obtain⟨c0,m,l,j,g⟩:=h;have e:c0=[_]:=j;obtain⟨c1,a,k,i,f⟩:=g;have c:c1=[_]:=i;have b:a=[_]:=f;exact by rw[l,k,e,c,b];rfl
instance:Flat oV:=⟨λh=>Flat.own_of (O:=Int×Int×Int) h,λh=>Flat.no (O:=Int×Int×Int) h⟩
def bLU(d:oV):OP [VI d.Kind,VI d.Key,VI d.cT] d []:=(show OP _ (bDZ d) _ from(cO (c1:=[VI d.Kind]) (A:=[]) (cW rfl) (cO (c1:=[VI d.Key]) (A:=[]) (cW rfl) (cW rfl) rfl) rfl))
structure Batch where
 Collect:Bool
 b8:bp
 deriving DecidableEq,Inhabited
abbrev bf:=List Batch
abbrev aYB(d:Batch):=(d.Collect,d.b8)
instance:aN Batch:=aN.via aYB
instance:Fits Batch:=Fits.via aYB
def a1I{S:dA}{cs:ao}{d:Batch}(h:aN.rd S w cs d):∃b:Value,cs=[.bool d.Collect,b]/\aN.rd S w [b] d.b8:=by obtain⟨c0,i,g,f,a⟩:=h;have e:c0=[_]:=f;obtain⟨u1,c⟩:=eX a;rw[c] at a;exact⟨u1,by rw[g,e,c];rfl,a⟩
def a1J(d:Batch){a:Value}:OP [.bool d.Collect,a] d [dF [a] d.b8]:=(show OP _ (aYB d) _ from(cO (c1:=[.bool d.Collect]) (A:=[]) (cW rfl) oW rfl))
structure aR where
 List:bf
 deriving DecidableEq,Inhabited
abbrev au:=List aR
abbrev aQO(d:aR):=(d.List)
instance:aN aR:=aN.via aQO
instance:Fits aR:=Fits.via aQO
def a85{S:dA}{cs:ao}{d:aR}(h:aN.rd S w cs d):∃a:Value,cs=[a]/\aN.rd S w [a] d.List:=by obtain⟨c,b⟩:=eX h;rw[b] at h;exact⟨c,b,h⟩
def a86(d:aR){a:Value}:OP [a] d [dF [a] d.List]:=(show OP _ (aQO d) _ from oW)
structure CT where
 aY:au
 bG:al
 deriving DecidableEq,Inhabited
abbrev aWM(d:CT):=(d.aY,d.bG)
instance:aN CT:=aN.via aWM
instance:Fits CT:=Fits.via aWM
structure dR where
 Head:Int
 iF:Int
 jC:Int
 deriving DecidableEq,Inhabited
abbrev ba:=List dR
abbrev bD0(d:dR):=(d.Head,d.iF,d.jC)
instance:aN dR:=aN.via bD0
instance:Fits dR:=Fits.via bD0
def bLV{S:dA}{cs:ao}{d:dR}(h:aN.rd S w cs d):cs=[VI d.Head,VI d.iF,VI d.jC]:=by obtain⟨c0,m,l,j,g⟩:=h;have e:c0=[_]:=j;obtain⟨c1,a,k,i,f⟩:=g;have c:c1=[_]:=i;have b:a=[_]:=f;exact by rw[l,k,e,c,b];rfl
def bD1{S:dA}(d:dR):aN.rd S w [VI d.Head,VI d.iF,VI d.jC] d:=⟨[VI d.Head],[VI d.iF,VI d.jC],rfl,rfl,⟨[VI d.iF],[VI d.jC],rfl,rfl,rfl⟩⟩
instance:Flat dR:=⟨λh=>Flat.own_of (O:=Int×Int×Int) h,λh=>Flat.no (O:=Int×Int×Int) h⟩
def bLW(d:dR):OP [VI d.Head,VI d.iF,VI d.jC] d []:=(show OP _ (bD0 d) _ from(cO (c1:=[VI d.Head]) (A:=[]) (cW rfl) (cO (c1:=[VI d.iF]) (A:=[]) (cW rfl) (cW rfl) rfl) rfl))
structure fS where
 Key:Int
 cT:Int
 Next:Int
 deriving DecidableEq,Inhabited
abbrev a7S(d:fS):=(d.Key,d.cT,d.Next)
instance:aN fS:=aN.via a7S
instance:Fits fS:=Fits.via a7S
def bD2{S:dA}{cs:ao}{d:fS}(h:aN.rd S w cs d):cs=[VI d.Key,VI d.cT,VI d.Next]:=by obtain⟨c0,m,l,j,g⟩:=h;have e:c0=[_]:=j;obtain⟨c1,a,k,i,f⟩:=g;have c:c1=[_]:=i;have b:a=[_]:=f;exact by rw[l,k,e,c,b];rfl
def bD3{S:dA}(d:fS):aN.rd S w [VI d.Key,VI d.cT,VI d.Next] d:=⟨[VI d.Key],[VI d.cT,VI d.Next],rfl,rfl,⟨[VI d.cT],[VI d.Next],rfl,rfl,rfl⟩⟩
instance:Flat fS:=⟨λh=>Flat.own_of (O:=Int×Int×Int) h,λh=>Flat.no (O:=Int×Int×Int) h⟩
structure Seen where
 dR:Int
 iF:Int
 deriving DecidableEq,Inhabited
abbrev bo:=List Seen
abbrev a4P(d:Seen):=(d.dR,d.iF)
instance:aN Seen:=aN.via a4P
instance:Fits Seen:=Fits.via a4P
def bH7{S:dA}{cs:ao}{d:Seen}(h:aN.rd S w cs d):cs=[VI d.dR,VI d.iF]:=by obtain⟨c0,a,g,f,e⟩:=h;have c:c0=[_]:=f;have b:a=[_]:=e;exact by rw[g,c,b];rfl
instance:Flat Seen:=⟨λh=>Flat.own_of (O:=Int×Int) h,λh=>Flat.no (O:=Int×Int) h⟩
def bH8(d:Seen):OP [VI d.dR,VI d.iF] d []:=(show OP _ (a4P d) _ from(cO (c1:=[VI d.dR]) (A:=[]) (cW rfl) (cW rfl) rfl))
structure aW where
 Key:Int
 NP:Bool
 cT:Int
 deriving DecidableEq,Inhabited
abbrev aw:=List aW
abbrev aYC(d:aW):=(d.Key,d.NP,d.cT)
instance:aN aW:=aN.via aYC
instance:Fits aW:=Fits.via aYC
def bD4{S:dA}{cs:ao}{d:aW}(h:aN.rd S w cs d):cs=[VI d.Key,.bool d.NP,VI d.cT]:=by obtain⟨c0,m,l,j,g⟩:=h;have e:c0=[_]:=j;obtain⟨c1,a,k,i,f⟩:=g;have c:c1=[_]:=i;have b:a=[_]:=f;exact by rw[l,k,e,c,b];rfl
def bD5{S:dA}(d:aW):aN.rd S w [VI d.Key,.bool d.NP,VI d.cT] d:=⟨[VI d.Key],[.bool d.NP,VI d.cT],rfl,rfl,⟨[.bool d.NP],[VI d.cT],rfl,rfl,rfl⟩⟩
instance:Flat aW:=⟨λh=>Flat.own_of (O:=Int×Bool×Int) h,λh=>Flat.no (O:=Int×Bool×Int) h⟩
def bD6(d:aW):OP [VI d.Key,.bool d.NP,VI d.cT] d []:=(show OP _ (aYC d) _ from(cO (c1:=[VI d.Key]) (A:=[]) (cW rfl) (cO (c1:=[.bool d.NP]) (A:=[]) (cW rfl) (cW rfl) rfl) rfl))
structure eD where
 Is:Bool
 cT:Int
 deriving DecidableEq,Inhabited
abbrev bD7(d:eD):=(d.Is,d.cT)
instance:aN eD:=aN.via bD7
instance:Fits eD:=Fits.via bD7
def bLX{S:dA}{cs:ao}{d:eD}(h:aN.rd S w cs d):cs=[.bool d.Is,VI d.cT]:=by obtain⟨c0,a,g,f,e⟩:=h;have c:c0=[_]:=f;have b:a=[_]:=e;exact by rw[g,c,b];rfl
instance:Flat eD:=⟨λh=>Flat.own_of (O:=Bool×Int) h,λh=>Flat.no (O:=Bool×Int) h⟩
def bLY(d:eD):OP [.bool d.Is,VI d.cT] d []:=(show OP _ (bD7 d) _ from(cO (c1:=[.bool d.Is]) (A:=[]) (cW rfl) (cW rfl) rfl))
structure aK where
 gW:Bool
 Batch:Batch
 aG:Int
 Pc:Int
 At:Int
 K:Int
 dR:Int
 iF:Int
 H:Int
 jH:Int
 Node:fS
 Found:Bool
 Code:Int
 Sub:Sub
 Reads:bo
 aL:aw
 eD:List eD
 eC:al
 bM:al
 bW:al
 deriving DecidableEq,Inhabited
abbrev bq:=List aK
abbrev a4Q(d:aK):=(d.gW,d.Batch,d.aG,d.Pc,d.At,d.K,d.dR,d.iF,d.H,d.jH,d.Node,d.Found,d.Code,d.Sub,d.Reads,d.aL,d.eD,d.eC,d.bM,d.bW)
instance:aN aK:=aN.via a4Q
instance:Fits aK:=Fits.via a4Q
def bH9{S:dA}{cs:ao}{d:aK}(h:aN.rd S w cs d):∃v0 v1 v2 v3 v4 v5 Z:Value,cs=[.bool d.gW,.bool d.Batch.Collect,v0,VI d.aG,VI d.Pc,VI d.At,VI d.K,VI d.dR,VI d.iF,VI d.H,VI d.jH,VI d.Node.Key,VI d.Node.cT,VI d.Node.Next,.bool d.Found,VI d.Code,VI d.Sub.Kind,VI d.Sub.A,VI d.Sub.Pc,VI d.Sub.E,VI d.Sub.Row,VI d.Sub.B,VI d.Sub.H,VI d.Sub.Out,VI d.Sub.Code,.bool d.Sub.eG,v1,v2,v3,v4,v5,Z]/\aN.rd S w [v0] d.Batch.b8/\aN.rd S w [v1] d.Reads/\aN.rd S w [v2] d.aL/\aN.rd S w [v3] d.eD/\aN.rd S w [v4] d.eC/\aN.rd S w [v5] d.bM/\aN.rd S w [Z] d.bW:=by obtain⟨c0,r0,e0,h0,n0⟩:=h;have q0:c0=[_]:=h0;obtain⟨c1,r1,e1,h1,n1⟩:=n0;obtain⟨j,q1,a⟩:=a1I h1;obtain⟨c2,r2,e2,h2,n2⟩:=n1;have q2:c2=[_]:=h2;obtain⟨c3,r3,e3,h3,n3⟩:=n2;have q3:c3=[_]:=h3;obtain⟨c4,r4,e4,h4,n4⟩:=n3;have q4:c4=[_]:=h4;obtain⟨c5,r5,e5,h5,n5⟩:=n4;have q5:c5=[_]:=h5;obtain⟨c6,r6,e6,h6,n6⟩:=n5;have q6:c6=[_]:=h6;obtain⟨c7,r7,e7,h7,n7⟩:=n6;have q7:c7=[_]:=h7;obtain⟨c8,r8,e8,h8,n8⟩:=n7;have q8:c8=[_]:=h8;obtain⟨c9,r9,e9,h9,n9⟩:=n8;have q9:c9=[_]:=h9;obtain⟨c10,r10,W,M,I⟩:=n9;have A:=bD2 M;obtain⟨Y,r11,V,L,H⟩:=I;have z:Y=[_]:=L;obtain⟨X,r12,U,K,G⟩:=H;have y:X=[_]:=K;obtain⟨c13,r13,T,J,F⟩:=G;have x:=bDT J;obtain⟨c14,r14,R,i,E⟩:=F;obtain⟨v,p⟩:=eX i;rw[p] at i;obtain⟨c15,r15,Q,g,D⟩:=E;obtain⟨u,o⟩:=eX g;rw[o] at g;obtain⟨c16,r16,P,f,C⟩:=D;obtain⟨t,n⟩:=eX f;rw[n] at f;obtain⟨c17,r17,O,e,B⟩:=C;obtain⟨s,m⟩:=eX e;rw[m] at e;obtain⟨c18,r18,N,c,b⟩:=B;obtain⟨r,l⟩:=eX c;rw[l] at c;obtain⟨q,k⟩:=eX b;rw[k] at b;exact⟨j,v,u,t,s,r,q,by rw[e0,e1,e2,e3,e4,e5,e6,e7,e8,e9,W,V,U,T,R,Q,P,O,N,q0,q1,q2,q3,q4,q5,q6,q7,q8,q9,A,z,y,x,p,o,n,m,l,k];rfl,a,i,g,f,e,c,b⟩
def aYD(d:aK){f:Value}{b:Value}{a:Value}:OP [.bool d.gW,.bool d.Batch.Collect,g,VI d.aG,VI d.Pc,VI d.At,VI d.K,VI d.dR,VI d.iF,VI d.H,VI d.jH,VI d.Node.Key,VI d.Node.cT,VI d.Node.Next,.bool d.Found,VI d.Code,VI d.Sub.Kind,VI d.Sub.A,VI d.Sub.Pc,VI d.Sub.E,VI d.Sub.Row,VI d.Sub.B,VI d.Sub.H,VI d.Sub.Out,VI d.Sub.Code,.bool d.Sub.eG,f,e,c,b,a,h] d [dF [g] d.Batch.b8,dF [f] d.Reads,dF [e] d.aL,dF [c] d.eD,dF [b] d.eC,dF [a] d.bM,dF [h] d.bW]:=(show OP _ (a4Q d) _ from(cO (c1:=[.bool d.gW]) (A:=[]) (cW rfl) (cO (c1:=[.bool d.Batch.Collect,g]) (A:=[dF [g] d.Batch.b8]) (a1J _) (cO (c1:=[VI d.aG]) (A:=[]) (cW rfl) (cO (c1:=[VI d.Pc]) (A:=[]) (cW rfl) (cO (c1:=[VI d.At]) (A:=[]) (cW rfl) (cO (c1:=[VI d.K]) (A:=[]) (cW rfl) (cO (c1:=[VI d.dR]) (A:=[]) (cW rfl) (cO (c1:=[VI d.iF]) (A:=[]) (cW rfl) (cO (c1:=[VI d.H]) (A:=[]) (cW rfl) (cO (c1:=[VI d.jH]) (A:=[]) (cW rfl) (cO (c1:=[VI d.Node.Key,VI d.Node.cT,VI d.Node.Next]) (A:=[]) (cW (bD3 _)) (cO (c1:=[.bool d.Found]) (A:=[]) (cW rfl) (cO (c1:=[VI d.Code]) (A:=[]) (cW rfl) (cO (c1:=[VI d.Sub.Kind,VI d.Sub.A,VI d.Sub.Pc,VI d.Sub.E,VI d.Sub.Row,VI d.Sub.B,VI d.Sub.H,VI d.Sub.Out,VI d.Sub.Code,.bool d.Sub.eG]) (A:=[]) (cW (a4O _)) (cO (c1:=[f]) (A:=[dF [f] d.Reads]) oW (cO (c1:=[e]) (A:=[dF [e] d.aL]) oW (cO (c1:=[c]) (A:=[dF [c] d.eD]) oW (cO (c1:=[b]) (A:=[dF [b] d.eC]) oW (cO (c1:=[a]) (A:=[dF [a] d.bM]) oW oW rfl) rfl) rfl) rfl) rfl) rfl) rfl) rfl) rfl) rfl) rfl) rfl) rfl) rfl) rfl) rfl) rfl) rfl) rfl))
structure wH where
 Kind:Int
 Who:Int
 aG:Int
 Code:Int
 b8:bp
 eD:List eD
 deriving DecidableEq,Inhabited
abbrev bs:=List wH
abbrev bD8(d:wH):=(d.Kind,d.Who,d.aG,d.Code,d.b8,d.eD)
instance:aN wH:=aN.via bD8
instance:Fits wH:=Fits.via bD8
def bLZ{S:dA}{cs:ao}{d:wH}(h:aN.rd S w cs d):∃e c:Value,cs=[VI d.Kind,VI d.Who,VI d.aG,VI d.Code,e,c]/\aN.rd S w [e] d.b8/\aN.rd S w [c] d.eD:=by obtain⟨c0,I,B,v,r⟩:=h;have n:c0=[_]:=v;obtain⟨c1,H,A,u,q⟩:=r;have m:c1=[_]:=u;obtain⟨D,G,z,t,p⟩:=q;have l:D=[_]:=t;obtain⟨C,F,y,s,o⟩:=p;have k:C=[_]:=s;obtain⟨J,E,x,b,a⟩:=o;obtain⟨j,g⟩:=eX b;rw[g] at b;obtain⟨i,f⟩:=eX a;rw[f] at a;exact⟨j,i,by rw[B,A,z,y,x,n,m,l,k,g,f];rfl,b,a⟩
def bL0(d:wH){a:Value}{b:Value}:OP [VI d.Kind,VI d.Who,VI d.aG,VI d.Code,a,b] d [dF [a] d.b8,dF [b] d.eD]:=(show OP _ (bD8 d) _ from(cO (c1:=[VI d.Kind]) (A:=[]) (cW rfl) (cO (c1:=[VI d.Who]) (A:=[]) (cW rfl) (cO (c1:=[VI d.aG]) (A:=[]) (cW rfl) (cO (c1:=[VI d.Code]) (A:=[]) (cW rfl) (cO (c1:=[a]) (A:=[dF [a] d.b8]) oW oW rfl) rfl) rfl) rfl) rfl))
structure Table where
 aA:aA
 bC:ba
 aH:bq
 aY:au
 Log:bs
 aG:Int
 deriving DecidableEq,Inhabited
abbrev a7T(d:Table):=(d.aA,d.bC,d.aH,d.aY,d.Log,d.aG)
instance:aN Table:=aN.via a7T
instance:Fits Table:=Fits.via a7T
end Go.Gv
end
