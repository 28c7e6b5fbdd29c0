import Derived.Test.YtonkeoekmfkaoaaGreatXUB
import Derived.Shelf.Slices.CompactI
import Derived.Shelf.Spec.SlicesInsertGrow
set_option linter.unusedVariables false
set_option linter.unusedSimpArgs false
set_option linter.unusedSectionVars false
set_option linter.constructorNameAsVariable false
set_option linter.unnecessarySimpa false
noncomputable section
namespace Go.Gv
variable{s:AC}{y:Code}{U:Ctx}{fn:Func}{g:FuncId}{i:Int}{rs:List ResultVar}{c3 xs:List SV}{vs:List Value}{id mj n1 n2 n3:Nat}{P:Program}{C:Prop}{Ta Tb Tc Td Te Tf Tg Th Ti:Sort _}{J O ex π ρ σ υ:Type}{w:World}{F:cO}
universe u
theorem Q{O:Sort u}{a:O}:a=a:=Eq.refl a
theorem Q2{a:Ta}{b:Tb}:a=a/\b=b:=⟨rfl,rfl⟩
theorem Q3{a:Ta}{b:Tb}{c:Tc}:a=a/\b=b/\c=c:=⟨rfl,rfl,rfl⟩
theorem Q4{a:Ta}{b:Tb}{c:Tc}{d:Td}:a=a/\b=b/\c=c/\d=d:=⟨rfl,rfl,rfl,rfl⟩
theorem Q5{a:Ta}{b:Tb}{c:Tc}{d:Td}{e:Te}:a=a/\b=b/\c=c/\d=d/\e=e:=⟨rfl,rfl,rfl,rfl,rfl⟩
theorem Q6{a:Ta}{b:Tb}{c:Tc}{d:Td}{e:Te}{f:Tf}:a=a/\b=b/\c=c/\d=d/\e=e/\f=f:=⟨rfl,rfl,rfl,rfl,rfl,rfl⟩
theorem Q7{a:Ta}{b:Tb}{c:Tc}{d:Td}{e:Te}{f:Tf}{g:Tg}:a=a/\b=b/\c=c/\d=d/\e=e/\f=f/\g=g:=⟨rfl,rfl,rfl,rfl,rfl,rfl,rfl⟩
theorem Q8{a:Ta}{b:Tb}{c:Tc}{d:Td}{e:Te}{f:Tf}{g:Tg}{h:Th}:a=a/\b=b/\c=c/\d=d/\e=e/\f=f/\g=g/\h=h:=⟨rfl,rfl,rfl,rfl,rfl,rfl,rfl,rfl⟩
theorem Q9{a:Ta}{b:Tb}{c:Tc}{d:Td}{e:Te}{f:Tf}{g:Tg}{h:Th}{i:Ti}:a=a/\b=b/\c=c/\d=d/\e=e/\f=f/\g=g/\h=h/\i=i:=⟨rfl,rfl,rfl,rfl,rfl,rfl,rfl,rfl,rfl⟩
theorem Q10{a:Ta}{b:Tb}{c:Tc}{d:Td}{e:Te}{f:Tf}{g:Tg}{h:Th}{i:Ti}{Tj:Sort _}{j:Tj}:a=a/\b=b/\c=c/\d=d/\e=e/\f=f/\g=g/\h=h/\i=i/\j=j:=⟨rfl,rfl,rfl,rfl,rfl,rfl,rfl,rfl,rfl,rfl⟩
theorem Q13{a:Ta}{b:Tb}{c:Tc}{d:Td}{e:Te}{f:Tf}{g:Tg}{h:Th}{i:Ti}{Tj:Sort _}{j:Tj}{Tk:Sort _}{k:Tk}{Tl:Sort _}{l:Tl}{Tm:Sort _}{m:Tm}:a=a/\b=b/\c=c/\d=d/\e=e/\f=f/\g=g/\h=h/\i=i/\j=j/\k=k/\l=l/\m=m:=⟨rfl,rfl,rfl,rfl,rfl,rfl,rfl,rfl,rfl,rfl,rfl,rfl,rfl⟩
def W{ρ:Type}(C:Prop)(r:ρ)(F:Option ρ):Prop:=F=some r->C
theorem wm{r:ρ}{F F':Option ρ}(h:F'=F)(k:W C r F):W C r F':=h ▸ k
theorem wi{r:ρ}{F:Option ρ}(h:F=some r)(k:W C r F):C:=k h
def VS(P:Program)(c:Ctx)(f:FuncId){ρ ex:Type}(F:Option ρ)(xs:List SV)(B0:Bl)(L0:List Ch)(sv:ρ->ex->SV)(Lf:ρ->ex->List Ch):Prop:=∀r,F=some r->FnS P f c xs B0 L0 sv Lf r
abbrev V0(P:Program)(c:Ctx)(f:FuncId){ρ:Type}(F:Option ρ)(xs:List SV)(sv:ρ->SV):Prop:=VS P c f F xs [] [] (λr (_:Unit)=>sv r) (λ_ _=>[])
theorem VS.r{c:Ctx}{f:FuncId}{F:Option ρ}{B0:Bl}{L0:List Ch}{sv:ρ->ex->SV}{Lf:ρ->ex->List Ch}(h:VS P c f F xs B0 L0 sv Lf){r:ρ}(hF:F=some r):FnS P f c xs B0 L0 sv Lf r:=h r hF
def QR(P:Program)(fn:Func){rs:List ResultVar}(_:fn.results=rs.toArray)(c:Ctx)(B0:Bl){ρ ex:Type}(sv:ρ->ex->SV)(Lf:ρ->ex->List Ch)(r:ρ):Act->World->Prop:=QS P fn c B0 sv Lf r
def bBD(T:TT)(rs:List ResultVar)(is:List Nat)(b0:Nat)(L2:List Ch):Stop->Option (SV×List Ch)
 |.ret m e L=>match a11 T e L rs with
  |some x=>match B9 b0 (nbS x) with
   |true=>match asT b0 m e L is b0 [] L2 with
    |some ([],L3)=>some (nbS x,L3)
    |_=>none
   |false=>none
  |none=>none
 |_=>none
def a62(is:List Nat)(b0 mj:Nat)(ej:SE)(Lj:List Ch):Stop->Option (SE×List Ch)
 |.fin m e L=>asT b0 m e L is mj ej Lj
 |_=>none
def exQ(is:List Nat)(id b0 mj:Nat)(ej:SE)(Lj:List Ch):Stop->Option (SE×List Ch)
 |.ex i m e L=>match Nat.beq i id with
  |true=>asT b0 m e L is mj ej Lj
  |false=>none
 |_=>none
def bLD:Stop->Stop
 |.fin m e L=>.ret m e L
 |_=>.stuck
def ixT(T:TT)(t n:Nat):Bool:=match AQ T t with
 |some ⟨.sl el,_,_,_⟩=>match AQ T el with
  |some ⟨_,_,sz,_⟩=>Nat.beq n sz
  |none=>false
 |_=>false
section
variable {P:Program} {T:TT} {hT:GJ P T} {n:Nat} {c:Ctx} {B0:Bl} {N:Act->World->Prop} {X:Nat->Act->World->Prop} {Q:Act->World->Prop} {K K':List Fr} {m m':Nat} {e e':SE} {L L' Lv:List Ch} {cf cf' cf1 cf2:uI} {o:Oper}
theorem enW(hT:GJ P T){f:FuncId}{fn:Func}{cd:Code}{xs:List SV}{L0:List Ch}{ρ ex:Type}{sv:ρ->ex->SV}{Lf:ρ->ex->List Ch}{F:Option ρ}{rs:List ResultVar}(hc:∀args w,(callFunc f args).run P w=.ok (.enter f args) w)(hf:P.funcs[f]?=some fn)(hr:fn.results=rs.toArray)(q0_:fn.body=some cd/\fn.ntmps=n)
  (k:∀{r},W (G (.mk P T hT n c B0 (QR P fn hr c B0 sv Lf r) (λ_ _ _=>False) (QR P fn hr c B0 sv Lf r)) [] B0.length (aVM 0 xs) L0 (.c cd)) r F) (hl:Nat.ble xs.length n=true:=by exact rfl):VS P c f F xs B0 L0 sv Lf:=
 let ⟨hb,hm⟩:=q0_;λ_ hF=>en n hc hf hT hb hm hl (k hF)
theorem a5M{is:List Nat}{b0:Nat}{L2 L3:List Ch}{s:SV}{st:Stop}(h:bBD T rs is b0 L2 st=some (s,L3)):∃m' e' L' x,st=.ret m' e' L'/\a11 T e' L' rs=some x/\nbS x=s/\B9 b0 s=true/\asT b0 m' e' L' is b0 [] L2=some ([],L3):=by unfold bBD at h;grind
theorem dS{sv:ρ->ex->SV}{Lf:ρ->ex->List Ch}{r r':ρ}{hr:fn.results=rs.toArray}{zz:Option ρ}(y:ex)(is:List Nat)(q0_:zz=some r'/\bBD T rs is B0.length (Lf r' y) (jE T n K cf m e L)=some (sv r' y,Lf r' y)):W (G (.mk P T hT n c B0 N X (QR P fn hr c B0 sv Lf r)) K m e L cf) r zz:=let ⟨hz,h⟩:=q0_;λhF=>by obtain⟨_,_,_,_,h1,h2,h3,h4,h5⟩:=a5M h;exact rt y is hF hz h1 hr h2 h3 h4 h5
theorem bG{sv:ρ->Unit->SV}{Lf:ρ->Unit->List Ch}{r r':ρ}{hr:fn.results=rs.toArray}{zz:Option ρ}(q0_:zz=some r'/\bBD T rs [] B0.length (Lf r' ()) (jE T n K cf m e L)=some (sv r' (),Lf r' ())):W (G (.mk P T hT n c B0 N X (QR P fn hr c B0 sv Lf r)) K m e L cf) r zz:=let ⟨hz,h⟩:=q0_;dS () [] ⟨hz,h⟩
theorem JG{sv:ρ->ex->SV}{Lf:ρ->ex->List Ch}{r r':ρ}{hr:fn.results=rs.toArray}{zz:Option ρ}(y:ex)(is:List Nat)(hz:zz=some r')(h:bBD T rs is B0.length (Lf r' y) (bLD (jE T n K cf m e L))=some (sv r' y,Lf r' y)):W (G (.mk P T hT n c B0 (QR P fn hr c B0 sv Lf r) X Q) K m e L cf) r zz:=λhF=>by obtain⟨m',e',L',_,h1,h2,h3,h4,h5⟩:=a5M h;refine rf y is hF hz (m':=m') (e':=e') (L':=L') ?_ hr h2 h3 h4 h5;unfold bLD at h1;grind
theorem a5N{is:List Nat}{b0:Nat}{ej e3:SE}{Lj L3:List Ch}{st:Stop}(h:a62 is b0 mj ej Lj st=some (e3,L3)):∃m' e' L',st=.fin m' e' L'/\asT b0 m' e' L' is mj ej Lj=some (e3,L3):=by unfold a62 at h;grind
theorem kQ{eq:π->Prop}{ej:π->υ->SE}{Lj:π->υ->List Ch}{p:π}{q:O}{zz:Option O}(u:υ)(is:List Nat)(q0_:(zz=some q)=eq p/\a62 is B0.length mj (ej p u) (Lj p u) (jE T n K cf m e L)=some (ej p u,Lj p u)):W (G (.mk P T hT n c B0 (JP n c B0 eq mj ej Lj) X Q) K m e L cf) q zz:=let ⟨hz,h⟩:=q0_;λhF=>by obtain⟨_,_,_,h1,h2⟩:=a5N h;exact jn u is (hz ▸ hF) h1 h2
theorem cG{eq:π->Prop}{ej:π->Unit->SE}{Lj:π->Unit->List Ch}{p:π}{q:O}{zz:Option O}(is:List Nat)(q0_:(zz=some q)=eq p/\a62 is B0.length mj (ej p ()) (Lj p ()) (jE T n K cf m e L)=some (ej p (),Lj p ())):W (G (.mk P T hT n c B0 (JP n c B0 eq mj ej Lj) X Q) K m e L cf) q zz:=let ⟨hz,h⟩:=q0_;kQ () is ⟨hz,h⟩
theorem nxW{o:Step σ ρ}{el:σ->υ->SE}{Ll:σ->υ->List Ch}{s:σ}(u:υ)(is:List Nat)(h:a62 is B0.length mj (el s u) (Ll s u) (jE T n K cf m e L)=some (el s u,Ll s u)):W (G (.mk P T hT n c B0 (NxP n c B0 o mj el Ll) X Q) K m e L cf) o (some (Step.next s)):=λhF=>by obtain⟨_,_,_,h1,h2⟩:=a5N h;exact nx u is hF h1 h2
theorem rS{o:Step σ ρ}{el:σ->Unit->SE}{Ll:σ->Unit->List Ch}{s:σ}(is:List Nat)(h:a62 is B0.length mj (el s ()) (Ll s ()) (jE T n K cf m e L)=some (el s (),Ll s ())):W (G (.mk P T hT n c B0 (NxP n c B0 o mj el Ll) X Q) K m e L cf) o (some (Step.next s)):=nxW () is h
def BkR(n:Nat)(c:Ctx)(B0:Bl){J ρ σ υ:Type}{o:Step σ ρ}{ro:ρ}(_:∀p,o=.stop p->p=ro)(enc:J->ρ)(m:Nat)(ej:J->υ->SE)(Lj:J->υ->List Ch)(id:Nat)(X:Nat->Act->World->Prop):Nat->Act->World->Prop:=BkP n c B0 ro enc m ej Lj id X
theorem bkW{o:Step σ ρ}{ro:ρ}{enc:J->ρ}{ej:J->υ->SE}{Lj:J->υ->List Ch}{b:J}{hr:∀p,o=.stop p->p=ro}(u:υ)(is:List Nat)(h:exQ is id B0.length mj (ej b u) (Lj b u) (jE T n K cf m e L)=some (ej b u,Lj b u)):W (G (.mk P T hT n c B0 N (BkR n c B0 hr enc mj ej Lj id X) Q) K m e L cf) o (some (Step.stop (enc b))):=λhF=>by
 unfold exQ at h;split at h
 ·rename_i h0;split at h
  ·rename_i hb;rw[pV hb] at h0;exact bk u is hF hr h0 h
  ·cases h
 ·cases h
theorem lZ{o:Step σ ρ}{ro:ρ}{enc:J->ρ}{ej:J->Unit->SE}{Lj:J->Unit->List Ch}{b:J}{hr:∀p,o=.stop p->p=ro}(is:List Nat)(h:exQ is id B0.length mj (ej b ()) (Lj b ()) (jE T n K cf m e L)=some (ej b (),Lj b ())):W (G (.mk P T hT n c B0 N (BkR n c B0 hr enc mj ej Lj id X) Q) K m e L cf) o (some (Step.stop (enc b))):=bkW () is h
theorem jF{o:Step σ ρ}{p ro:ρ}{F:ρ->Option O}{q:O}(hr:∀p,o=.stop p->p=ro)(hF:F ro=some q)(k:W C q (F p)):W C o (some (Step.stop p)):=λh=>k (re h rfl hr hF)
section
variable {b:Bool} {O:Type} {A B':Option O} {q:O}
theorem aR{o:Operand}{x:Code}(ss:List Nat)(q0_:jE T n K cf m e L=.cond o b x y K' m' e' L'/\bA (FL e') ss=some (ss.map λ_=>SV.b b))
  (k1:W (G (.mk P T hT n c B0 N X Q) K' m' (ovr true e' ss) L' (.c x)) q A) (k2:W (G (.mk P T hT n c B0 N X Q) K' m' (ovr false e' ss) L' (.c y)) q B'):W (G (.mk P T hT n c B0 N X Q) K m e L cf) q (if b=true then A else B'):=let ⟨hs,ho⟩:=q0_;λhF=>cs ss hs ho hF k1 k2
theorem a63{o:Operand}{x:Code}(ss:List Nat)(hs:jE T n K cf m e L=.cond o b x y K' m' e' L')(ho:bA (FL e') ss=some (ss.map λ_=>SV.b b))
  (k1:b=true->W (G (.mk P T hT n c B0 N X Q) K' m' (ovr true e' ss) L' (.c x)) q A) (k2:b=false->W (G (.mk P T hT n c B0 N X Q) K' m' (ovr false e' ss) L' (.c y)) q B'):W (G (.mk P T hT n c B0 N X Q) K m e L cf) q (if b=true then A else B'):=λhF=>csK ss hs ho hF k1 k2
theorem gG(ss:List Nat)(q0_:jE T n K cf m e L=.case b cf' K' m' e' L'/\bA (FL e') ss=some (ss.map λ_=>SV.b b))
  (k1:W (G (.mk P T hT n c B0 N X Q) K' m' (ovr true e' ss) L' cf') q A) (k2:W (G (.mk P T hT n c B0 N X Q) K' m' (ovr false e' ss) L' cf') q B'):W (G (.mk P T hT n c B0 N X Q) K m e L cf) q (if b=true then A else B'):=let ⟨hs,ho⟩:=q0_;λhF=>ca ss hs ho hF k1 k2
theorem bM0(ss:List Nat)(hs:jE T n K cf m e L=.case b cf' K' m' e' L')(ho:bA (FL e') ss=some (ss.map λ_=>SV.b b))
  (k1:b=true->W (G (.mk P T hT n c B0 N X Q) K' m' (ovr true e' ss) L' cf') q A) (k2:b=false->W (G (.mk P T hT n c B0 N X Q) K' m' (ovr false e' ss) L' cf') q B'):W (G (.mk P T hT n c B0 N X Q) K m e L cf) q (if b=true then A else B'):=λhF=>caK ss hs ho hF k1 k2
end
section
variable {O J:Type} {fo:Option O} {kf:O->Option J} {q:J} {d:Nat} {f:FuncId} {xs:List SV}
theorem c0{sv:O->SV}(hs:jE T n K cf m e L=.call o (some d) f xs cf1 cf2 K' m' e' L')
  (hc:∀{w},HS c w L'->V0 P (eJ w) f fo xs sv) (k:∀x,W (G (.mk P T hT n c B0 N X Q) K' m' ((d,sv x)::e') L' cf2) q (kf x)):W (G (.mk P T hT n c B0 N X Q) K m e L cf) q (fo.bind kf):=λhF=>cl0 hs (λh _ hx=>hc h _ hx) hF λx _ h=>k x h
theorem c1{sv:O->ex->SV}{Lf:O->ex->List Ch}(hs:jE T n K cf m e L=.call o (some d) f xs cf1 cf2 K' m' e' L')
  (hc:∀{w},HS c w L'->VS P (eJ w) f fo xs [] [] sv Lf) (k:∀x,∀y:ex,W (G (.mk P T hT n c B0 N X Q) K' m' ((d,sv x y)::e') (L'++Lf x y) cf2) q (kf x)) (hn:∀x y,noF (Lf x y)=true:=by exact λ_ _=>rfl):W (G (.mk P T hT n c B0 N X Q) K m e L cf) q (fo.bind kf):=λhF=>cl hs hn (λh _ hx=>hc h _ hx) hF λx _ h y=>k x y h
theorem gL{J:Type}{kf:O->Option J}{q:J}{iR:aL O}(C:JR O){d t:Nat}{ls:List O}(hs:jE T n K cf m e L=.idx o d t s ls.length i Lv cf1 cf2 K' m' e' L')(h1:bI c s ls)(ht:ixT T t (aL.n O)=true)
  (k:∀x,∀y:C.ex,C.sub c.S0 c.w0 x y->W (G (.mk P T hT n c B0 N X Q) K' (m'+1) ((d,.p m' 0)::e') (L'++[.ro m' (C.cs x y)]) (cf2.ext [.ro m' (C.cs x y)])) q (kf x)):W (G (.mk P T hT n c B0 N X Q) K m e L cf) q ((idx ls i).bind kf):=λhF=>by
 unfold ixT at ht;split at ht
 ·rename_i h2;split at ht
  ·rename_i h3;exact ix C hs h1 hF h2 h3 (pV ht) λx _ h y hy=>k x y hy h
  ·cases ht
 ·cases ht
theorem ixI{J:Type}{kf:Int->Option J}{q:J}{d t:Nat}{ls:List Int}(hs:jE T n K cf m e L=.idx o d t s ls.length i Lv cf1 cf2 K' m' e' L')(h1:bI c s ls)(ht:ixT T t 1=true)
  (k:∀x,W (G (.mk P T hT n c B0 N X Q) K' (m'+1) ((d,.p m' 0)::e') (L'++[.ro m' [.i .i64 x]]) (cf2.ext [.ro m' [.i .i64 x]])) q (kf x)):W (G (.mk P T hT n c B0 N X Q) K m e L cf) q ((idx ls i).bind kf):=gL cI hs h1 ht λx _ _=>k x
theorem dP(hm:P.follows .mixedOrders=true){ops:Array Oper}{zz:Option J}(is:List Nat)(hs:jE T n K cf m e L=.rgn id ops K' m' e' L')
  (k:∀{B1},W (G (.mk P T hT n c B0 N X Q) K' m' e' L' (.d B1 ops (List.replicate ops.size false) is (kl L' is) (kl L' is))) q zz) (hf:(aZB ops && (okL m' (kl L' is) && (dE is && is.all λj=>Nat.blt j L'.length)))=true:=by kernel_rfl):W (G (.mk P T hT n c B0 N X Q) K m e L cf) q zz:=λhF=>dr is hs hm hf λ_=>k hF
theorem cN{zz:Option J}(j mj:Nat)(Fj:π->Option J)(ks:List Nat)(ej:π->υ->SE)(is:List Nat)(Lj:π->υ->List Ch)(hs:VM (jE T n K cf m e L)=some (K',cf',m',e',L'))
  (k1:W (G (.mk P T hT n c B0 (JP n c B0 (λp=>Fj p=some q) mj (λp u=>ej p u++kp e' ks) (λp u=>Lj p u++kl L' is)) (XK (.mk P T hT n c B0 N X Q) (K'.drop j)) Q) (K'.take j) m' e' L' cf') q zz)
  (k2:∀p u,W (G (.mk P T hT n c B0 N X Q) (K'.drop j) mj (ej p u++kp e' ks) (Lj p u++kl L' is) .n) q (Fj p)):W (G (.mk P T hT n c B0 N X Q) K m e L cf) q zz:=λhF=>cut j mj (λp=>Fj p=some q) ks ej is Lj hs (k1 hF) λp u h=>k2 p u h
theorem eF{zz:Option J}(j mj:Nat)(Fj:Bool->Option J)(ks:List Nat)(v:Nat)(is:List Nat)(hs:VM (jE T n K cf m e L)=some (K',cf',m',e',L'))
  (k1:W (G (.mk P T hT n c B0 (JP n c B0 (λp=>Fj p=some q) mj (λp (_:Unit)=>[(v,.b p)]++kp e' ks) (λ_ _=>[]++kl L' is)) (XK (.mk P T hT n c B0 N X Q) (K'.drop j)) Q) (K'.take j) m' e' L' cf') q zz)
  (k2:∀p,W (G (.mk P T hT n c B0 N X Q) (K'.drop j) mj ([(v,.b p)]++kp e' ks) ([]++kl L' is) .n) q (Fj p)):W (G (.mk P T hT n c B0 N X Q) K m e L cf) q zz:=cN j mj Fj ks (λp (_:Unit)=>[(v,.b p)]) is (λ_ _=>[]) hs k1 λp _=>k2 p
theorem wW{γ ω:Type}{fb:σ->Option (Step σ ρ)}{s0:σ}{gk:ρ->Option J}(u0:υ)(ks:List Nat)(el:σ->υ->SE)(is0 is:List Nat)(Ll:σ->υ->List Ch)(enc:γ->ρ)(kb:List Nat)(ej:γ->ω->SE)(ib:List Nat)(Lj:γ->ω->List Ch)
  (hs:jE T n K cf m e L=.loop id y K' m' e' L')
  (h0:asT B0.length m' e' L' is0 m' (el s0 u0++kp e' ks) (Ll s0 u0++kl L' is)=some (el s0 u0++kp e' ks,Ll s0 u0++kl L' is))
  (k1:∀{ro o},gk ro=some q->∀s u,(hr:∀p,o=.stop p->p=ro)->W (G (.mk P T hT n c B0 (NxP n c B0 o m' (λs u=>el s u++kp e' ks) (λs u=>Ll s u++kl L' is)) (BkR n c B0 hr enc m' (λb u=>ej b u++kp e' kb) (λb u=>Lj b u++kl L' ib) id (XK (.mk P T hT n c B0 N X Q) K')) Q) [] m' (el s u++kp e' ks) (Ll s u++kl L' is) (.c y)) o (fb s))
  (k2:∀b u,W (G (.mk P T hT n c B0 N X Q) K' m' (ej b u++kp e' kb) (Lj b u++kl L' ib) .n) q (gk (enc b))):W (G (.mk P T hT n c B0 N X Q) K m e L cf) q ((loop fb s0).bind gk):=λhF=>
 lp u0 ks el is0 is Ll enc kb ej ib Lj hs hF h0 (λro h1 s u o h2 h3=>k1 h1 s u h3 h2) λb u h=>k2 b u h
theorem JS{fb:Int->Option (Step Int ρ)}{s0:Int}{gk:ρ->Option J}(v:Nat)(ks:List Nat)(is:List Nat)(enc:Unit->ρ)(kb:List Nat)(ib:List Nat)
  (hs:jE T n K cf m e L=.loop id y K' m' e' L')
  (h0:asT B0.length m' e' L' is m' ([(v,.i .i64 s0)]++kp e' ks) ([]++kl L' is)=some ([(v,.i .i64 s0)]++kp e' ks,[]++kl L' is))
  (k1:∀{ro o},gk ro=some q->∀s,(hr:∀p,o=.stop p->p=ro)->W (G (.mk P T hT n c B0 (NxP n c B0 o m' (λs (_:Unit)=>[(v,.i .i64 s)]++kp e' ks) (λ_ _=>[]++kl L' is)) (BkR n c B0 hr enc m' (λ_ (_:Unit)=>[]++kp e' kb) (λ_ _=>[]++kl L' ib) id (XK (.mk P T hT n c B0 N X Q) K')) Q) [] m' ([(v,.i .i64 s)]++kp e' ks) ([]++kl L' is) (.c y)) o (fb s))
  (k2:W (G (.mk P T hT n c B0 N X Q) K' m' ([]++kp e' kb) ([]++kl L' ib) .n) q (gk (enc ()))):W (G (.mk P T hT n c B0 N X Q) K m e L cf) q ((loop fb s0).bind gk):=
 wW () ks (λs (_:Unit)=>[(v,.i .i64 s)]) is is (λ_ _=>[]) enc kb (λ_ (_:Unit)=>[]) ib (λ_ _=>[]) hs h0 (λh s _ hr=>k1 h s hr) λ_ _=>k2
theorem lrW{fb:σ->Option (Step σ ρ)}{s0:σ}{gk:ρ->Option J}(u0:υ)(ks:List Nat)(el:σ->υ->SE)(is0 is:List Nat)(Ll:σ->υ->List Ch)
  (hs:jE T n K cf m e L=.loop id y K' m' e' L')
  (h0:asT B0.length m' e' L' is0 m' (el s0 u0++kp e' ks) (Ll s0 u0++kl L' is)=some (el s0 u0++kp e' ks,Ll s0 u0++kl L' is))
  (k1:∀{ro o},gk ro=some q->∀s u,(hr:∀p,o=.stop p->p=ro)->W (G (.mk P T hT n c B0 (NxP n c B0 o m' (λs u=>el s u++kp e' ks) (λs u=>Ll s u++kl L' is)) (BkP n c B0 ro (λb:Empty=>nomatch b) m' (λ(b:Empty) (_:Unit)=>nomatch b) (λb _=>nomatch b) id (XK (.mk P T hT n c B0 N X Q) K')) Q) [] m' (el s u++kp e' ks) (Ll s u++kl L' is) (.c y)) o (fb s)):W (G (.mk P T hT n c B0 N X Q) K m e L cf) q ((loop fb s0).bind gk):=λhF=>
 lr u0 ks el is0 is Ll hs hF h0 λro h1 s u o h2 h3=>k1 h1 s u h3 h2
theorem gZ{J:Type}{kf:O->Option J}{q:J}[aL O](E:CO O)(j:Nat){t:TypeId}{ls:List O}(q0_:jE T n K cf m e L=.idx o d t s ls.length i Lv cf1 cf2 K' m' e' L'/\L'[j]?=some (ow s ls)/\eZ j cf1.yR=true)
  (k:∀x,idx ls i=some x->∀y:E.ex,Shp s ls.length->W (G (.mk P T hT n c B0 N X Q) K' (m'+1) e' (L'.set j .no++([.o (pX (s.v ls.length) ls i.toNat),.box m' (E.cs x y),wOf O m' s ls.length i.toNat]++E.Lx x y)) (cf1.ext [wOf O m' s ls.length i.toNat])) q (kf x)):W (G (.mk P T hT n c B0 N X Q) K m e L cf) q ((idx ls i).bind kf):=let ⟨hs,hj,hz⟩:=q0_;λhF=>oe E j hs hj hz hF λx h1 h2 y h3=>k x h1 y h3 h2
end
section
variable {O J ex:Type} {fo:Option O} {kf:O->Option J} {q:J} {d:Option Nat} {f:FuncId} {xs xs0:List SV} {M:List Ch} {sv:O->ex->SV} {Lr:O->ex->List Ch}
theorem dY(is:List Nat)
  (q0_:cpS (jE T n K cf m e L)=some (o,d,f,xs,cf1,cf2,K',m',e',L')/\bA (λi=>L'[i]?) is=some M/\bA (rnP [] 0) xs=some xs0/\(JF M && (dE is && is.all λj=>eZ j cf1.yR))=true)
  (hc:∀{U:Ctx},HG c U L' is->VS P U f fo xs0 [] M sv Lr)
  (k:∀x,∀y:ex,W (G (.mk P T hT n c B0 N X Q) K' m' (dse d (sv x y) e') (MP L' is++Lr x y) cf2) q (kf x)) (hn:∀x y,(JF (Lr x y) && B9 0 (sv x y))=true:=by exact λ_ _=>rfl):W (G (.mk P T hT n c B0 N X Q) K m e L cf) q (fo.bind kf):=let ⟨hs,hi,hx,hk⟩:=q0_;λhF=>
 cw0 is hs hi hx hk hn (λh _ hx=>hc h _ hx) hF λx _ h y=>k x y h
theorem kN{c1:List SV}{a1:O->ex->List SV}(i1 n1 o1 k1:Nat)(is:List Nat)
  (q0_:cpS (jE T n K cf m e L)=some (o,d,f,xs,cf1,cf2,K',m',e',L')/\aO9 L' [(i1,n1,o1,k1)]=some [c1]/\bA (λi=>L'[i]?) is=some M/\bA (rnP [(i1,n1,o1,k1)] 0) xs=some xs0/\(JF M && ([c1].all (B9.okC 0) && (dE (i1::is) && (i1::is).all λj=>eZ j cf1.yR)))=true)
  (hc:∀{U:Ctx},HG c U L' (i1::is)->∀{b1:Nat×Nat},VS P U f fo xs0 [b1] (.box 0 c1::M) sv (λx y=>.box 0 (a1 x y)::Lr x y))
  (k:∀x,∀y:ex,W (G (.mk P T hT n c B0 N X Q) K' m' (dse d (sv x y) e') (RQ L' (MP L' (i1::is)++Lr x y) [(i1,n1,o1,k1)] [a1 x y]) cf2) q (kf x)) (hn:∀x y,(aGF [(i1,n1,o1,k1)] [a1 x y] && ([a1 x y].all (B9.okC 0) && (JF (Lr x y) && B9 0 (sv x y))))=true:=by exact λ_ _=>rfl):W (G (.mk P T hT n c B0 N X Q) K m e L cf) q (fo.bind kf):=let ⟨hs,hb,hi,hx,hk⟩:=q0_;λhF=>
 cw1 i1 n1 o1 k1 is hs hb hi hx hk hn (λh _ _ hx=>hc h _ hx) hF λx _ h y=>k x y h
theorem aW5{c1 c2:List SV}{a1 a2:O->ex->List SV}(i1 n1 o1 k1:Nat)(i2 n2 o2 k2:Nat)(is:List Nat)
  (hs:cpS (jE T n K cf m e L)=some (o,d,f,xs,cf1,cf2,K',m',e',L')) (hb:aO9 L' [(i1,n1,o1,k1),(i2,n2,o2,k2)]=some [c1,c2]) (hi:bA (λi=>L'[i]?) is=some M) (hx:bA (rnP [(i1,n1,o1,k1),(i2,n2,o2,k2)] 0) xs=some xs0)
  (hk:(JF M && ([c1,c2].all (B9.okC 0) && (dE (i1::i2::is) && (i1::i2::is).all λj=>eZ j cf1.yR)))=true)
  (hc:∀{U:Ctx},HG c U L' (i1::i2::is)->∀{b1 b2:Nat×Nat},VS P U f fo xs0 [b1,b2] (.box 0 c1::.box 1 c2::M) sv (λx y=>.box 0 (a1 x y)::.box 1 (a2 x y)::Lr x y))
  (k:∀x,∀y:ex,W (G (.mk P T hT n c B0 N X Q) K' m' (dse d (sv x y) e') (RQ L' (MP L' (i1::i2::is)++Lr x y) [(i1,n1,o1,k1),(i2,n2,o2,k2)] [a1 x y,a2 x y]) cf2) q (kf x)) (hn:∀x y,(aGF [(i1,n1,o1,k1),(i2,n2,o2,k2)] [a1 x y,a2 x y] && ([a1 x y,a2 x y].all (B9.okC 0) && (JF (Lr x y) && B9 0 (sv x y))))=true:=by exact λ_ _=>rfl):W (G (.mk P T hT n c B0 N X Q) K m e L cf) q (fo.bind kf):=λhF=>
 cw2 i1 n1 o1 k1 i2 n2 o2 k2 is hs hb hi hx hk hn (λh _ _ _ hx=>hc h _ hx) hF λx _ h y=>k x y h
theorem bM1{c1 c2:List SV}{a1 a2 a3:O->ex->List SV}(i1 n1 o1 k1:Nat)(i2 n2 o2 k2:Nat)(i3 n3 o3 k3:Nat)(is:List Nat)
  (hs:cpS (jE T n K cf m e L)=some (o,d,f,xs,cf1,cf2,K',m',e',L')) (hb:aO9 L' [(i1,n1,o1,k1),(i2,n2,o2,k2),(i3,n3,o3,k3)]=some [c1,c2,c3]) (hi:bA (λi=>L'[i]?) is=some M) (hx:bA (rnP [(i1,n1,o1,k1),(i2,n2,o2,k2),(i3,n3,o3,k3)] 0) xs=some xs0)
  (hk:(JF M && ([c1,c2,c3].all (B9.okC 0) && (dE (i1::i2::i3::is) && (i1::i2::i3::is).all λj=>eZ j cf1.yR)))=true)
  (hc:∀{U:Ctx},HG c U L' (i1::i2::i3::is)->∀{b1 b2 b3:Nat×Nat},VS P U f fo xs0 [b1,b2,b3] (.box 0 c1::.box 1 c2::.box 2 c3::M) sv (λx y=>.box 0 (a1 x y)::.box 1 (a2 x y)::.box 2 (a3 x y)::Lr x y))
  (k:∀x,∀y:ex,W (G (.mk P T hT n c B0 N X Q) K' m' (dse d (sv x y) e') (RQ L' (MP L' (i1::i2::i3::is)++Lr x y) [(i1,n1,o1,k1),(i2,n2,o2,k2),(i3,n3,o3,k3)] [a1 x y,a2 x y,a3 x y]) cf2) q (kf x)) (hn:∀x y,(aGF [(i1,n1,o1,k1),(i2,n2,o2,k2),(i3,n3,o3,k3)] [a1 x y,a2 x y,a3 x y] && ([a1 x y,a2 x y,a3 x y].all (B9.okC 0) && (JF (Lr x y) && B9 0 (sv x y))))=true:=by exact λ_ _=>rfl):W (G (.mk P T hT n c B0 N X Q) K m e L cf) q (fo.bind kf):=λhF=>
 cw3 i1 n1 o1 k1 i2 n2 o2 k2 i3 n3 o3 k3 is hs hb hi hx hk hn (λh _ _ _ _ hx=>hc h _ hx) hF λx _ h y=>k x y h
end
theorem a64{iR:aL O}{C:JR O}{sr:J->SV}{p:O->Option J}(hc:∀args w,(callFunc g args).run P w=.ok (.enter g args) w)(hn:∀{U:Ctx} {x y},C.sub U.S0 U.w0 x y->V0 P U g (p x) [C.sv x y] sr):Fu1 P (eJ w) C sr g [] p:=fu1 hc (by intro U x y h q hq;exact hn h _ hq)
theorem aZT{iR:aL O}{C:JR O}{sr:J->SV}{Bs:Bl}{cs:List (Nat×List SV)}{p:O->Option J}(hc:∀args w,(callFunc g args).run P w=.ok (.enter g args) w)(hB:∀w1,eC F0 w w1->mK (eJ w1) w1 Bs (roL 0 cs))(hl:bA (fP Bs) (bAQ 0 cs)=some (VO Bs))(hn:∀{w1 x y},eC F0 w w1->C.sub (All w1) w1 x y->VS P (eJ w1) g (p x) (C.sv x y::bAQ 0 cs) Bs (roL 0 cs) (λr (_:Unit)=>sr r) (λ_ _=>[]))(hz:∀q,B9 0 (sr q)=true:=by exact λ_=>rfl):Fu1 P (eJ w) C sr g (VO Bs) p:=fk1 hc hB hl hz (by intro w1 x y h h' q hq;exact hn h h' _ hq)
section
variable {O J:Type} {fo:Option O} {kf:O->Option J} {q:J} {d:Nat} {f g:FuncId} {xs:List SV} {sv:O->SV}
theorem aZU{c1:List SV}(is:List Nat)(hs:jE T n K cf m e L=.callp o (some d) f xs cf1 cf2 K' m' e' L')(hk:kl L' is=[.ro n1 c1])(ho:(aZH [(n1,c1)] && okA xs.dropLast)=true)(hx:xs=xs.dropLast++[.f g [n1]])
  (hc:∀{w},HS c w L'->∀{b1:Nat×Nat},(∀w1,eC F0 w w1->mK (eJ w1) w1 [b1] [.ro 0 c1])->V0 P (eJ w) f fo (xs.dropLast++[.k (.func (.func g) #[] (VO [b1]).toArray)]) sv)
  (k:∀x,W (G (.mk P T hT n c B0 N X Q) K' m' ((d,sv x)::e') L' cf2) q (kf x)):W (G (.mk P T hT n c B0 N X Q) K m e L cf) q (fo.bind kf):=λhF=>
 bMS is hs hk ho hx (λh _ h2 _ hx=>hc h h2 _ hx) hF λx _ h=>k x h
end
end
section
variable {n:Nat} {c:Ctx} {B0:Bl} {m:Nat} {e:SE} {L:List Ch}
def kf(L xs:List Ch)(k:Nat):List Nat->List Ch
 |[]=>[]
 |i::is=>match Nat.blt i k with
  |true=>match L[i]? with
   |some x=>x::kf L xs k is
   |none=>kf L xs k is
  |false=>match xs[i-k]? with
   |some x=>x::kf L xs k is
   |none=>kf L xs k is
end
section
variable {P:Program} {T:TT} {hT:GJ P T} {n:Nat} {c:Ctx} {B0:Bl} {N:Act->World->Prop} {X:Nat->Act->World->Prop} {Q:Act->World->Prop} {K K':List Fr} {m m':Nat} {e e':SE} {L L' Lv:List Ch} {cf cf' cf1 cf2:uI} {o:Oper}
theorem aZV{O J:Type}{f:O->Option J}:∀{xs ys:List O} {vs:List J},bA f (xs++ys)=some vs->∃v1 v2,bA f xs=some v1/\bA f ys=some v2/\vs=v1++v2
 |[],ys,vs,h=>⟨[],vs,rfl,h,rfl⟩
 |x::xs,ys,vs,h=>by
  simp only[aDW,bA] at h;split at h
  ·cases h
  ·rename_i h1;split at h
   ·cases h
   ·rename_i h2;cases h;obtain⟨v1,v2,q1,q2,rfl⟩:=aZV h2;grind[bA]
theorem aZW{O J:Type}{f:O->Option J}:∀{xs ys:List O} {v1 v2:List J},bA f xs=some v1->bA f ys=some v2->bA f (xs++ys)=some (v1++v2)
 |[],ys,v1,v2,h1,h2=>by cases h1;exact h2
 |x::xs,ys,v1,v2,h1,h2=>by
  simp only[bA] at h1;split at h1
  ·cases h1
  ·rename_i g1;split at h1
   ·cases h1
   ·rename_i g2;cases h1;simp[bA,g1,aZW g2 h2]
theorem bM2{iR:aL O}{C:JR O}{sr:J->SV}{b1:Nat×Nat}{c1:List SV}{p:O->Option J}(hc:∀args w,(callFunc g args).run P w=.ok (.enter g args) w)(hB:∀w1,eC U.W U.w0 w1->mK (eJ w1) w1 [b1] [.ro 0 c1])
  (hn:∀{w1 x y},C.sub (All w1) w1 x y->VS P (eJ w1) g (p x) [C.sv x y,.p 0 0] [b1] [.ro 0 c1] (λr (_:Unit)=>sr r) (λ_ _=>[])) (hz:∀q,B9 0 (sr q)=true:=by exact λ_=>rfl):Fu1 P U C sr g (VO [b1]) p:=
 ⟨hc,λw1 hk x y hy q hq v hv=>by
  have hv':fP [b1] (C.sv x y)=some v:=by simpa using xU (B:=[]) [b1] hv
  have hl:fP [b1] (.p 0 0)=some (.pointer (some ⟨b1.1,b1.2,none⟩)):=by simp[fP,gV,bZ]
  refine Calls.mono ((hn hy _ hq).run (v::VO [b1]) (by grind[bA,VO]) (hB w1 hk)) λen w' ⟨v',h1,y',h2,h3⟩=>⟨v',h1,?_,?_⟩
  ·grind[aVO]
  ·simpa using aF8 (m:=0) h3 rfl⟩
theorem bM3{fo:Option O}{kf:O->Option J}{q:J}{d:Option Nat}{f:FuncId}{xs0:List SV}{M:List Ch}{sv:O->ex->SV}{Lr:O->ex->List Ch}{c1:List SV}(jc:Nat)(is:List Nat)
  (hs:cpS (jE T n K cf m e L)=some (o,d,f,xs,cf1,cf2,K',m',e',L')) (hro:L'[jc]?=some (.ro n1 c1)) (hi:bA (λi=>L'[i]?) is=some M) (hxl:xs=xs.dropLast++[.f g [n1]]) (hx:bA (rnP [] 0) xs.dropLast=some xs0)
  (hk:(B9.okC 0 c1 && (JF M && (dE is && is.all λj=>eZ j cf1.yR)))=true)
  (hc:∀{U:Ctx},HG c U L' is->∀{b1:Nat×Nat},(∀w1,eC U.W U.w0 w1->mK (eJ w1) w1 [b1] [.ro 0 c1])->VS P U f fo (xs0++[.k (.func (.func g) #[] (VO [b1]).toArray)]) [] M sv Lr)
  (k:∀x,∀y:ex,W (G (.mk P T hT n c B0 N X Q) K' m' (dse d (sv x y) e') (MP L' is++Lr x y) cf2) q (kf x)) (hn:∀x y,(JF (Lr x y) && B9 0 (sv x y))=true:=by exact λ_ _=>rfl):W (G (.mk P T hT n c B0 N X Q) K m e L cf) q (fo.bind kf):=λhF=>by
 refine gY (g:=.mk P T hT n c B0 N X Q) (bA0 hs ?_);intro fo' args ats ho hd hf ⟨ys,hys,hxs⟩ hdn hE;simp only[GF] at hk hn;obtain⟨hk1,hkM,hka,hkz⟩:=hk;cases hfo:fo with
 |none=>grind
 |some x=>
  rw[hfo] at hF;refine hE ex (λ_=>m') (λy=>dse d (sv x y) e') (λy=>MP L' is++Lr x y) (λy=>XN _ hkz) (λB a w next Q' hm hA hS hnext=>?_) (λy=>k x y hF);generalize hBB:B0S (.mk P T hT n c B0 N X Q) cf1++B=BB at hm hA hS hnext;obtain⟨⟨R,s1,s2⟩,s0⟩:=hS;have f1:=s1.front is hka;rw[R6 hi] at f1;obtain⟨U,k1,k2,k3,k4,k5,k6,k7⟩:=f1.bG5 s0;subst k1;have hHG:HG c U L' is:=by
   refine⟨λ{O} _ {s d} h=>k4 (fRd [s.v d.length] d) h,λ{O} _ {s d} i hi hj=>?_,λ{O} _ {s d} i hi=>k5 _ (s2 _ (LS hi))⟩;have:(blank (L'.map (kP BB)) is)[i]?=some (cS [s.v d.length] d):=by rw[aII (aIP hj),B7,hi];rfl
   exact k6 _ (LS this) (fRd [s.v d.length] d) λw F h=>aL.own_rd h
  obtain⟨b,z,vs1,g1,g2,g3⟩:=s2 _ (LS hro);have hc0:=GL hk1 g2;rw[List.take_zero] at hc0;have hB:∀w1,eC U.W U.w0 w1->mK (eJ w1) w1 [(b,z)] [.ro 0 c1]:=λw1 hkp=>by have h1:=k5 _ g3;have h2:(fAt b z vs1).P U.S0 w1:=(fAt b z vs1).agree h1 λb' o' hS=>hkp.cell b' o' (k2 b' o' hS) λhw=>k3.apart b' o' hw hS;have h3:(fAt b z vs1).P (All w1) w1:=(fAt b z vs1).mono h2 λb' o' hS=>PZ (k2 b' o' hS) hkp.size;have h4:St (eJ w1) w1 [] [fAt b z vs1]:=St.enter aj;refine⟨⟨[fAt b z vs1],St.more (ch:=NY) h4 (eC.refl _ _) ⟨F0,λ_ _ h=>h,λ_ _ h=>h.elim⟩,λx hx=>?_⟩,λ_ _ h=>h⟩;simp at hx;subst hx;exact⟨b,z,vs1,ae,fB (λx v h=>by simpa using gK (B:=[]) _ h) hc0,ae⟩
  obtain⟨hcall,hrun⟩:=hc hHG hB x hfo;obtain⟨vs,h1,h2⟩:=aGB hA hys;obtain⟨v,h3,h4⟩:=eH hA hf;simp[fP,bA] at h3;subst h3;have h1':bA (fP BB) xs=some vs:=by grind[XM]
  have hvs:bA (fP []) (xs0++[.k (.func (.func g) #[] (VO [(b,z)]).toArray)])=some vs:=by rw[hxl] at h1';obtain⟨va,vb,q1,q2,rfl⟩:=aZV h1';have q3:=aW3 (Bs:=[]) (ps:=[]) (ds:=[]) (pv:=[]) (L:=L') (B:=BB) trivial (λi=>by simp[blP]) hx q1;simp only[bA,fP,gV,aAF,g1] at q2;cases q2;exact aZW q3 (by simp[bA,fP,gV,bZ,VO];rfl)
  have hst:mK U U.w0 [] M:=by
   refine⟨⟨[],?_,λx hx=>?_⟩,k2⟩
   ·rw[aA5 (B':=BB) hkM];exact k3
   ·exact aA6 hkM x hx
  have h5:=hrun vs hvs hst;have h6:=aA4 (w:=U.w0) hcall ho h4 h2;unfold Oper.wp;rw[h6 _ a hA.env,Oper.upon_enter];refine Calls.mono h5 λen w' ⟨v,hv,y,g1,g2⟩=>?_;subst hv;obtain⟨n3,n4⟩:=hn x y;have g3:=xU BB (aVO n4 g1);rw[aVA] at g3;obtain⟨⟨R',t1,t2⟩,t0⟩:=g2;have t3:St U w' ((Lr x y).map (kP BB)) R':=by grind[aA5]
  have t4:=k7 w' _ R' t3;have t6:mK c w' BB (MP L' is++Lr x y):=by
   refine⟨⟨R,?_,λz hz=>?_⟩,s0⟩
   ·rw[xR,KF];exact t4.rot
   ·rcases jG.1 hz with hz|hz
    ·rcases R5 _ _ hz with hz|hz
     ·grind
     ·subst hz;trivial
    grind[aA6]
  rw[hd];cases d with
  |none=>exact hnext y _ _ ⟨[],aj,by grind[dse,Act.put],aj⟩
  |some d=>exact hnext y _ _ ⟨[],aj,by simpa[dse] using hA.of g3 (hA.env.put (by grind[sD,yT]) v),aj⟩
end
def GG(l:List Int):List Int:=l.foldl (λa x=>if a.getLast?=some x then a else a++[x]) []
theorem aIQ(l:List Int)(x:Int):GG (l++[x])=if(GG l).getLast?=some x then GG l else GG l++[x]:=by grind[GG]
theorem a65:∀(l:List Int),(GG l).getLast?=l.getLast?:=by
 intro l;rcases List.eq_nil_or_concat l with rfl|⟨l,x,rfl⟩
 ·rfl
 grind[aIQ]
theorem bFH(l:List Int):(GG l).length<=l.length:=by
 suffices h:∀(l a:List Int),(l.foldl (λa x=>if a.getLast?=some x then a else a++[x]) a).length<=a.length+l.length by have:=h l [];rw[List.length_nil,aD0] at this;exact this
 intro l;induction l with
 |nil=>simp
 |cons x l ih=>
  grind
def slices_Compact_int(s:List Int):Option (List Int):=some (GG s)
theorem a5O(l:List Int):Lib.compact l=GG l:=by
 have h:∀m,m<=l.length->Lib.compactUpTo l.toArray m=GG (l.take m):=by
  intro m;induction m with
  |zero=>intro _;rfl
  |succ m ih=>
   intro hm;have hm':m<l.length:=hm;rw[Lib.compactUpTo_succ,ih aa,R0 hm',aIQ,a65];have e1:l.toArray[m]! = l[m]:=by simp[hm']
   have key:(Lib.keeps l.toArray m=true)↔¬(l.take m).getLast?=some l[m]:=by
    cases m with
    |zero=>simp[Lib.keeps]
    |succ k=>
     have e2:l.toArray[k]! = l[k]:=aj
     rw[R0 (by omega:k<l.length),List.getLast?_concat];simp only[Lib.keeps,decide_eq_true_eq,e1,Nat.add_sub_cancel,e2];grind
   grind
 have:=h l.length (jZ _);rw[List.take_length] at this;exact this
open Go.Sort in
theorem aZX{b off q:Nat}{d0 d:Array Int}(h0:Holds (Value.int .i64) w b off d0)(hs:d.size=d0.size):eC (eE b off d.size) w (putRow (Value.int .i64) (Sort.ahead w q) b off d):=by
 have hc:∀b' o,b'<w.heap.size->¬eE b off d.size b' o->(putRow (Value.int .i64) (Sort.ahead w q) b off d).cell? ⟨b',o,none⟩=w.cell? ⟨b',o,none⟩:=λb' o _ hn=>by
  rw[cell?_putRow_other _ _ _ _ _ _ (by
   by_cases e:b'=b
   ·right;by_cases h1:o<off
    ·grind
    ·right;by_cases h2:o<off+d.size
     ·exact absurd ⟨e,aa,h2⟩ hn
     grind
   grind)]
  rfl
 refine⟨rfl,rfl,rfl,ae,λb' hb hn=>?_,hc,λb' o _=>ae,λb' o h=>?_⟩
 ·show(w.heap.modify b _)[b']? = _;rw[Array.getElem?_modify];split
  ·rename_i e;subst e;have hz:d.size=0:=by
    rcases Nat.eq_zero_or_pos d.size with h|h
    ·exact h
    ·exact absurd ⟨rfl,jZ _,aa⟩ (hn off)
   cases hh:w.heap[b]? with
   |none=>rfl
   |some o=>
    cases o with
    |cells c e fr=>
     simp only[Option.map_some,onCells];have:putCells (Value.int .i64) off d c=c:=by apply Array.ext_getElem?;intro k;simp only[putCells,Array.getElem?_mapIdx,hz];grind
     rw[this]
    |_=>rfl
  ·rfl
 ·by_cases hn:eE b off d.size b' o
  ·obtain⟨rfl,h1,h2⟩:=hn;have:=cell?_putRow (Value.int .i64) (Sort.ahead w q) b' off d0 d h0 hs (o-off) aa;grind
  grind[jR]
open Go.Proofs in
theorem bM4{ρ:_}(Ly:Lays2.n20 P ρ)(hcall:∀args w,(callFunc (ρ.f 20) args).run P w=.ok (.enter (ρ.f 20) args) w){s:List Int}{s1:AC}:VS P U (ρ.f 20) (slices_Compact_int s) [.h s1 s.length] [] [ow s1 s] (λr (y:AC)=>.h y r.length) (λr y=>[ow y r]):=λr hr=>by
 cases hr;refine⟨hcall,λvs hv hS=>?_⟩;simp[bA,fP,gV,bZ] at hv;subst hv;obtain⟨⟨R,h1,h2⟩,h0⟩:=hS;have h1:St U U.w0 [cS [s1.v s.length] s] R:=by grind[kP]
 obtain⟨F,hF⟩:=h1.chunk 0 rfl;have hF:aL.own U.w0 [s1.v s.length] s F:=hF;obtain⟨a,cp,he,hl1,hl2,hrest⟩:=(show LU U.w0 _ s F from hF);obtain⟨sa,sc⟩:=s1;simp only[AC.v,List.cons.injEq,Value.slice.injEq,and_true,true_and] at he;obtain⟨rfl,rfl⟩:=he;rcases hrest with ⟨rfl,rfl,hno⟩|⟨b,off,Fs,rfl,hrow,hel,hdj,hdr,hFF⟩
 ·have hs:s=[]:=yS aa;subst hs;refine(Any.slices_Compact_int_empty Ly none 0 U.w0).mono ?_;rintro e w' ⟨rfl,rfl⟩;exact⟨_,rfl,⟨none,0⟩,by grind[fP,gV,bZ,GG],⟨R,by grind[GG],λx hx=>by simp at hx;subst hx;trivial⟩,h0⟩
 ·have hn:aL.n Int=1:=rfl;have hH:Sort.Holds (Value.int .i64) U.w0 b off s.toArray:=λj hj=>by
   have hj':j<s.length:=aa
   obtain⟨ec,c1,c2⟩:=hel j hj';have c3:ec=[Value.int .i64 s[j]]:=(show _=_/\_ from c2).1;have:=c1 0 (.int .i64 s[j]) (by rw[c3];rfl);rw[hn,Nat.mul_one,aDZ] at this;refine⟨aj,(hrow (off+j) ⟨rfl,aa,aj⟩).2⟩
  have hlen:(Lib.compact s).length<=s.length:=by grind[a5O,bFH]
  refine(Any.slices_Compact_int Ly b off sc s U.w0 hH (iI hl1 (iI hl2 ai)) hl1).mono ?_;rintro e w' ⟨rfl,q,rfl⟩;rw[a5O] at hlen ⊢;have hsz:(GG s++List.replicate (s.length-(GG s).length) 0).toArray.size=s.toArray.size:=ah
  have hsa:s.toArray.size=s.length:=ae
  have hK:=aZX (q:=q) hH hsz;refine⟨_,rfl,⟨some ⟨b,off,none⟩,sc⟩,by grind[fP,gV,bZ],⟨R,?_,by simp[roF]⟩,h0⟩;have:=h1.aFY (w':=Sort.putRow (Value.int .i64) (Sort.ahead U.w0 q) b off (GG s++List.replicate (s.length-(GG s).length) 0).toArray) (ch':=cS [(⟨some ⟨b,off,none⟩,sc⟩ : AC).v (GG s).length] (GG s)) 0 rfl λF2 hF2=>by
   have hF2:aL.own U.w0 [_] s F2:=hF2;obtain⟨a',cp',he',_,_,hrest'⟩:=(show LU U.w0 _ s F2 from hF2);simp only[AC.v,List.cons.injEq,Value.slice.injEq,and_true,true_and] at he';obtain⟨rfl,rfl⟩:=he';rcases hrest' with ⟨h,_⟩|⟨b',off',Fs',h,hrow',hel',hdj',hdr',hFF'⟩
   ·cases h
   ·cases h;have hemp:∀i (hi:i<s.length) b' o,¬Fs' i b' o:=λi hi b' o h=>by obtain⟨ec,_,c2⟩:=hel' i hi;exact(show _/\∀b o,¬Fs' i b o from c2).2 b' o h
    refine⟨eE b off (sc*1),eE b off (GG s++List.replicate (s.length-(GG s).length) 0).toArray.size,hK,λb' o h=>(hFF' b' o).2 (.inl ?_),?_,λb' o h=>.inl ((hFF' b' o).2 (.inl h))⟩
    ·obtain⟨h3,h4,h5⟩:=h;exact⟨h3,h4,aj⟩
    ·refine⟨_,sc,rfl,aa,hl2,.inr ⟨b,off,λ_=>F0,rfl,λo ho=>?_,λi hi=>?_,λ_ _ _ _ _ _ _ h _=>h,λ_ _ _ _ h _=>h,λb' o=>by simp[F0,hn]⟩⟩
     ·have:=hrow' o ho;exact⟨hK.stay b o this.1,(hK.yR b o (jR this.1)).trans this.2⟩
     ·refine⟨[.int .i64 (GG s)[i]],λj v hj=>?_,rfl,λ_ _ h=>h⟩;have hj0:j=0:=aj
      subst hj0;simp at hj;subst hj;rw[hn,Nat.mul_one,aDZ];have:=Sort.cell?_putRow (Value.int .i64) (Sort.ahead U.w0 q) b off s.toArray (GG s++List.replicate (s.length-(GG s).length) 0).toArray hH hsz i aa;grind
  grind[kP]
theorem fkP{iR:aL O}{C:JR O}{sr:J->SV}{Bs:Bl}{L0:List Ch}{cap:List Value}{p:O->Option J}(hc:∀args w,(callFunc g args).run P w=.ok (.enter g args) w)(hB:∀w1,eC F0 w w1->mK (eJ w1) w1 Bs L0)(hl:bA (fP Bs) xs=some cap)
  (hn:∀{w1 x y},eC F0 w w1->C.sub (All w1) w1 x y->VS P (eJ w1) g (p x) (C.sv x y::xs) Bs L0 (λr (_:Unit)=>sr r) (λ_ _=>[])) (hz:∀q,B9 0 (sr q)=true:=by exact λ_=>rfl):Fu1 P (eJ w) C sr g cap p:=
 ⟨hc,λw1 hk x y hy q hq v hv=>by
  have hv':fP Bs (C.sv x y)=some v:=by simpa using xU (B:=[]) Bs hv
  refine Calls.mono ((hn hk hy q hq).run (v::cap) (by grind[bA]) (hB w1 hk)) λen w' ⟨v',h1,y',h2,h3⟩=>⟨v',h1,?_,?_⟩
  ·grind[aVO]
  ·simpa using aF8 (m:=0) h3 rfl⟩
theorem bFI{c:Ctx}{B:Bl}{L:List Ch}{c1:List SV}{b1 b2:Nat×Nat}(hS:mK c w B L)(h1:Ch.ro n1 c1∈L)(h2:Ch.ro n2 [.p n3 0]∈L)(h3:Ch.ro n3 c3∈L)(o1:B9.okC 0 c1=true)(o3:B9.okC 0 c3=true)(g1:B[n1]?=some b1)(g2:B[n2]?=some b2) :
  ∃b3:Nat×Nat,∀w1,eC F0 w w1->mK (eJ w1) w1 [b1,b2,b3] [.ro 0 c1,.ro 1 [.p 2 0],.ro 2 c3]:=by
 obtain⟨⟨R,s1,s2⟩,s0⟩:=hS;obtain⟨p1,z1,v1,e1,m1,f1⟩:=s2 _ h1;obtain⟨p2,z2,v2,e2,m2,f2⟩:=s2 _ h2;obtain⟨p3,z3,v3,e3,m3,f3⟩:=s2 _ h3;rw[g1] at e1;cases e1;rw[g2] at e2;cases e2;simp only[bA,bZ,e3] at m2;cases m2;have q1:=GL o1 m1;have q3:=GL o3 m3;rw[List.take_zero] at q1 q3;refine⟨(p3,z3),λw1 hkp=>?_⟩;have fct:∀f∈R,f.P (All w1) w1:=λf hf=>by obtain⟨i,hi⟩:=aKL hf;exact bGV (s1.fact i hi) hkp
 refine⟨⟨[fAt p1 z1 v1,fAt p2 z2 [.pointer (some ⟨p3,z3+0,none⟩)],fAt p3 z3 v3],?_,?_⟩,λ_ _ h=>h⟩
 ·have h4:St (eJ w1) w1 [] [fAt p1 z1 v1,fAt p2 z2 [.pointer (some ⟨p3,z3+0,none⟩)],fAt p3 z3 v3]:=St.enter (by
   grind)
  have more:∀{M:List Chunk} {R:List Fact},St (eJ w1) w1 M R->St (eJ w1) w1 (M++[NY]) R:=λh=>St.more (ch:=NY) h (eC.refl _ _) ⟨F0,λ_ _ h=>h,λ_ _ h=>h.elim⟩;exact more (more (more h4))
 ·intro x hx;simp only[xS,a8W,or_false] at hx;rcases hx with rfl|rfl|rfl
  ·exact⟨p1,z1,v1,rfl,fB (λx v h=>by simpa using gK (B:=[]) [(p1,z1),(p2,z2),(p3,z3)] h) q1,ae⟩
  ·exact⟨p2,z2,_,rfl,rfl,ae⟩
  ·exact⟨p3,z3,v3,rfl,fB (λx v h=>by simpa using gK (B:=[]) [(p1,z1),(p2,z2),(p3,z3)] h) q3,ae⟩
section
variable {P:Program} {T:TT} {hT:GJ P T} {n:Nat} {c:Ctx} {B0:Bl} {N:Act->World->Prop} {X:Nat->Act->World->Prop} {Q:Act->World->Prop} {K K':List Fr} {m m':Nat} {e e':SE} {L L':List Ch} {cf cf1 cf2:uI} {o:Oper} {Lv:List Ch} {d:Nat}
theorem bM5{fo:Option O}{kf:O->Option J}{q:J}{f:FuncId}{sv:O->SV}{c1:List SV}(is:List Nat)(hs:jE T n K cf m e L=.callp o (some d) f xs cf1 cf2 K' m' e' L')(hk:kl (shr [n3] L') is=[.ro n1 c1,.ro n2 [.p n3 0],.ro n3 c3])(ho:((B9.okC 0 c1 && B9.okC 0 c3) && okA xs.dropLast)=true)(hx:xs=xs.dropLast++[.f g [n1,n2]])
  (hc:∀{w},HS c w L'->∀{b1 b2 b3:Nat×Nat},(∀w1,eC F0 w w1->mK (eJ w1) w1 [b1,b2,b3] [.ro 0 c1,.ro 1 [.p 2 0],.ro 2 c3])->∀{x},fo=some x->Fn0 P f (eJ w) (xs.dropLast++[.k (.func (.func g) #[] (VO [b1,b2]).toArray)]) sv x) (hF:fo.bind kf=some q)
  (k:∀x,fo=some x->kf x=some q->G (.mk P T hT n c B0 N X Q) K' m' ((d,sv x)::e') L' cf2):G (.mk P T hT n c B0 N X Q) K m e L cf:=by
 refine gY (g:=.mk P T hT n c B0 N X Q) ?_;rw[hs];intro fo' args ats ho' hd hf ⟨ys,hys,hxs⟩ hdn hE;rw[GF] at ho;cases hfo:fo with
 |none=>grind
 |some x=>
  rw[hfo] at hF;refine hE Unit (λ_=>m') (λ_=>(d,sv x)::e') (λ_=>L') (λ_=>by simpa using uK (L:=L') []) (λB a w next Q' hm hA hS hnext=>?_) (λ_=>k x hfo hF);obtain⟨vs,h1,h2⟩:=aGB hA hys;obtain⟨v,h3,h4⟩:=eH hA hf;simp[fP,bA] at h3;subst h3;rw[<-XM,hxs] at h1;rw[hx] at h1;have split:∀{qs:List SV} {b:SV} {vs:List Value} {B:Bl},bA (fP B) (qs++[b])=some vs->∃us v,bA (fP B) qs=some us/\fP B b=some v/\vs=us++[v]:=by
   intro qs;induction qs with
   |nil=>
    grind[bA]
   |cons a qs ih=>
    intro b vs B h;simp only[aDW,bA] at h;grind[bA]
  obtain⟨us,fv,g1,g2,rfl⟩:=split h1;simp only[fP] at g2;split at g2
  ·rename_i cap hcap;cases g2;obtain⟨Bs,b1,b2,b3⟩:=bAR (cs:=[(n1,c1),(n2,[.p n3 0])]) hcap;subst b1;obtain⟨d1,d2,rfl⟩:∃d1 d2,Bs=[d1,d2]:=by
    match Bs,b2 with
    |[d1,d2],_=>simp
   have hmem:∀x∈[Ch.ro n1 c1,.ro n2 [.p n3 0],.ro n3 c3],x∈shr [n3] L':=λx hx=>aO0 (is:=is) aj;rw[GF] at ho;obtain⟨q1,y1,y2⟩:=b3 0 n1 c1 rfl;obtain⟨q2,y3,y4⟩:=b3 1 n2 _ rfl;simp at y1 y3;subst y1 y3;obtain⟨d3,hst⟩:=bFI (n3:=n3) (c1:=c1) (c3:=c3) (aWY [n3] [] L' hS) (hmem (.ro n1 c1) ae) (hmem (.ro n2 [.p n3 0]) ae) (hmem (.ro n3 c3) ae) ho.1.1 ho.1.2 y2 y4;obtain⟨hcall,hrun⟩:=hc ⟨_,hS⟩ hst hfo;have join:∀{qs:List SV} {us:List Value} {b:SV} {v:Value},bA (fP []) qs=some us->fP [] b=some v->bA (fP []) (qs++[b])=some (us++[v]):=by
    intro qs;induction qs with
    |nil=>grind[bA]
    |cons a qs ih=>
     intro us b v h hb;simp only[bA] at h;split at h
     ·cases h
     ·rename_i u hu;split at h
      ·cases h
      ·rename_i us' hus;cases h;simp[bA,hu,ih hus hb]
   have h5:=hrun (us++[.func (.func g) #[] (VO [d1,d2]).toArray]) (join (aN4 ho.2 g1) (by simp[fP,gV,bZ,Value.oneCell'])) (bAL w);have h6:=aA4 (w:=w) hcall ho' h4 h2;unfold Oper.wp;rw[h6 _ a hA.env,Oper.upon_enter];refine Calls.mono h5 λen w' ⟨v,hv,y,e1,e2⟩=>?_;subst hv;rw[hd];have g3:=xU (B0S (.mk P T hT n c B0 N X Q) cf1++B) e1;exact hnext () _ _ ⟨[],aj,by simpa using hA.of aj (hA.env.put (by grind[sD,yT]) v),by simpa using hS.after (L2:=[]) rfl e2⟩
  ·cases g2
theorem clP{fo:Option O}{kf:O->Option J}{q:J}{f:FuncId}{sv:O->SV}{c1:List SV}(is:List Nat)(hs:jE T n K cf m e L=.callp o (some d) f xs cf1 cf2 K' m' e' L')(hk:kl (shr [n3] L') is=[.ro n1 c1,.ro n2 [.p n3 0],.ro n3 c3])(ho:((B9.okC 0 c1 && B9.okC 0 c3) && okA xs.dropLast)=true)(hx:xs=xs.dropLast++[.f g [n1,n2]])
  (hc:∀{w},HS c w L'->∀{b1 b2 b3:Nat×Nat},(∀w1,eC F0 w w1->mK (eJ w1) w1 [b1,b2,b3] [.ro 0 c1,.ro 1 [.p 2 0],.ro 2 c3])->V0 P (eJ w) f fo (xs.dropLast++[.k (.func (.func g) #[] (VO [b1,b2]).toArray)]) sv)
  (k:∀x,W (G (.mk P T hT n c B0 N X Q) K' m' ((d,sv x)::e') L' cf2) q (kf x)):W (G (.mk P T hT n c B0 N X Q) K m e L cf) q (fo.bind kf):=λhF=>
 bM5 is hs hk ho hx (λh _ _ _ h2 _ hx=>hc h h2 _ hx) hF λx _ h=>k x h
def noD:uI->Bool
 |.d _ _ _ _ _ _=>false
 |.o _ _ _ _ _ _ _=>false
 |_=>true
theorem shS(ns:List Nat){cf':uI}(hs:VM (jE T n K cf m e L)=some (K',cf',m',e',L'))(hf:noD cf'=true)(k:G (.mk P T hT n c B0 N X Q) K' m' e' (shr ns L') cf'):G (.mk P T hT n c B0 N X Q) K m e L cf:=by
 refine go hs (chg (λ_:Unit=>m') (λ_=>e') (λ_=>shr ns L') (λB a w hm hA hS=>⟨(),[],aj,aj,by simpa using aWY ns [] L' hS⟩) (λ_=>?_) (λ_=>k));cases cf' with
 |d _ _ _ _ _ _=>cases hf
 |o _ _ _ _ _ _ _=>cases hf
 |_=>trivial
end
abbrev R2:=Raw×Raw
variable{us:List R2}
def prs:List Value->List R2
 |a::b::r=>(⟨a⟩,⟨b⟩)::prs r
 |_=>[]
theorem XP:∀{n:Nat} {cs:List Value},cs.length=n*2->(prs cs).length=n
 |0,cs,h=>by have:cs=[]:=yS aa;rw[this];rfl
 |n + 1,cs,h=>by
  match cs,h with
  |a::b::r,h=>simp only[prs,aDX] at *;rw[XP (n:=n) aa]
  |[_],h=>grind
  |[],h=>simp at h
theorem aOA:∀{n:Nat} {cs ds:List Value},cs.length=n*2->prs (cs++ds)=prs cs++prs ds
 |0,cs,ds,h=>by have:cs=[]:=yS aa;rw[this];rfl
 |n + 1,cs,ds,h=>by
  match cs,h with
  |a::b::r,h=>simp only[prs,aDW,aDX] at *;rw[aOA (n:=n) aa]
  |[_],h=>grind
  |[],h=>simp at h
theorem a5P{a b:Value}(ha:a.oneCell'=true)(hb:b.oneCell'=true):aL.own w [a,b] ((⟨a⟩,⟨b⟩):R2) F0:=
 ⟨[a],[b],F0,F0,rfl,⟨⟨rfl,ha⟩,λ_ _ h=>h⟩,⟨⟨rfl,hb⟩,λ_ _ h=>h⟩,λ_ _ h=>h.elim,λ_ _=>by simp[F0]⟩
theorem bFJ{cs:List Value}{u:R2}(h:aL.own w cs u F):cs=[u.1.v,u.2.v]/\∀b o,¬F b o:=by obtain⟨c1,c2,F1,F2,e,h1,h2,_,hF⟩:=h;refine⟨by rw[e,h1.1.1,h2.1.1];rfl,λb o p=>((hF b o).1 p).elim (h1.2 b o) (h2.2 b o)⟩
section
variable {O:Type} [aL O] (hn:aL.n O=2) {w:World}
include hn
theorem a5Q:∀{l:List O} {cs:List Value} {F:cO},cV w cs l F->cV w cs (prs cs) F0
 |[],cs,F,h=>by rw[h.1];exact⟨rfl,λ_ _ h=>h⟩
 |x::r,cs,F,⟨c1,c2,F1,F2,e,h1,h2,hd,hF⟩=>by
  have a:=aL.mC (aL.own_rd h1);have o:=aL.rd_one (aL.own_rd h1);rw[hn] at a
  match c1,a,o with
  |[u,v],_,o=>
   subst e;exact⟨[u,v],c2,F0,F0,rfl,a5P (o u ae) (o v ae),a5Q h2,λ_ _ h=>h.elim,λ_ _=>by simp[F0]⟩
theorem aW6{l:List O}{cs:List Value}(h:cV w cs l F):cs.length=l.length*2:=by rw[h.length,hn]
omit hn in
theorem aVP:∀{us:List R2} {cs:List Value} {F:cO},cV w cs us F->us=prs cs/\∀b o,¬F b o
 |[],cs,F,h=>by rw[h.1];exact⟨rfl,h.2⟩
 |u::r,cs,F,⟨c1,c2,F1,F2,e,h1,h2,hd,hF⟩=>by obtain⟨e1,f1⟩:=bFJ h1;obtain⟨e2,f2⟩:=aVP h2;simp_all[prs]
theorem bBE{s:Value}{l:List O}{cs:List Value}{G Fe:cO}(h:aL.own w [s] us G)(ho:cV w cs l Fe)(hu:us=prs cs)(hd:G.GK Fe):aL.own w [s] l (λb o=>G b o\/Fe b o):=by
 have hcl:=aW6 hn ho;have hp:=XP hcl;rw[<-hu] at hp;obtain⟨a,c,e,h1,h2,h3⟩:=l4.1 h;refine l4.2 ⟨a,c,by rw[e,hp],aa,h2,?_⟩;rcases h3 with ⟨rfl,rfl,k⟩|⟨b,off,cc,Ge,rfl,hr,hc,ho',hdj,hFF⟩
 ·have hl:l=[]:=yS aa;subst hl;exact .inl ⟨rfl,rfl,λb o p=>p.elim (k b o) (ho.2 b o)⟩
 ·obtain⟨q1,q2⟩:=aVP ho';have hcc:cc.length=us.length*2:=ho'.length;have e2:cc=cs:=by
   have hj:∀{n:Nat} {x y:List Value},x.length=n*2->y.length=n*2->prs x=prs y->x=y:=by
    intro n;induction n with
    |zero=>simp
    |succ n ih=>
     intro x y hx hy hxy
     match x,y,hx,hy,hxy with
     |a::b::r,a'::b'::r',hx,hy,hxy=>
      grind[prs]
     |[],_,hx,_,_=>simp at hx
     |[_],_,hx,_,_=>grind
     |_::_::_,[],_,hy,_=>simp at hy
     |_::_::_,[_],_,hy,_=>grind
   grind
  subst e2;have hG:∀b' o,G b' o↔eE b off (c*2) b' o:=λb' o=>by rw[hFF];exact⟨λq=>q.elim id λq=>(q2 b' o q).elim,.inl⟩
  refine .inr ⟨b,off,cc,Fe,rfl,by rw[hn];exact hr,hc,ho,λb' o p q=>hd b' o ((hG b' o).2 aj) p,λb' o=>by rw[hG,hn]⟩
def cIn(cs:List Value)(l:List O):Chunk:=⟨λw F=>cV w cs l F,λh hk hd=>cV.keep hk h hd,λh hf=>cV.lt h hf⟩
end
def bLE{O:Type}(l:List O)(i j:Int):Option (List O):=need (0<=i/\i<=j/\j<=(l.length:Int)) (some (l.take i.toNat++l.drop j.toNat))
def zR2:R2:=(⟨.bool false⟩,⟨.slice none 0 0⟩)
theorem bIY:aL.rd F0 w [.bool false,.slice none 0 0] zR2:=⟨[_],[_],rfl,⟨rfl,rfl⟩,⟨rfl,rfl⟩⟩
theorem bFK{l:List O}{a b:Nat}(hab:a<=b)(hb:b<=l.length):((cW l a (l.drop b)).take (a+(l.length-b))).drop 0=l.take a++l.drop b:=by
 have h1:(l.take a).length=a:=aj
 have h2:(l.drop b).length=l.length-b:=ae
 unfold cW;rw[aAX,aFX (l:=l.drop b) aa,<-NX,show a+(l.length-b)=(l.take a++l.drop b).length by grind];grind
theorem aZY{p:Prop}[Decidable p]{k:Option O}(h:p):need p k=k:=aN h
def bBF(s:List R2)(i j:Int):Option (List R2):=
 need (0<=(i:Int)/\(i:Int)<=(j:Int)/\(j:Int)<=((s.length:Int):Int)/\((s.length:Int):Int)<=(s.length:Int)) ((if i == j then some s else need (0<=(i:Int)/\(i:Int)<=(s.length:Int)) (need (0<=(j:Int)/\(j:Int)<=(s.length:Int)) (need (i.toNat<=j.toNat) (need (0<=(((((cW s i.toNat (s.drop j.toNat)).take (i.toNat+(s.length-j.toNat))).drop 0).length:Int):Int)/\(((((cW s i.toNat (s.drop j.toNat)).take (i.toNat+(s.length-j.toNat))).drop 0).length:Int):Int)<=((s.length:Int):Int)/\((s.length:Int):Int)<=((cW s i.toNat (s.drop j.toNat)).length:Int)) (some (((cW s i.toNat (s.drop j.toNat)).take (i.toNat+(s.length-j.toNat))).drop 0)))))))
theorem bFL{j:Int}(h:0<=i/\i<=j/\j<=(us.length:Int)):bBF us i j=some (us.take i.toNat++us.drop j.toNat):=by
 unfold bBF;rw[aZY aa];by_cases e:i=j
 ·simp_all
 ·rw[aS aj,aZY aa,aZY aa,aZY aa,bFK aa aa,aZY];grind[fQ]
theorem bBG[aL O](hn:aL.n O=2){s:Value}{l:List O}{ec:List Value}(hl:ec.length=2)(ho:∀v∈ec,v.oneCell'=true)(h:Sep w [pX s l 0,cAt (elB s) (Y0 (aL.n O) 0 s) ec] F) :
  ∃c2,c2.length=(l.drop 1).length*2/\l.length=(l.drop 1).length+1/\∀F,Sep w [pX s l 0,cAt (elB s) (Y0 (aL.n O) 0 s) ec] F->∃G Fe,aL.own w [s] (prs (ec++c2)) G/\cV w c2 (l.drop 1) Fe/\G.GK Fe/\∀b o,F b o↔G b o\/Fe b o:=by
 obtain⟨G1,G2,⟨a,c,b,off,c1,c2,F1,F3,e,h1,h2,hk,rfl,hr,k1,k3,o1,o3,d1,d2,d3,hG1⟩,_,_,_⟩:=h;have hc2:=aW6 hn o3;have hdl:(l.drop 1).length=l.length-1:=ae
 have hdl':(l.drop (0+1)).length=l.length-1:=ae
 refine⟨c2,hc2,aa,λF h=>?_⟩;obtain⟨G1',G2',⟨a',c',b',off',c1',c2',F1',F3',e',h1',h2',hk',e3,hr',k1',k3',o1',o3',d1',d2',d3',hG1'⟩,hAt,dG,hF⟩:=h;rw[e] at e';cases e';cases e3;have hcc:c2'=c2:=aEX k3' k3 (by grind[aW6]);subst hcc;have hAt:(cAt (elB s) (Y0 (aL.n O) 0 s) ec).P w G2':=Sep.one.1 hAt;obtain⟨k2,hz,hH⟩:=hAt;subst e;simp only[elB,Y0,Nat.zero_mul,aDZ,hl] at k2 hz hH;have hF1:∀b o,¬F1' b o:=by have:l.take 0=[]:=rfl;rw[this] at o1';exact o1'.2
 rw[hn] at hr' k3' d3' hG1';have hp:(prs (ec++c2')).length=l.length:=by rw[aOA (n:=1) aa,LQ,XP (n:=1) aa,XP hc2];omega
 have hraw:cV w (ec++c2') (prs (ec++c2')) F0:=by
  match ec,hl,ho with
  |[u,v],_,ho=>exact⟨[u,v],c2',F0,F0,rfl,a5P (ho u ae) (ho v ae),a5Q hn o3',λ_ _ h=>h.elim,λ_ _=>by simp[F0]⟩
 refine⟨eE b off (c*2),F3',l4.2 ⟨_,c,by rw[hp],aa,h2',.inr ⟨b,off,ec++c2',F0,rfl,λo p=>?_,?_,hraw,λ_ _ h=>h.elim,λ_ _=>?_⟩⟩,o3',λb o p q=>d3' b o q p,λb' o=>?_⟩
 ·by_cases q:eE b off 2 b o
  ·refine⟨?_,hz o q⟩;obtain⟨_,q1,q2⟩:=q;have:=k2 (o-off) _ (lO aa);simp_all
  ·exact hr' o p aa
 ·grind[XH]
 ·exact⟨.inl,λq=>q.elim id λq=>q.elim⟩
 grind[eE]
theorem aVQ{B:Bl}:∀{cs:List SV} {vs:List Value},bA (bZ B) cs=some vs->∀v∈vs,v.oneCell'=true
 |[],vs,h,v,hv=>by cases h;simp at hv
 |x::r,vs,h,v,hv=>by
  simp only[bA] at h;split at h
  ·cases h
  ·rename_i y hy;split at h
   ·cases h
   ·rename_i ys hys;cases h;rcases xS.1 hv with rfl|hv
    ·exact aOW hy
    ·exact aVQ hys v hv
section
variable {P:Program} {T:TT} {hT:GJ P T} {n:Nat} {c:Ctx} {B0:Bl} {N:Act->World->Prop} {X:Nat->Act->World->Prop} {Q:Act->World->Prop} {K K':List Fr} {m m':Nat} {e e':SE} {L L':List Ch} {cf cf' cf1 cf2:uI} {o:Oper} {Lv:List Ch} {d:Nat}
theorem hzR[aL O](hn:aL.n O=2){l:List O}{nb n0:Nat}{cs:List SV}(h h2 hv:Nat)(hs:VM (jE T n K cf m e L)=some (K',cf',m',e',L'))(hh:L'[h]?=some (.o (pX (s.v l.length) l 0)))(hb:L'[h2]?=some (.box nb cs))(hw:L'[hv]?=some (wOf O nb s n0 0))(hl:cs.length=2)(ha:dE [h,h2]=true)(hz:([h,h2].all λj=>eZ j cf'.yR)=true)
  (k:∀(us:List R2) (c2:List Value),us.length=l.length->us.drop 1=prs c2->l.length=(l.drop 1).length+1->G (.mk P T hT n c B0 N X Q) K' m' e' (MP L' [h,h2]++[ow s us,.o (cIn c2 (l.drop 1))]) cf'):G (.mk P T hT n c B0 N X Q) K m e L cf:=by
 refine go hs (chg (ι:={p:List R2×List Value // p.1.length=l.length/\p.1.drop 1=prs p.2/\l.length=(l.drop 1).length+1}) (λ_=>m') (λ_=>e') (λp=>MP L' [h,h2]++[ow s p.1.1,.o (cIn p.1.2 (l.drop 1))]) (λB a w hm hA hS=>?_) (λ_=>XN _ hz) (λp=>k p.1.1 p.1.2 p.2.1 p.2.2.1 p.2.2.2));obtain⟨⟨R,s1,s2⟩,s0⟩:=hS;have f1:=s1.front [h,h2] ha;rw[R6 (M:=[.o (pX (s.v l.length) l 0),.box nb cs]) (by grind[bA])] at f1;obtain⟨F,S,hsep,_⟩:=f1.sep;obtain⟨Fa,Fb,hab,_⟩:=Sep.append.1 hsep;have hB:=s2 _ (LS hw);simp only[roF] at hB;obtain⟨G1,G2,g1,g2,g3,g4⟩:=hab;have g2:(aF5 B nb cs).P w G2:=Sep.one.1 g2;obtain⟨b,z,vs,q1,q2,q3⟩:=g2;rw[hB] at q1;cases q1;have hlv:vs.length=2:=by grind[mL]
 have e1:elB (s.v n0)=elB (s.v l.length):=bG8 s _ _;have e2:Y0 (aL.n O) 0 (s.v n0)=Y0 (aL.n O) 0 (s.v l.length):=bG9 s _ _ _ _;rw[e1,e2] at q3;obtain⟨c2,z1,z2,z3⟩:=bBG hn hlv (aVQ q2) (F:=Fa) ⟨G1,G2,g1,Sep.one.2 q3,g3,g4⟩;have hpl:(prs (vs++c2)).length=l.length:=by rw[aOA (n:=1) aa,LQ,XP (n:=1) aa,XP z1];omega
 have hpd:(prs (vs++c2)).drop 1=prs c2:=by rw[aOA (n:=1) aa];exact List.drop_left' (XP (n:=1) aa)
 refine⟨⟨(prs (vs++c2),c2),hpl,hpd,z2⟩,[],aj,aj,⟨⟨R,?_,λx hx=>?_⟩,s0⟩⟩
 ·rw[tX,xR,KF];have:=s1.shift [h,h2] ha (A':=[cS [s.v (prs (vs++c2)).length] (prs (vs++c2)),cIn c2 (l.drop 1)]) (λF hF=>by
   rw[R6 (M:=[.o (pX (s.v l.length) l 0),.box nb cs]) (by grind[bA])] at hF;obtain⟨G1,G2,g1,g2,g3,g4⟩:=hF;have g2:(aF5 B nb cs).P w G2:=Sep.one.1 g2;obtain⟨b',z',vs',q1',q2',q3'⟩:=g2;rw[hB] at q1';cases q1';rw[q2] at q2';cases q2';rw[e1,e2] at q3';obtain⟨G,Fe,a1,a2,a3,a4⟩:=z3 F ⟨G1,G2,g1,Sep.one.2 q3',g3,g4⟩;rw[hpl];exact⟨G,Fe,a1,Sep.one.2 a2,a3,a4⟩)
  exact this
 ·rw[tX];rcases jG.1 hx with hx|hx
  ·rcases R5 _ _ hx with hx|hx
   ·grind
   ·subst hx;trivial
  ·simp only[xS,a8W,or_false] at hx;rcases hx with rfl|rfl<;>trivial
theorem joR[aL O](hn:aL.n O=2){l:List O}{cs:List Value}(i j:Nat)(hi:L[i]?=some (ow s us))(hj:L[j]?=some (.o (cIn cs l)))(hu:us=prs cs)(ha:dE [i,j]=true)(hz:([i,j].all λj=>eZ j cf.yR)=true)(hl:us.length=l.length)
  (k:G (.mk P T hT n c B0 N X Q) K m e (MP L [i,j]++[ow s l]) cf):G (.mk P T hT n c B0 N X Q) K m e L cf:=by
 refine chg (λ_:Unit=>m) (λ_=>e) (λ_=>MP L [i,j]++[ow s l]) (λB a w hm hA hS=>?_) (λ_=>XN _ hz) (λ_=>k);obtain⟨⟨R,s1,s2⟩,s0⟩:=hS;refine⟨(),[],aj,aj,⟨⟨R,?_,λx hx=>?_⟩,s0⟩⟩
 ·rw[tX,xR,KF];exact s1.shift [i,j] ha (A':=[cS [s.v l.length] l]) (λF hF=>by
   rw[R6 (M:=[ow s us,.o (cIn cs l)]) (by grind[bA])] at hF;obtain⟨G1,G2,g1,g2,g3,g4⟩:=hF;have g2:cV w cs l G2:=Sep.one.1 g2;have g1:aL.own w [s.v us.length] us G1:=g1;rw[hl] at g1;have:=bBE hn g1 g2 hu g3;exact Sep.one.2 (by
    have e:F=λb o=>G1 b o\/G2 b o:=aj
    rw[e];exact this))
 ·rw[tX];rcases jG.1 hx with hx|hx
  ·rcases R5 _ _ hx with hx|hx
   ·grind
   ·subst hx;trivial
  ·simp only[xS,a8W,or_false] at hx;subst hx;trivial
theorem dlW[aL O](hn:aL.n O=2){f:FuncId}{kf:List O->Option J}{q:J}{l:List O}{c2:List Value}(i j:Nat)
  (hs:cpS (jE T n K cf m e L)=some (o,some d,f,[.h s l.length,.i .i64 0,.i .i64 1],cf1,cf2,K',m',e',L')) (hi:L'[i]?=some (ow s us)) (hj:(MP L' [i]++[ow s us])[j]?=some (.o (cIn c2 (l.drop 1)))) (hz:eZ i cf1.yR=true) (ha:dE [L'.length,j]=true) (hz2:([L'.length,j].all λj=>eZ j cf2.yR)=true)
  (hu:us.length=l.length) (hd:us.drop 1=prs c2) (hl:l.length=(l.drop 1).length+1)
  (H:∀{U:Ctx} {us:List R2},VS P U f (bBF us 0 1) [.h s us.length,.i .i64 0,.i .i64 1] [] [ow s us] (λ(r:List R2) (y:AC)=>.h y r.length) (λr y=>[ow y r]))
  (k:∀y:AC,W (G (.mk P T hT n c B0 N X Q) K' m' ((d,.h y (l.drop 1).length)::e') (MP (MP L' [i]++[ow y (us.drop 1)]) [L'.length,j]++[ow y (l.drop 1)]) cf2) q (kf (l.drop 1))):W (G (.mk P T hT n c B0 N X Q) K m e L cf) q ((bLE l 0 1).bind kf):=λhF=>by
 have hlen:(MP L' [i]).length=L'.length:=by simp[MP]
 have hdl:∀{x},bLE l 0 1=some x->x=l.drop 1:=λh=>by obtain⟨_,h⟩:=m0 h;grind
 refine cw0 (sv:=λ(r:List O) (y:AC)=>.h y r.length) (Lr:=λ_ y=>[ow y (us.drop 1)]) (M:=[ow s us]) (xs0:=[.h s l.length,.i .i64 0,.i .i64 1]) [i] hs (by simp[bA,hi]) rfl (by grind[JF,dE]) (λ_ _=>rfl) (λ{U} _ {x} hx=>?_) hF (λx h1 h2 y=>?_)
 ·have hr:bBF us 0 1=some (us.drop 1):=by grind[bFL]
  have h:=H (U:=U) (us:=us) _ hr;rw[hu] at h;refine⟨h.call,λvs hvs hst=>Calls.mono (h.run vs hvs hst) λen w' hE=>?_⟩;grind
 ·obtain rfl:=hdl h1;refine joR hn L'.length j aj ?_ hd ha hz2 (by simp[hu]) (k y h2);have hjl:j<L'.length:=by
   have h3:j<(MP L' [i]++[ow s us]).length:=(JI.1 hj).1;have h4:j≠L'.length:=by intro e;subst e;simp[dE,eZ] at ha
   grind
  grind
end
open Go.Lib Go.Proofs
theorem XQ(w:World)(dT sT ty elem:TypeId)(k b o dLen dCap:Nat)(a:Addr)(sLen sCap m:Nat)(cs:List Value)
  (hu:P.underlying dT=some (.slice elem)) (hs:(P.info? elem).map (·.size)=some k) (hm:Nat.min sLen dLen=m) (hn:cs.length=m*k)
  (hsrc:∀j v,cs[j]?=some v->w.cell? (a.add j)=some v) (hc:∀j,j<cs.length->(w.cell? ⟨b,o+j,none⟩).isSome=true) (hf:∀j,j<cs.length->w.frozen? ⟨b,o+j,none⟩=false) (h1:∀v∈cs,v.oneCell'=true) :
  (Builtin.copy_ #[dT,sT] ty #[.slice (some ⟨b,o,none⟩) dLen dCap,.slice (some a) sLen sCap]).run P w=.ok (goInt m) (w.setCells b o cs):=by
 have hl:=run_loadCells_list (P:=P) w a cs hsrc;have hst:=run_storeCells_cells (P:=P) b o cs 0 w aa aa h1;subst hm;cases hq:P.info? elem with
 |none=>grind
 |some i=>
  simp_all[Builtin.copy_,run_underlying,Builtin.lenOf,Builtin.firstCells,sizeOf,typeInfo]
theorem C0(b o0 m:Nat):∀(vs:List Value) (o:Nat) (w:World),o0<=o->o+vs.length<=o0+m->eC (eE b o0 m) w (w.setCells b o vs)
 |[],_,w,_,_=>eC.refl _ _
 |v::r,o,w,h1,h2=>by simp only[aDX] at h2;rw[World.setCells];exact(eC.setCell _ w ⟨b,o,none⟩ v ⟨rfl,h1,aj⟩ rfl).trans (C0 b o0 m r (o+1) _ aa aa) λ_ _ _ h=>h
theorem aKV{w1:World}(b:Nat)(hb:w.heap.size<=b){o:Nat}(h:eC F0 w w1):eC F0 w (w1.setCells b o vs):=
 h.trans ((C0 b o vs.length vs o w1 (jZ _) (jZ _)).mono (G:=eE b o vs.length) λ_ _ _ h=>h) (F:=F0) λb' o' hlt hr=>by obtain⟨rfl,_⟩:=hr;omega
theorem GO{b o:Nat}(h:∀j,j<vs.length->(w.cell? ⟨b,o+j,none⟩).isSome=true):bP (w.setCells b o vs) b o vs:=λj v hj=>by grind[World.cell?_setCells_in]
theorem wX{b o o':Nat}{cs:List Value}(h:bP w b o' cs)(hd:o'+cs.length<=o\/o+vs.length<=o'):bP (w.setCells b o vs) b o' cs:=λj v hj=>by have hl:=(JI.1 hj).1;rw[World.cell?_setCells_out b vs o w ⟨b,o'+j,none⟩ (λ_ _=>aj)];exact h j v hj
theorem VP{b o:Nat}{cs ds:List Value}(h:bP w b o cs)(k:bP w b (o+cs.length) ds):bP w b o (cs++ds):=λj v hj=>by
 by_cases hl:j<cs.length
 ·rw[List.getElem?_append_left hl] at hj;exact h j v hj
 ·rw[aU8 aa] at hj;have:=k _ v hj;grind
theorem a2H{b o n:Nat}{cs:List Value}(h:bP w b o cs):bP w b o (cs.take n):=λj v hj=>by
 rw[aKM] at hj;split at hj
 ·exact h j v hj
 ·cases hj
theorem aGJ{b o n o':Nat}(h:Row w b o n)(ho:o<=o'/\o'+vs.length<=o+n):Row (w.setCells b o' vs) b o n:=λq hq=>by obtain⟨_,h2,h3⟩:=hq;refine⟨Go.Proofs.isSome_setCells b vs o' w (λj hj=>(h (o'+j) ⟨rfl,aa,aa⟩).1) q (h q ⟨rfl,h2,h3⟩).1,?_⟩;rw[World.frozen?_setCells];exact(h q ⟨rfl,h2,h3⟩).2
def bM6(w:World)(k n:Nat)(ad:Option Addr)(c:Nat)(ccs:List Value)(e:Ending)(w':World):Prop:=
 ∃b o c',e=.returned (.slice (some ⟨b,o,none⟩) (n+1) c')/\n+1<=c'/\c'<=maxLen/\bP w' b o ccs/\Row w' b o (c'*k) /\
  ((ad=some ⟨b,o,none⟩/\c'=c/\eC (eE b o (c*k)) w w')\/(w.heap.size<=b/\eC F0 w w'))
def bM7(P:Program)(f k:Nat):Prop:=∀(b off n c i vb:Nat) (cs vs:List Value) (w:World),i<n->n+1<=c->c<=9223372036854775807->vb≠b->cs.length=n*k->vs.length=k ->
  bP w b off cs->(∀j,j<c*k->(w.cell? ⟨b,off+j,none⟩).isSome=true)->(∀j,j<c*k->w.frozen? ⟨b,off+j,none⟩=false) ->
  bP w vb 0 vs->(∀v∈cs,v.oneCell'=true)->(∀v∈vs,v.oneCell'=true) ->
  ∀(tA tB:TypeId) (kA kB:Nat),w.shape? vb=some (tA,kA)->w.shape? b=some (tB,kB)->kB≠0->w.frozen? ⟨vb,0,none⟩=false->w.frozen? ⟨vb,kA,none⟩=false ->
  Calls P f #[.slice (some ⟨b,off,none⟩) n c,.int .i64 i,.slice (some ⟨vb,0,none⟩) 1 1] w λe w'=>
   e=.returned (.slice (some ⟨b,off,none⟩) (n+1) c)/\w'=(w.drew.setCells b (off+(i+1)*k) (cs.drop (i*k))).setCells b (off+i*k) vs
def bM8(P:Program)(f k:Nat):Prop:=∀(b off n c vb:Nat) (vs:List Value) (w:World),n+1<=c->c<=9223372036854775807->vs.length=k ->
  (∀j,j<c*k->(w.cell? ⟨b,off+j,none⟩).isSome=true)->(∀j,j<c*k->w.frozen? ⟨b,off+j,none⟩=false)->bP w vb 0 vs->(∀v∈vs,v.oneCell'=true) ->
  Calls P f #[.slice (some ⟨b,off,none⟩) n c,.int .i64 n,.slice (some ⟨vb,0,none⟩) 1 1] w λe w'=>
   e=.returned (.slice (some ⟨b,off,none⟩) (n+1) c)/\w'=w.setCells b (off+n*k) vs
def bM9(P:Program)(f k el:Nat)(z:Value):Prop:=∀(base:Option Addr) (n c vb:Nat) (cs vs:List Value) (w:World),n<=c->c<n+1->n+1<=1073741824->cs.length=n*k->vs.length=k->(base=none->n=0) ->
  (∀a,base=some a->∀j v,cs[j]?=some v->w.cell? (a.add j)=some v)->bP w vb 0 vs->(∀v∈vs,v.oneCell'=true) ->
  Calls P f #[.slice base n c,.int .i64 n,.slice (some ⟨vb,0,none⟩) 1 1] w λe w'=>
   e=.returned (.slice (some ⟨w.heap.size,0,none⟩) (n+1) (grownCap w (n+1) c el)) /\
   w'=w.drew.alloc (.cells ((cs++vs).toArray++Builtin.zeroCells z.cells (grownCap w (n+1) c el-(n+1))) el)
def bNA(P:Program)(f k el:Nat)(z:Value):Prop:=∀(b off n c i vb:Nat) (cs vs:List Value) (w:World),i<n->n<=c->c<n+1->n+1<=1073741824->cs.length=n*k->vs.length=k ->
  bP w b off cs->bP w vb 0 vs->(∀v∈cs,v.oneCell'=true)->(∀v∈vs,v.oneCell'=true) ->
  Calls P f #[.slice (some ⟨b,off,none⟩) n c,.int .i64 i,.slice (some ⟨vb,0,none⟩) 1 1] w λe w'=>
   e=.returned (.slice (some ⟨w.heap.size,0,none⟩) (n+1) (grownCap w (n+1) c el)) /\
   w'=(((w.alloc (.cells ((cs.take (i*k)).toArray++Builtin.zeroCells z.cells (n+1-i)++Builtin.zeroCells z.cells (grownCap w (n+1) c el-(n+1))) el)).drew.setCells w.heap.size (i*k) vs).drew).setCells w.heap.size ((i+1)*k) (cs.drop (i*k))
def bLF(P:Program)(f k:Nat):Prop:=∀(ad:Option Addr) (n c i vb:Nat) (cs vs:List Value) (w:World),i<=n->n<=c->c<=maxLen->n+1<=1073741824->cs.length=n*k->vs.length=k ->
  bP w vb 0 vs->(∀v∈cs,v.oneCell'=true)->(∀v∈vs,v.oneCell'=true)->(∀o,w.frozen? ⟨vb,o,none⟩=false) ->
  ((ad=none/\c=0)\/∃b off,ad=some ⟨b,off,none⟩/\Row w b off (c*k)/\bP w b off cs/\(0<c->vb≠b)) ->
  Calls P f #[.slice ad n c,.int .i64 i,.slice (some ⟨vb,0,none⟩) 1 1] w (bM6 w k n ad c (cs.take (i*k)++vs++cs.drop (i*k)))
theorem aZZ{b o:Nat}(h:(w.cell? ⟨b,o,none⟩).isSome=true):∃t k,w.shape? b=some (t,k)/\k≠0:=by grind[World.cell?,World.shape?]
theorem bFM{f k el:Nat}{z:Value}(hk:0<k)(hz:z.cells.size=k)(hS:bM7 P f k)(hR:bM8 P f k)(hE:bM9 P f k el z)(hG:bNA P f k el z):bLF P f k:=by
 intro ad n c i vb cs vs w hi hnc hcm hb hcl hvl hvs h1c h1v hfz hrow;have hgc:n+1<=grownCap w (n+1) c el:=grownCap_ge _ _ _ _;have hgm:grownCap w (n+1) c el<=maxLen:=grownCap_le_maxLen w (n+1) c el (by grind[maxLen]);have hnk:(n+1)*k=n*k+k:=aj
 by_cases hin:i=n
 ·subst hin;have e1:cs.take (i*k)=cs:=aj
  have e2:cs.drop (i*k)=[]:=aj
  rw[e1,e2,tX];by_cases hroom:i+1<=c
  ·rcases hrow with ⟨_,h0⟩|⟨b,off,rfl,hr,hc,_⟩
   ·omega
   have hck:(i+1)*k<=c*k:=vR _ hroom;refine(hR b off i c vb vs w hroom hcm hvl (λj hj=>(hr _ ⟨rfl,aa,aa⟩).1) (λj hj=>(hr _ ⟨rfl,aa,aa⟩).2) hvs h1v).mono ?_;rintro e w' ⟨rfl,rfl⟩;refine⟨b,off,c,rfl,hroom,hcm,VP (wX hc (.inl aa)) (by rw[hcl];exact GO λj hj=>(hr _ ⟨rfl,aa,aa⟩).1),aGJ hr ⟨aa,aa⟩,.inl ⟨rfl,rfl,C0 b off _ vs _ w aa aa⟩⟩
  ·refine(hE ad i c vb cs vs w hnc aa hb hcl hvl (λh=>?_) (λa ha=>?_) hvs h1v).mono ?_
   ·grind
   ·rcases hrow with ⟨h0,_⟩|⟨b,off,h1,hr,hc,_⟩
    ·grind
    ·rw[ha] at h1;cases h1;intro j v hj;rw[Addr.add_lit];exact hc j v hj
   rintro e w' ⟨rfl,rfl⟩;have hsz:((cs++vs).toArray++Builtin.zeroCells z.cells (grownCap w (i+1) c el-(i+1))).size=grownCap w (i+1) c el*k:=by rw[Array.size_append,size_zeroCells,hz,List.size_toArray,LQ,hcl,hvl,Nat.sub_mul,hnk];have:(i+1)*k<=grownCap w (i+1) c el*k:=vR _ hgc;omega
   refine⟨w.heap.size,0,_,rfl,hgc,hgm,λj v hj=>?_,λo ho=>⟨?_,World.frozen?_alloc_at (w:=w.drew) _ _ w.heap.size o rfl⟩,.inr ⟨jZ _,(eC.drew F0 w).trans (eC.alloc _ _ _) λ_ _ _ h=>h⟩⟩
   ·rw[aD0,World.cell?_alloc_at (w:=w.drew) _ _ w.heap.size j rfl];grind
   ·obtain⟨_,_,h3⟩:=ho;rw[World.cell?_alloc_at (w:=w.drew) _ _ w.heap.size o rfl,Array.getElem?_eq_getElem aa];rfl
 ·have hlt:i<n:=aa
  have hik:(i+1)*k=i*k+k:=aj
  have hink:(i+1)*k<=n*k:=vR _ hlt;have htl:(cs.take (i*k)).length=i*k:=aj
  have hdl:(cs.drop (i*k)).length=n*k-i*k:=aj
  rcases hrow with ⟨_,h0⟩|⟨b,off,rfl,hr,hc,hne⟩
  ·omega
  have hsv:=aZZ (w:=w) (b:=vb) (o:=0) (by rw[show(0:Nat)=0+0 from rfl,hvs 0 _ (lO aa)];rfl);obtain⟨tA,kA,hsa,_⟩:=hsv;by_cases hroom:n+1<=c
  ·have hck:(n+1)*k<=c*k:=vR _ hroom;obtain⟨tB,kB,hsb,hkB⟩:=aZZ (w:=w) (b:=b) (o:=off) (hr off ⟨rfl,aa,aa⟩).1;refine(hS b off n c i vb cs vs w hlt hroom hcm (hne aa) hcl hvl hc (λj hj=>(hr _ ⟨rfl,aa,aa⟩).1) (λj hj=>(hr _ ⟨rfl,aa,aa⟩).2) hvs h1c h1v tA tB kA kB hsa hsb hkB (hfz _) (hfz _)).mono ?_;rintro e w' ⟨rfl,rfl⟩;have hc':bP w.drew b off cs:=hc;have hr':Row w.drew b off (c*k):=hr;have hr1:=aGJ (o':=off+(i+1)*k) (vs:=cs.drop (i*k)) hr' ⟨aa,aa⟩;refine⟨b,off,c,rfl,hroom,hcm,?_,aGJ hr1 ⟨aa,aa⟩,.inl ⟨rfl,rfl,((eC.drew _ w).trans (C0 b off _ _ _ _ aa aa) λ_ _ _ h=>h).trans (C0 b off _ vs _ _ aa aa) λ_ _ _ h=>h⟩⟩;refine VP (VP ?_ ?_) ?_
   ·grind[wX,a2H]
   ·rw[htl];exact GO λj hj=>(hr1 _ ⟨rfl,aa,aa⟩).1
   ·rw[LQ,htl,hvl,<-hik];exact wX (GO λj hj=>(hr' _ ⟨rfl,aa,aa⟩).1) (.inr aa)
  ·refine(hG b off n c i vb cs vs w hlt hnc aa hb hcl hvl hc hvs h1c h1v).mono ?_;rintro e w' ⟨rfl,rfl⟩;obtain⟨ROW,hROW⟩:∃ROW:Array Value,ROW=(cs.take (i*k)).toArray++Builtin.zeroCells z.cells (n+1-i)++Builtin.zeroCells z.cells (grownCap w (n+1) c el-(n+1)):=⟨_,rfl⟩;rw[<-hROW];have hsz:ROW.size=grownCap w (n+1) c el*k:=by rw[hROW,Array.size_append,Array.size_append,size_zeroCells,size_zeroCells,hz,List.size_toArray,htl,<-nU,<-nU];grind
   have hgk:(n+1)*k<=grownCap w (n+1) c el*k:=vR _ hgc;have hcN:∀j,(w.alloc (.cells ROW el)).cell? ⟨w.heap.size,j,none⟩=ROW[j]?:=λj=>World.cell?_alloc_at (w:=w) ROW _ w.heap.size j rfl;have hr0:Row (w.alloc (.cells ROW el)).drew w.heap.size 0 (grownCap w (n+1) c el*k):=λo ho=>by obtain⟨_,_,h3⟩:=ho;simp_all
   have hc0:bP (w.alloc (.cells ROW el)).drew w.heap.size 0 (cs.take (i*k)):=λj v hj=>by show(w.alloc (.cells ROW el)).cell? _=_;grind
   have hr1:=aGJ (o':=i*k) (vs:=vs) hr0 ⟨aa,aa⟩;have hr1':Row ((w.alloc (.cells ROW el)).drew.setCells w.heap.size (i*k) vs).drew w.heap.size 0 (grownCap w (n+1) c el*k):=hr1;refine⟨w.heap.size,0,_,rfl,hgc,hgm,?_,aGJ hr1' ⟨aa,aa⟩,.inr ⟨jZ _,aKV _ (jZ _) ((aKV _ (jZ _) ((eC.alloc _ _ _).trans (eC.drew _ _) λ_ _ _ h=>h)).trans (eC.drew _ _) λ_ _ _ h=>h)⟩⟩;refine VP (VP ?_ ?_) ?_
   ·exact wX (show bP _ _ _ _ from wX hc0 (.inl aa)) (.inl aa)
   ·rw[htl,aD0];refine wX (show bP _ _ _ _ from GO λj hj=>?_) (.inl aa)
    (simp_all;omega)
   ·rw[LQ,htl,hvl,<-hik,aD0];exact GO λj hj=>(hr1' _ ⟨rfl,aa,aa⟩).1
def bIZ{O:Type}[aL O](s:AC)(x:O):Chunk where
 P w F:=∃b cs,s=⟨some ⟨b,0,none⟩,1⟩/\b<w.heap.size/\(∀o,w.frozen? ⟨b,o,none⟩=false)/\bP w b 0 cs/\(∀w,aL.own w cs x F0)/\∀b' o,F b' o↔b'=b
 keep:=λ⟨b,cs,h1,h2,h3,h4,h5,h6⟩ hk hd=>⟨b,cs,h1,PZ h2 hk.size,λo=>(hk.yR b o h2).trans (h3 o),λj v hj=>(hk.cell b _ h2 λhg=>hd b _ ((h6 b _).2 rfl) hg).trans (h4 j v hj),h5,h6⟩
 lt:=λ⟨b,cs,h1,h2,h3,h4,h5,h6⟩ hF=>aj
def cLs{O:Type}[aL O](s:AC)(v:List O):Chunk where
 P w F:=∃x,v=[x]/\(bIZ s x).P w F
 keep:=λ⟨x,h1,h2⟩ hk hd=>⟨x,h1,(bIZ s x).keep h2 hk hd⟩
 lt:=λ⟨x,_,h2⟩ hF=>(bIZ s x).lt h2 hF
def bLG{O:Type}(l:List O)(i:Int)(v:List O):Option (List O):=need (0<=i/\i<=(l.length:Int)/\l.length+v.length<=1073741824) (some (l.take i.toNat++v++l.drop i.toNat))
theorem bBH[aL O]{cs:List Value}{x:O}(h:aL.own w cs x F0):cV w cs [x] F0:=⟨cs,[],F0,F0,(tX _).symm,h,⟨rfl,λ_ _ h=>h⟩,λ_ _ h=>h.elim,λ_ _=>by simp[F0]⟩
theorem aGK{O:Type}[aL O][Flat O]{w w':World}:∀{l:List O} {cs:List Value} {F:cO},cV w cs l F->cV w' cs l F0
 |[],cs,F,h=>⟨h.1,λ_ _ h=>h⟩
 |x::r,cs,F,⟨c1,c2,F1,F2,e,h1,h2,hd,hF⟩=>⟨c1,c2,F0,F0,e,a89 h1,aGK h2,λ_ _ h=>h.elim,λ_ _=>by simp[F0]⟩
theorem a5R{O:Type}[aL O]{w:World}:∀{l:List O} {cs:List Value} {F:cO},cV w cs l F->∀v∈cs,v.oneCell'=true
 |[],cs,F,h,v,hv=>by rw[h.1] at hv;cases hv
 |x::r,cs,F,⟨c1,c2,F1,F2,e,h1,h2,hd,hF⟩,v,hv=>by rw[e] at hv;exact(jG.1 hv).elim (aL.rd_one (aL.own_rd h1) v) (a5R h2 v)
theorem bNB{f:FuncId}[aL O][Flat O]{k:Nat}(hn:aL.n O=k)(hk:0<k)(hC:bLF P f k)(hcall:∀args w,(callFunc f args).run P w=.ok (.enter f args) w){s v:List O}{s1 s2:AC} :
  VS P U f (bLG s i v) [.h s1 s.length,.i .i64 i,.h s2 v.length] [] [ow s1 s,.o (cLs s2 v)] (λr (y:AC)=>.h y r.length) (λr y=>[ow y r]):=λr hr=>by
 unfold bLG at hr;obtain⟨⟨hi0,hi1,hb⟩,hr⟩:=m0 hr;obtain⟨j,rfl⟩:∃j:Nat,i=j:=⟨i.toNat,aa⟩;rw[oZ] at hr;cases hr;refine⟨hcall,λvs hv hS=>?_⟩;simp[bA,fP,gV,bZ] at hv;subst hv;obtain⟨⟨R,h1,h2⟩,h0⟩:=hS;have h1:St U U.w0 [cS [s1.v s.length] s,cLs s2 v] R:=by grind[kP]
 obtain⟨F,S,⟨F1,F2,hs1,⟨F3,F4,hs2,_,_,hF34⟩,hdj,_⟩,_⟩:=h1.sep;obtain⟨x,rfl,vb,cv,rfl,hvb,hvf,hvc,hvo,hvF⟩:=hs2;have hs1:aL.own U.w0 [s1.v s.length] s F1:=hs1;obtain⟨a,c,he,hl1,hl2,hrest⟩:=l4.1 hs1;obtain⟨sa,sc⟩:=s1;simp only[AC.v,Value.slice.injEq,true_and] at he;obtain⟨rfl,rfl⟩:=he;have hvl:cv.length=k:=by rw[<-hn];exact aL.mC (aL.own_rd (hvo U.w0))
 have hv1:∀v∈cv,v.oneCell'=true:=aL.rd_one (aL.own_rd (hvo U.w0));obtain⟨cs,hcl,hc1,hrow,hall⟩:∃cs,cs.length=s.length*k/\(∀v∈cs,v.oneCell'=true)/\((sa=none/\sc=0)\/∃b off,sa=some ⟨b,off,none⟩/\Row U.w0 b off (sc*k)/\bP U.w0 b off cs/\(0<sc->vb≠b))/\∀w,cV w cs s F0:=by
  rcases hrest with ⟨rfl,rfl,_⟩|⟨b,off,cc,Fe,rfl,hr,hc,ho,_,hF⟩
  ·have hsn:s=[]:=yS aa;subst hsn;exact⟨[],ae,ae,.inl ⟨rfl,rfl⟩,λ_=>⟨rfl,λ_ _ h=>h⟩⟩
  ·rw[hn] at hr hF;refine⟨cc,by rw[<-hn];exact ho.length,a5R ho,.inr ⟨b,off,rfl,hr,hc,λh0 e=>?_⟩,λ_=>aGK ho⟩;subst e;have hk:0<sc*k:=Nat.mul_pos h0 hk;exact hdj vb off ((hF vb off).2 (.inl ⟨rfl,jZ _,aa⟩)) ((hF34 vb off).2 (.inl ((hvF vb off).2 rfl)))
 refine(hC sa s.length sc j vb cs cv U.w0 aa hl1 hl2 hb hcl hvl hvc hc1 hv1 hvf hrow).mono ?_;rintro e w' ⟨b,o,c',rfl,hlc,hcm,hcc,hrw,hkk⟩;have hlen:(s.take j++[x]++s.drop j).length=s.length+1:=aj
 refine⟨_,rfl,⟨some ⟨b,o,none⟩,c'⟩,by grind[fP,gV,bZ],⟨R,?_,by simp[roF]⟩,h0⟩;have hcs:∀w,cV w (cs.take (j*k)++cv++cs.drop (j*k)) (s.take j++[x]++s.drop j) F0:=λw=>by
  have h:=hall w;rw[<-aDY j s] at h;obtain⟨c1,c2,G1,G2,e,k1,k2,_,_⟩:=cV.split h;have hl:c1.length=j*k:=by rw[k1.length,hn,aFV];grind
  rw[e,List.take_left' hl,List.drop_left' hl,NX,NX];exact cV.app (aGK k1) (show cV w (cv++c2) ([x]++s.drop j) F0 from cV.app (bBH (hvo w)) (aGK k2) (λ_ _ h=>h.elim) λ_ _=>by simp[F0]) (λ_ _ h=>h.elim) λ_ _=>by simp[F0]
 have:=h1.a9D (w':=w') [0,1] rfl (A':=[cS [(⟨some ⟨b,o,none⟩,c'⟩:AC).v (s.take j++[x]++s.drop j).length] (s.take j++[x]++s.drop j)]) (λF hF=>by
  obtain⟨F1',F2',q1,q2,q3,q4⟩:=hF;have q1:aL.own U.w0 [_] s F1':=q1;have hown:aL.own w' [(⟨some ⟨b,o,none⟩,c'⟩:AC).v (s.take j++[x]++s.drop j).length] (s.take j++[x]++s.drop j) (eE b o (c'*k)):=
   l4.2 ⟨_,c',rfl,aa,hcm,.inr ⟨b,o,_,F0,rfl,aj,hcc,hcs w',λ_ _ h=>h.elim,λb' o'=>by grind[F0]⟩⟩
  rcases hkk with ⟨rfl,rfl,hK⟩|⟨hnew,hK⟩
  ·obtain⟨a',c'',he',_,_,hr'⟩:=l4.1 q1;simp only[AC.v,Value.slice.injEq,true_and] at he';obtain⟨rfl,rfl⟩:=he';rcases hr' with ⟨h,_⟩|⟨b2,o2,cc2,Fe2,h,_,_,_,_,hF2⟩
   ·cases h
   ·cases h;rw[hn] at hF2;exact⟨_,_,hK,λb' o' g=>(q4 b' o').2 (.inl ((hF2 b' o').2 (.inl g))),Sep.one.2 hown,λb' o' g=>.inl ((q4 b' o').2 (.inl ((hF2 b' o').2 (.inl g))))⟩
  ·exact⟨_,F0,hK,λ_ _ h=>h.elim,Sep.one.2 hown,λb' o' g=>.inr (by obtain⟨rfl,_⟩:=g;exact hnew)⟩)
 exact this.sel [2] rfl
section
variable {P:Program} {T:TT} {hT:GJ P T} {n:Nat} {c:Ctx} {B0:Bl} {N:Act->World->Prop} {X:Nat->Act->World->Prop} {Q:Act->World->Prop} {K K':List Fr} {m m':Nat} {e e':SE} {L L' Lv:List Ch} {cf cf' cf1 cf2:uI} {o:Oper} {d:Nat}
variable {x:Operand} {t t2 el sz:Nat} {b1 b2 b3:Bool} {n1 n2 n3:Nat} {z1 z2 z3:List SV}
theorem ltL[aL O][Flat O](E:CO O)(y:E.ex)(q:O){zv:Value}(hinf:Inf P el sz zv)(hs:jE T n K cf m e L=.op o Lv cf1 cf2 K' m' e' L')(ho:(o.op,o.dst)=(.buildSlice t 1 #[(0,x)],some d))(ht:AQ T t=some ⟨.sl el,b1,n1,z1⟩)(hn:aL.n O=sz)(hm:Nat.ble 1 sz=true)(hsm:Nat.ble (1*sz) 16777216=true)(hev:bA (λp=>(iM e' p.2).map λv=>nbL (o4 v)) [((0:Nat),x)]=some ([q].map λq=>E.cs q y))(hec:([q].all λq=>Nat.beq (E.cs q y).length sz && (bA (bZ []) (E.cs q y)).isSome)=true)(hL:∀q,E.Lx q y=[])
  (k:∀s':AC,G (.mk P T hT n c B0 N X Q) K' m' ((d,.h s' [q].length)::e') (L'++[.o (cLs s' [q])]) cf2):G (.mk P T hT n c B0 N X Q) K m e L cf:=by
 refine aW1 (l:=[q]) (λs'=>L'++[.o (cLs s' [q])]) hs (cY Prod.snd ho) (λ_=>uK _) (λB a w hA hS=>?_) k;obtain⟨⟨R,s1,s2⟩,s0⟩:=hS;obtain⟨vs,cells,g1,g2,g3,g4,g5⟩:=lits E y (sz:=sz) hA hL hev hec;obtain⟨v,rfl⟩:∃v,vs=[v]:=by
  match vs,g2 with
  |[v],_=>simp
 obtain⟨ti,hi,hz,hsz,hby⟩:=hinf;obtain⟨h1,h2⟩:=g5.get hn;have hcl:cells.length=sz:=aj
 have hc:=aOU (len:=1) (m:=sz) (vs:=[v]) (ps:=[(0,x)]) (F:=λi=>(if 1*sz=0 then #[] else zv.cells)[i % (if 1*sz=0 then #[] else zv.cells).size]!) rfl rfl g3 g4;have hu:=GM ht hT;have hm0:¬1*sz=0:=by(simp_all;omega)
 have hsm':¬1*sz > 2 ^ 24:=by simp_all
 refine⟨⟨some ⟨w.heap.size,0,none⟩,1⟩,w.alloc (.cells cells.toArray el),λ_ a hA'=>?_,⟨R,?_,λz hz=>?_⟩,s0⟩
 ·have hps:a.eval x=v:=by have:=XG hA' g1;grind
  have ho':=cY Prod.fst ho;simp only at ho';simp only[hm0,bN] at hc;have hm1:¬sz=0:=aa
  have hs1:¬sz > 16777216:=aa
  simp only[Nat.one_mul,hm1,bN] at hc;simp[execOp,ho',Instr.buildSlice,run_underlying hu,sizeOf,typeInfo,zeroValue,hi,hz,hsz,hps,hm1,hs1,AC.v];simp_all[newRow]
 ·have:=s1.more (eC.alloc F0 w (.cells cells.toArray el)) (ch:=cLs ⟨some ⟨w.heap.size,0,none⟩,1⟩ [q]) ⟨λb _=>b=w.heap.size,⟨q,rfl,w.heap.size,cells,rfl,ae,λo=>World.frozen?_alloc_at (w:=w) _ _ w.heap.size o rfl,λj v hj=>?_,λw'=>?_,λ_ _=>Iff.rfl⟩,λb o hb=>YZ hb.symm⟩
  ·grind[kP]
  ·simp_all
  ·have:=h2 0 q rfl;rw[show MM cells sz 0=cells by unfold MM;grind] at this;grind[Flat.own_of]
 ·rcases jG.1 hz with hz|hz
  ·grind
  ·simp at hz;subst hz;trivial
end
end Go.Gv
end
noncomputable section
namespace Go.Gv
variable{s:AC}{c:Ctx}{i z:Nat}{O:Type}{v0:Value}{w:World}
def aZ0(k:Nat):List Nat->Bool
 |[]=>false
 |a::r=>match Nat.beq k a with
  |true=>true
  |false=>aZ0 k r
def aGL(is:List Nat):Nat->List Ch->List Ch
 |_,[]=>[]
 |k,x::r=>match aZ0 k is with
  |true=>.no::aGL is (k+1) r
  |false=>x::aGL is (k+1) r
theorem aZ1:∀(L:List Ch) (k:Nat),aGL [] k L=L
 |[],_=>rfl
 |x::L,k=>by simp only[aGL,aZ0,aZ1 L]
theorem a5S{k:Nat}(r:List Nat)(h:k≠i):aZ0 k (i::r)=aZ0 k r:=by grind[pV,aZ0]
theorem bFN(i:Nat)(r:List Nat):aZ0 i (i::r)=true:=by simp only[aZ0,Nat.beq_refl]
theorem a5T(i:Nat)(r:List Nat):∀(L:List Ch) (k:Nat),i<k->aGL (i::r) k L=aGL r k L
 |[],_,_=>rfl
 |x::L,k,h=>by simp only[aGL,a5S r (show k≠i by omega),a5T i r L (k+1) aa]
theorem aZ2(i:Nat)(r:List Nat):∀(L:List Ch) (k:Nat),k<=i->aGL (i::r) k L=aGL r k (L.set (i-k) .no)
 |[],_,_=>rfl
 |x::L,k,h=>by
  by_cases e:k=i
  ·subst e;rw[Nat.sub_self];grind[aGL,bFN,a5T]
  ·obtain⟨d,hd⟩:∃d,i-k=d+1:=⟨i-k-1,aa⟩;have h2:i-(k+1)=d:=aa
   rw[hd];simp only[List.set,aGL,a5S r e,aZ2 i r L (k+1) aa,h2]
theorem a2I:∀(is:List Nat) (L:List Ch),MP L is=aGL is 0 L
 |[],L=>(aZ1 L 0).symm
 |i::r,L=>by rw[aZ2 i r L 0 (lB _),Nat.sub_zero];exact a2I r _
section
variable {P:Program} {T:TT} {hT:GJ P T} {n:Nat} {c:Ctx} {B0:Bl} {N:Act->World->Prop} {X:Nat->Act->World->Prop} {Q:Act->World->Prop} {K K':List Fr} {m m':Nat} {e e':SE} {L L' Lv:List Ch} {cf cf' cf1 cf2:uI} {o:Oper}
variable {O J ex:Type} {fo:Option O} {kf:O->Option J} {q:J} {d:Option Nat} {f:FuncId} {xs xs0:List SV} {M:List Ch} {sv:O->ex->SV} {Lr:O->ex->List Ch}
theorem bLH{c1 c2 c3:List SV}{a1 a2 a3:O->ex->List SV}(i1 n1 o1 k1:Nat)(i2 n2 o2 k2:Nat)(i3 n3 o3 k3:Nat)(is:List Nat)
  (hs:cpS (jE T n K cf m e L)=some (o,d,f,xs,cf1,cf2,K',m',e',L')) (hb:aO9 L' [(i1,n1,o1,k1),(i2,n2,o2,k2),(i3,n3,o3,k3)]=some [c1,c2,c3]) (hi:bA (λi=>L'[i]?) is=some M) (hx:bA (rnP [(i1,n1,o1,k1),(i2,n2,o2,k2),(i3,n3,o3,k3)] 0) xs=some xs0)
  (hk:(JF M && ([c1,c2,c3].all (B9.okC 0) && (dE (i1::i2::i3::is) && (i1::i2::i3::is).all λj=>eZ j cf1.yR)))=true)
  (hc:∀{U:Ctx},HG c U L' (i1::i2::i3::is)->∀{b1 b2 b3:Nat×Nat},VS P U f fo xs0 [b1,b2,b3] (.box 0 c1::.box 1 c2::.box 2 c3::M) sv (λx y=>.box 0 (a1 x y)::.box 1 (a2 x y)::.box 2 (a3 x y)::Lr x y))
  (k:∀x,∀y:ex,W (G (.mk P T hT n c B0 N X Q) K' m' (dse d (sv x y) e') (RQ L' (aGL (i1::i2::i3::is) 0 L'++Lr x y) [(i1,n1,o1,k1),(i2,n2,o2,k2),(i3,n3,o3,k3)] [a1 x y,a2 x y,a3 x y]) cf2) q (kf x)) (hn:∀x y,(aGF [(i1,n1,o1,k1),(i2,n2,o2,k2),(i3,n3,o3,k3)] [a1 x y,a2 x y,a3 x y] && ([a1 x y,a2 x y,a3 x y].all (B9.okC 0) && (JF (Lr x y) && B9 0 (sv x y))))=true:=by exact λ_ _=>rfl):W (G (.mk P T hT n c B0 N X Q) K m e L cf) q (fo.bind kf):=
 bM1 i1 n1 o1 k1 i2 n2 o2 k2 i3 n3 o3 k3 is hs hb hi hx hk hc (λx y=>by grind[a2I]) hn
end
section
variable {P:Program} {T:TT} {hT:GJ P T} {n:Nat} {c:Ctx} {B0:Bl} {N:Act->World->Prop} {X:Nat->Act->World->Prop} {Q:Act->World->Prop} {K K':List Fr} {m m':Nat} {e e':SE} {L L' Lv:List Ch} {cf cf' cf1 cf2:uI} {o:Oper}
variable {O:Type} {fo:Option O} {d:Nat} {f:FuncId} {xs:List SV} {v:O}
theorem DT{sv:O->SV}(hA:fo=some v)(hs:jE T n K cf m e L=.call o (some d) f xs cf1 cf2 K' m' e' L')
  (hc:∀{w},HS c w L'->V0 P (eJ w) f fo xs sv) (k:G (.mk P T hT n c B0 N X Q) K' m' ((d,sv v)::e') L' cf2):G (.mk P T hT n c B0 N X Q) K m e L cf:=
 c0 (kf:=some) (q:=v) hs hc (λx hx=>aj) (rb hA)
theorem NO{ex:Type}{sv:O->ex->SV}{Lf:O->ex->List Ch}(hA:fo=some v)(hs:jE T n K cf m e L=.call o (some d) f xs cf1 cf2 K' m' e' L')
  (hc:∀{w},HS c w L'->VS P (eJ w) f fo xs [] [] sv Lf) (k:∀y:ex,G (.mk P T hT n c B0 N X Q) K' m' ((d,sv v y)::e') (L'++Lf v y) cf2) (hn:∀x y,noF (Lf x y)=true:=by exact λ_ _=>rfl):G (.mk P T hT n c B0 N X Q) K m e L cf:=
 c1 (kf:=some) (q:=v) hs hc (λx y hx=>aj) hn (rb hA)
end
structure AH where
 s:AC
 n:Nat
instance:aL AH:=aL.flat (λx=>x.s.v x.n) λ_=>rfl
instance:Flat AH:=⟨λh=>⟨h,λ_ _ h=>h⟩,λh=>h.2⟩
def cAH:JR AH:=⟨Unit,λx _=>[.h x.s x.n],λ_ _ _ _=>True,λh=>⟨(),by cases h;rfl,trivial⟩,λx _=>.h x.s x.n,λ_ _ _=>trivial⟩
def oAH:CO AH:=cAH.o (λ_ _=>[]) (λh=>by cases h;exact eB rfl) (λ_ _=>rfl) (λ_ _ _=>rfl)
def cBr(U:Ctx){O:Type}[aL O](s:AC)(d:List O):Chunk where
 P w F:=(∀b o,F b o->b<w.heap.size)/\∀w',(∀b o,F b o->w'.cell? ⟨b,o,none⟩=w.cell? ⟨b,o,none⟩)->(∀b o,U.S0 b o->w'.cell? ⟨b,o,none⟩=U.w0.cell? ⟨b,o,none⟩)->aL.rd (λb o=>U.S0 b o\/F b o) w' [s.v d.length] d
 keep:=by rintro w w' F G ⟨h1,h2⟩ hk hd;exact⟨λb o hF=>PZ (h1 b o hF) hk.size,λw2 g2 g3=>h2 w2 (λb o hF=>(g2 b o hF).trans (hk.cell b o (h1 b o hF) λhg=>hd b o hF hg)) g3⟩
 lt h hF:=h.1 _ _ hF
def AHs(c:Ctx){O:Type}[aL O]:List AH->List (List O)->Prop
 |[],[]=>True
 |q::qs,d::ds=>(q.n=d.length/\bI c q.s d)/\AHs c qs ds
 |_,_=>False
theorem AHs.get[aL O]:∀{qs:List AH} {ds:List (List O)},AHs c qs ds->qs.length=ds.length/\∀(i:Nat) (h1:i<qs.length) (h2:i<ds.length),qs[i].n=ds[i].length/\bI c qs[i].s ds[i]
 |[],[],_=>⟨rfl,λi h=>by simp at h⟩
 |q::qs,d::ds,h=>by
  obtain⟨a,b⟩:=h.2.get;refine⟨by simp[a],λi h1 h2=>?_⟩;cases i with
  |zero=>exact h.1
  |succ i=>grind
theorem bLI{U:Ctx}[aL O]{qs:List AH}{ds:List (List O)}{F:cO}(h:(cS [s.v qs.length] qs).P w F)(ha:AHs U qs ds):(cBr U s ds).P w F:=by
 refine⟨λ_ _ hF=>(cS [s.v qs.length] qs).lt h hF,λw' h2 h3=>?_⟩;obtain⟨hl,hg⟩:=ha.get;obtain⟨ad,c,e,g1,g2,g3⟩:=(show AR F w' [s.v qs.length] qs from aL.rd_agree (aL.own_rd h) h2);refine⟨ad,c,aj,hl ▸ g1,g2,?_⟩;rcases g3 with g3|⟨b,off,rfl,g3⟩
 ·grind
 ·refine .inr ⟨b,off,rfl,λi hi=>?_⟩;obtain⟨ec,q1,q2,q3⟩:=g3 i aa;obtain⟨p1,p2⟩:=hg i aa hi;have q3:ec=[(qs[i]' aa).s.v (qs[i]' aa).n]:=q3;refine⟨ec,q1,λo ho=>.inr (q2 o ho),?_⟩;rw[q3,p1];exact aL.rd_mono (aL.rd_agree p2 h3) λ_ _ h=>.inl h
theorem HS.b{L:List Ch}[aL O]{d:List O}(h:HS c w L)(i:Nat)(hi:L[i]?=some (.o (cBr c s d))):bI (eJ w) s d:=by obtain⟨B,hS⟩:=h.ex;obtain⟨⟨R,s1,_⟩,s0⟩:=id hS;obtain⟨F,hF⟩:=s1.chunk i (ch:=cBr c s d) (by rw[B7,hi];rfl);have:=hF.2 w (λ_ _ _=>rfl) (λb o hb=>s1.keep.cell b o (s0 b o hb) λhw=>s1.apart b o hw hb);exact aL.rd_mono this λb o h=>h.elim (a16 hS b o) (hF.1 b o)
section
variable {P:Program} {T:TT} {hT:GJ P T} {n:Nat} {c:Ctx} {B0:Bl} {N:Act->World->Prop} {X:Nat->Act->World->Prop} {Q:Act->World->Prop} {K K':List Fr} {m m':Nat} {e e':SE} {L L':List Ch} {cf cf' cf1 cf2:uI} {o:Oper}
theorem chI(j:Nat){x y:Chunk}(hs:VM (jE T n K cf m e L)=some (K',cf',m',e',L'))(hj:L'[j]?=some (.o x))(hz:eZ j cf'.yR=true)(h:∀w F,x.P w F->y.P w F)
  (k:G (.mk P T hT n c B0 N X Q) K' m' e' (L'.set j (.o y)) cf'):G (.mk P T hT n c B0 N X Q) K m e L cf:=by
 refine go hs (chg (λ_:Unit=>m') (λ_=>e') (λ_=>L'.set j (.o y)) (λB a w hm hA hS=>?_) (λ_=>GN hz) (λ_=>k));obtain⟨⟨R,s1,s2⟩,s0⟩:=hS;refine⟨(),[],aj,aj,⟨⟨R,?_,λz hz=>?_⟩,s0⟩⟩
 ·rw[tX,LR];exact s1.imp (jO.put j (by rw[B7,hj];rfl) λF hF=>h w F hF)
 ·rw[tX];rcases tY hz with hz|hz
  ·grind
  ·subst hz;trivial
theorem brL[aL O](j:Nat){qs:List AH}{ds:List (List O)}(ha:AHs c qs ds)(hs:VM (jE T n K cf m e L)=some (K',cf',m',e',L'))(hj:L'[j]?=some (ow s qs))(hz:eZ j cf'.yR=true)
  (k:G (.mk P T hT n c B0 N X Q) K' m' e' (L'.set j (.o (cBr c s ds))) cf'):G (.mk P T hT n c B0 N X Q) K m e L cf:=chI j hs hj hz (λ_ _ h=>bLI h ha) k
end
section
variable {P:Program} {T:TT} {hT:GJ P T} {n:Nat} {c c':Ctx} {B0:Bl} {N N':Act->World->Prop} {X:Nat->Act->World->Prop} {Q Q':Act->World->Prop} {K K':List Fr} {m m':Nat} {e e':SE} {L L':List Ch} {cf:uI}
theorem aW7(hN:∀a w,N' a w->N a w)(hQ:∀a w,Q' a w->Q a w):∀K:List Fr,(∀a w,NK (.mk P T hT n c' B0 N' X Q') K a w->NK (.mk P T hT n c B0 N X Q) K a w)/\∀i a w,XK (.mk P T hT n c' B0 N' X Q') K i a w->XK (.mk P T hT n c B0 N X Q) K i a w
 |[]=>⟨hN,λ_ _ _ h=>h⟩
 |.s y::K=>by obtain⟨h1,h2⟩:=aW7 hN hQ K;exact⟨λa w h=>CW.mono h h1 h2 hQ,h2⟩
 |.k j::K=>by obtain⟨h1,h2⟩:=aW7 hN hQ K;refine⟨h1,λi a w h=>?_⟩;simp only[XK,aVD] at h ⊢;grind
theorem lkC{J ρ ex γ:Type}[aL O][aL J]{fn:Func}{rs:List ResultVar}{hr:fn.results=rs.toArray}{sv:ρ->ex->SV}{Lf:ρ->ex->List Ch}{r:ρ}{q:γ}{zz:Option γ}{x:Code}(j:Nat){us:List O}{d:List J}
  (hx:∀S w,(∀b o,c.S0 b o->S b o)->(∀b o,c.S0 b o->w.cell? ⟨b,o,none⟩=c.w0.cell? ⟨b,o,none⟩)->aL.rd S w [s.v us.length] us->aL.rd S w [s.v d.length] d)
  (hs:VM (jE T n K cf m e L)=some (K',.c x,m',e',L')) (hj:L'[j]?=some (ow s us))
  (k:∀{c':Ctx},(∀{O:Type} [aL O] {s:AC} {d:List O},bI c s d->bI c' s d)->bI c' s d->W (G (.mk P T hT n c' B0 (QR P fn hr c' B0 sv Lf r) (λ_ _ _=>False) (QR P fn hr c' B0 sv Lf r)) K' m' e' (L'.set j .no) (.c x)) q zz)
  (hn:∀r y,noF (Lf r y)=true:=by exact λ_ _=>rfl):W (G (.mk P T hT n c B0 (QR P fn hr c B0 sv Lf r) (λ_ _ _=>False) (QR P fn hr c B0 sv Lf r)) K m e L cf) q zz:=λhF=>by
 refine go hs λa w ⟨B,hm,hA,hS⟩=>?_;obtain⟨⟨R,s1,s2⟩,s0⟩:=id hS;obtain⟨F,S,a1,a2,a3,a4,a5,a6⟩:=s1.sep;obtain⟨Fj,Fr,b1,b2,b3,b4⟩:=(Sep.take (c:=cS [s.v us.length] us) (i:=j) (by rw[B7,hj];rfl)).1 a1;have hdS:∀b o,F b o->¬c.S0 b o:=λb o hf h0=>(a3 b o hf).elim (λh=>s1.apart b o h h0) λh=>aj
 let c2:Ctx:=⟨w,Fr,λb o=>c.S0 b o\/Fj b o\/S b o⟩
 have hlt:∀b o,c2.S0 b o->b<w.heap.size:=λb o h=>h.elim (λh=>PZ (s0 b o h) s1.keep.size) λh=>h.elim (λh=>(cS [s.v us.length] us).lt b1 h) (a5 b o);have hag:∀b o,c.S0 b o->w.cell? ⟨b,o,none⟩=c.w0.cell? ⟨b,o,none⟩:=λb o h=>s1.keep.cell b o (s0 b o h) λhw=>s1.apart b o hw h;have ap:c2.W.GK c2.S0:=λb o h1 h2=>h2.elim (λh=>hdS b o ((b4 b o).2 (.inr h1)) h) λh=>h.elim (λh=>b3 b o h h1) λh=>a2 b o ((b4 b o).2 (.inr h1)) h;have st2:mK c2 w (B0++B) (L'.set j .no):=by
  refine⟨⟨R,⟨eC.refl _ _,⟨Fr,S,?_,λb o h1 h2=>a2 b o ((b4 b o).2 (.inr h1)) h2,λb o h=>.inl h,λb o h=>.inl (.inr (.inr h)),a5,a6⟩,ap⟩,λz hz=>?_⟩,hlt⟩
  ·rw[LR];exact b2
  ·rcases tY hz with hz|hz
   ·grind
   ·subst hz;trivial
 have rdc:∀{O:Type} [aL O] {s:AC} {d:List O},bI c s d->bI c2 s d:=λh=>aL.rd_mono (aL.rd_agree h hag) λ_ _ h=>.inl h;have rdj:bI c2 s d:=hx _ _ (λ_ _ h=>.inl h) hag (aL.rd_mono (aL.own_rd b1) λ_ _ h=>.inr (.inl h));have out:∀a w,QR P fn hr c2 B0 sv Lf r a w->QR P fn hr c B0 sv Lf r a w:=λa w2 ⟨hd,v,hv,y,h1,h2⟩=>by
  obtain⟨⟨R2,t1,_⟩,_⟩:=h2;obtain⟨F2,S2,e1,e2,e3,e4,e5,e6⟩:=t1.sep;refine⟨hd,v,hv,y,h1,⟨⟨[],⟨s1.keep.trans t1.keep λb o hb h=>?_,⟨F2,F0,e1,λ_ _ _ h=>h,λb o h=>?_,λ_ _ h=>h.elim,λ_ _ h=>h.elim,λf hf=>by cases hf⟩,s1.apart⟩,aO6 (hn r y)⟩,s0⟩⟩
  ·grind
  ·rcases e3 b o h with h|h
   ·grind
   ·exact .inr (iI s1.keep.size h)
 obtain⟨m1,m2⟩:=aW7 (P:=P) (T:=T) (hT:=hT) (n:=n) (c:=c) (c':=c2) (B0:=B0) (X:=λ_ _ _=>False) out out K';exact CW.mono (k rdc rdj hF a w ⟨B,hm,hA,st2⟩) m1 m2 out
end
theorem bI0[aL O](h1:aL.n O=1){us:List Raw}{d:List O}(hr:aA1 c.S0 c.w0 us d):∀S w,(∀b o,c.S0 b o->S b o)->(∀b o,c.S0 b o->w.cell? ⟨b,o,none⟩=c.w0.cell? ⟨b,o,none⟩)->aL.rd S w [s.v us.length] us->aL.rd S w [s.v d.length] d:=λS w hS ha h=>by rw[<-hr.1];exact a9O h1 h ⟨hr.1,λi u x hu hx=>aL.rd_mono (aL.rd_agree (hr.2 i u x hu hx) ha) hS⟩
section
variable {P:Program} {T:TT} {hT:GJ P T} {n:Nat} {c:Ctx} {B0:Bl} {N:Act->World->Prop} {X:Nat->Act->World->Prop} {Q:Act->World->Prop} {K K':List Fr} {m m':Nat} {e e':SE} {L L' Lv:List Ch} {cf cf1 cf2:uI} {o:Oper} {d:Nat}
variable {x y z:Operand} {t t2 el sz:Nat} {zv:Value} {b1 b2:Bool} {n1 n2:Nat} {z1 z2:List SV} {kt:TK} {k2:IntKind}
theorem qcn(hs:opS (jE T n K cf m e L)=some (o,Lv,cf1,cf2,K',m',e',L'))(ho:(o.op,o.dst)=(.call {callee:=.builtin .cap,args:=#[x],argTypes:=#[t]},some d))(hx:iM e' x=some (.h ⟨none,0⟩ 0))(ht:AQ T t=some ⟨.sl el,b1,n1,z1⟩)
  (kk:G (.mk P T hT n c B0 N X Q) K' m' ((d,.i .i64 0)::e') L' cf2):G (.mk P T hT n c B0 N X Q) K m e L cf:=
 pu hs (cY Prod.snd ho) (λB a w hA _=>by
  obtain⟨v,h1,h2⟩:=eH hA hx;cases h1;exact⟨.int .i64 0,rfl,a6V (GM ht hT) (cY Prod.fst ho) h2⟩) kk
theorem qn0(hs:opS (jE T n K cf m e L)=some (o,Lv,cf1,cf2,K',m',e',L'))(ho:(o.op,o.dst)=(.slice t x none (some z) none,some d))(hx:iM e' x=some (.h ⟨none,0⟩ 0))(hz:(iM e' z).bind uH=some (k2,0))(ht:AQ T t=some ⟨.sl el,b1,n1,z1⟩)(he:AQ T el=some ⟨kt,b2,sz,z2⟩)
  (kk:G (.mk P T hT n c B0 N X Q) K' m' ((d,.h ⟨none,0⟩ 0)::e') L' cf2):G (.mk P T hT n c B0 N X Q) K m e L cf:=
 pu hs (cY Prod.snd ho) (λB a w hA _=>by
  obtain⟨v,h1,h2⟩:=eH hA hx;cases h1;exact⟨.slice none 0 0,rfl,a4Q (n:=sz) ⟨_,_,_,rfl⟩ (GM ht hT) (hT.size _ _ he) (cY Prod.fst ho) h2 (AT hA hz)⟩) kk
theorem apZ{i:Int}(hb:1<=i/\i<=1073741824)(hinf:Inf P el sz zv)(hs:jE T n K cf m e L=.op o Lv cf1 cf2 K' m' e' L')(ho:(o.op,o.dst)=(.call {callee:=.builtin .append,args:=#[x,y],argTypes:=#[t,t2]},some d))(ht:AQ T t=some ⟨.sl el,b1,n1,z1⟩)(ht2:AQ T t2=some ⟨.i k2,b2,n2,z2⟩)(hzs:zv.cells.size=sz)(hm:Nat.ble 1 sz=true)(hx:iM e' x=some (.h ⟨none,0⟩ 0))(hy:(iM e' y).bind uH=some (.i64,i))
  (k:∀s':AC,G (.mk P T hT n c B0 N X Q) K' m' ((d,.h s' (List.replicate i.toNat (0:Int)).length)::e') (L'++[.o (a9P (s'.v (List.replicate i.toNat (0:Int)).length) sz)]) cf2):G (.mk P T hT n c B0 N X Q) K m e L cf:=by
 refine aW1 (l:=List.replicate i.toNat (0:Int)) (λs'=>L'++[.o (a9P (s'.v (List.replicate i.toNat (0:Int)).length) sz)]) hs (cY Prod.snd ho) (λ_=>uK _) (λB a w hA hS=>?_) k;obtain⟨⟨R,s1,s2⟩,s0⟩:=hS;obtain⟨v,h1,h2⟩:=eH hA hx;cases h1;obtain⟨u,g1,g2⟩:=hT.und _ _ ht2;subst g2;obtain⟨v,w',k1,k2,ad,cp,rfl⟩:=bEN (e:=vE B e') (o:=o) s1 (GM ht hT) g1 hinf hzs hm hb (cY Prod.fst ho) h2 (AT hA hy);refine⟨⟨ad,cp⟩,w',aj,⟨⟨R,by grind[kP],λz hz=>?_⟩,s0⟩⟩;rcases jG.1 hz with hz|hz
 ·grind
 ·simp at hz;subst hz;trivial
theorem rn0(O:Type)[aL O](j:Nat){kk:Nat}(hn:aL.n O=sz)(hs:jE T n K cf m e L=.op o Lv cf1 cf2 K' m' e' L')(ho:(o.op,o.dst)=(.slice t x none (some z) none,some d))(hx:iM e' x=some (.h s kk))(hz:(iM e' z).bind uH=some (k2,0))(ht:AQ T t=some ⟨.sl el,b1,n1,z1⟩)(he:AQ T el=some ⟨kt,b2,sz,z2⟩)(hj:L'[j]?=some (.o (a9P (s.v kk) sz)))(hfz:eZ j cf1.yR=true)
  (k:∀s':AC,G (.mk P T hT n c B0 N X Q) K' m' ((d,.h s' ([]:List O).length)::e') (L'.set j (ow s' ([]:List O))) cf2):G (.mk P T hT n c B0 N X Q) K m e L cf:=by
 refine aW1 (l:=([]:List O)) (λs'=>L'.set j (ow s' ([]:List O))) hs (cY Prod.snd ho) (λ_=>GN hfz) (λB a w hA hS=>?_) k;obtain⟨⟨R,s1,s2⟩,s0⟩:=hS;obtain⟨v,h1,h2⟩:=eH hA hx;cases h1;have k2:=s1.bIC (O:=O) j (by rw[B7,hj];rfl) hn;refine⟨s.sub sz 0,w,a4Q (n:=sz) ⟨_,_,_,rfl⟩ (GM ht hT) (hT.size _ _ he) (cY Prod.fst ho) h2 (AT hA hz),⟨⟨R,?_,λz hz=>?_⟩,s0⟩⟩
 ·rw[LR];exact k2
 ·rcases tY hz with hz|hz
  ·grind
  ·subst hz;trivial
end
theorem ah2[aL O]{q1 q2:AH}{d1 d2:List O}(h1:q1.n=d1.length/\bI c q1.s d1)(h2:q2.n=d2.length/\bI c q2.s d2):AHs c [q1,q2] [d1,d2]:=And.intro h1 (And.intro h2 trivial)
theorem rwX{C:Prop}[aL O](hn:aL.n O=1){d:List O}(h:bI c s d)(k:∀us:List Raw,bI c s us->aA1 c.S0 c.w0 us d->C):C:=by obtain⟨us,h1,h2⟩:=bIB hn h;refine k us ?_ h2;unfold bI;rw[h2.1];exact h1
theorem bLJ{n:Int}(hn:0<=n/\n<=1073741824)(hb:decide (0<aE (n-aE (0-0)))=true):1<=aE (n-aE (0-0))/\aE (n-aE (0-0))<=1073741824:=by grind[UA]
theorem aZ3{O:Type}:∀l:List O,frc l=some l
 |[]=>rfl
 |x::l=>by simp only[frc,aZ3 l]
theorem aW8(x:SV):∀(cs:List SV) (i:Nat),nbL (cs.set i x)=(nbL cs).set i (nb1 x)
 |[],_=>rfl
 |y::cs,0=>rfl
 |y::cs,i+1=>by simp only[List.set_cons_succ,nbL,aW8 x cs i]
def aB(l:List Bool):List SV:=[.b (l.getD 0 false),.b (l.getD 1 false),.b (l.getD 2 false),.b (l.getD 3 false),.b (l.getD 4 false),.b (l.getD 5 false),.b (l.getD 6 false),.b (l.getD 7 false),.b (l.getD 8 false),.b (l.getD 9 false),.b (l.getD 10 false),.b (l.getD 11 false),.b (l.getD 12 false),.b (l.getD 13 false),.b (l.getD 14 false),.b (l.getD 15 false),.b (l.getD 16 false),.b (l.getD 17 false),.b (l.getD 18 false),.b (l.getD 19 false),.b (l.getD 20 false),.b (l.getD 21 false),.b (l.getD 22 false),.b (l.getD 23 false)]
theorem a2J{l:List Bool}(h:i<24):(aB l)[i]?=some (.b (l.getD i false)):=by have:(aB l).length=24:=rfl;rcases i with _|_|_|_|_|_|_|_|_|_|_|_|_|_|_|_|_|_|_|_|_|_|_|_|i<;>first|rfl|omega
theorem bI1{l:List Bool}(h:i<24)(hl:i<l.length)(u:Bool):(aB l).set i (.b u)=aB (l.set i u):=by
 refine aAY λk=>?_;have e:(aB l).length=24:=rfl;by_cases hk:k<24
 ·rw[a2J hk,List.getElem?_set];by_cases q:i=k
  ·grind
  ·rw[aS q,a2J hk];grind
 simp_all[aB]
section
variable {P:Program} {T:TT} {hT:GJ P T} {n:Nat} {c:Ctx} {B0:Bl} {N:Act->World->Prop} {X:Nat->Act->World->Prop} {Q:Act->World->Prop} {K K':List Fr} {m m':Nat} {e e':SE} {L L':List Ch} {cf cf1 cf2:uI} {o:Oper} {Lv:List Ch} {d:Nat}
variable {x y:Operand} {t el:TypeId} {k:IntKind} {i:Int} {J:Type} {A:Option J} {kf:Bool->Option J} {q:J} {n1 b0:Nat} {l:List Bool}
theorem elP{B:Bl}{b i:Nat}(hw:B[b0]?=some (b,z)):fP B (.p b0 i)=fP B (.e ⟨some ⟨b,z,none⟩,0⟩ 1 i 0):=by simp[fP,gV,bZ,hw,elB,Y0]
theorem qia(hu:P.underlying t=some (.array 24 el))(hz:∀w,(sizeOf el).run P w=.ok 1 w)(hs:jE T n K cf m e L=.op o Lv cf1 cf2 K' m' e' L')(ho:(o.op,o.dst)=(.indexAddr t x y,some d))(hx:iM e' x=some (.p b0 0))(hy:(iM e' y).bind uH=some (k,i))(hF:need (0<=i/\i<24) A=some q)
  (kk:0<=i/\i<24->A=some q->∀b z:Nat,G (.mk P T hT n c B0 N X Q) K' m' ((d,.e ⟨some ⟨b,z,none⟩,0⟩ 1 i.toNat 0)::e') (L'++[.w b0 b z]) cf2):G (.mk P T hT n c B0 N X Q) K m e L cf:=by
 have hb:=(m0 hF).1;have hd:o.dst=some d:=cY Prod.snd ho;refine gY (g:=.mk P T hT n c B0 N X Q) ?_;rw[hs];intro hdn _ hE;refine hE (Nat×Nat) (λ_=>m') (λs=>(d,.e ⟨some ⟨s.1,s.2,none⟩,0⟩ 1 i.toNat 0)::e') (λs=>L'++[.w b0 s.1 s.2]) (λ_=>uK _) (λB a w next Q' hm hA hS hnext=>?_) (λs=>kk hb (m0 hF).2 s.1 s.2);obtain⟨v,h1,h2⟩:=eH hA hx;have h3:=AT hA hy;simp only[fP,gV,bZ] at h1;split at h1
 ·rename_i b z hbz;cases h1;have hw:(B0S (.mk P T hT n c B0 N X Q) cf1++B)[b0]?=some (b,z):=hbz;have hrun:eW P o (vE (B0S (.mk P T hT n c B0 N X Q) cf1++B) e') w (.pointer (some ⟨b,z+i.toNat,none⟩)) w:=λ_ a' hA'=>by
   have ho':o.op=.indexAddr t x y:=cY Prod.fst ho;have h5:(⟨b,z,none⟩:Addr).add i.toNat=⟨b,z+i.toNat,none⟩:=by grind[Addr.add]
   simp[execOp,ho',Instr.indexAt,hA'.eval h2,hA'.eval h3,asIntOf,run_underlying hu,Instr.sureAddr,hb.1,hb.2,hz,h5]
  unfold Oper.wp;rw[hrun _ a hA.env,Oper.upon_value,hd];obtain⟨⟨R,s1,s2⟩,s0⟩:=hS;refine hnext (b,z) _ _ ⟨[],aj,by simpa using hA.of (by simp[fP,gV,bZ,elB,Y0]) (hA.env.put (by grind[sD,yT]) _),?_⟩;rw[tX];refine⟨⟨R,by rw[xR];exact aZJ s1,λz hz=>?_⟩,s0⟩;rcases jG.1 hz with hz|hz
  ·grind
  ·simp at hz;subst hz;exact hw
 ·cases h1
theorem qal{tk:TK}{zz:Nat}{z1:List SV}{b:Nat}(p:Nat)(h24:0<=i/\i<24)(hs:opS (jE T n K cf m e L)=some (o,Lv,cf1,cf2,K',m',e',L'))(ho:(o.op,o.dst)=(.load t x,some d))(hx:iM e' x=some (.e ⟨some ⟨b,z,none⟩,0⟩ 1 i.toNat 0))(hp:Lv[p]?=some (.w b0 b z))(hb:JJ b0 Lv=some (aB l))(ht:AQ T t=some ⟨tk,false,zz,z1⟩)(hF:(idx l i).bind kf=some q)
  (kk:∀u,kf u=some q->G (.mk P T hT n c B0 N X Q) K' m' ((d,.b u)::e') L' cf2):G (.mk P T hT n c B0 N X Q) K m e L cf:=by
 cases hi:idx l i with
 |none=>grind
 |some u=>
  rw[hi] at hF;refine pu hs (cY Prod.snd ho) (λB a w hA hS=>?_) (kk u hF);obtain⟨v,h1,h2⟩:=eH hA hx;have hw:B[b0]?=some (b,z):=by obtain⟨⟨R,_,s2⟩,_⟩:=id hS;exact s2 _ (LS hp)
  refine aZD (a:=.p b0 i.toNat) (r:=.b u) hT hS (cY Prod.fst ho) h2 ((elP hw).trans h1) ?_;simp only[aVG,hb,ht];rw[a2J aa,VG,(CZ hi).2.2];rfl
theorem bLK{v:SV}{y:Operand}(h:iM [] y=some v)(e:SE):iM e y=some v:=by cases y<;>first|exact h|grind[iM,FL]
theorem qas{tk:TK}{ag:Bool}{z1:List SV}{u:Bool}{b k0:Nat}(p:Nat)(h24:0<=i/\i<24)(hs:jE T n K cf m e L=.op o Lv cf1 cf2 K' m' e' L')(ho:(o.op,o.dst)=(.store t (.tmp k0) y,none))(hx:FL e' k0=some (.e ⟨some ⟨b,z,none⟩,0⟩ 1 i.toNat 0))(hy:iM [] y=some (.l u))(hp:L'[p]?=some (.w b0 b z))(hib:VL b0 L'=true)(hb:JJ b0 L'=some (aB l))(ht:AQ T t=some ⟨tk,ag,1,z1⟩)(hz:noD cf1=true)(hF:(idx l i).bind kf=some q)
  (kk:∀v,kf v=some q->G (.mk P T hT n c B0 N X Q) K' m' e' (uJ b0 (aB (l.set i.toNat u)) L') cf2):G (.mk P T hT n c B0 N X Q) K m e L cf:=by
 cases hi:idx l i with
 |none=>grind
 |some v=>
  rw[hi] at hF;obtain⟨i0,i1,i2⟩:=CZ hi;have hlt:i.toNat<l.length:=aa
  have ho':o.op=.store t (.tmp k0) y:=cY Prod.fst ho;have hd:o.dst=none:=cY Prod.snd ho;have hst:XI T t (.p b0 i.toNat) (.l u) L'=some (uJ b0 ((aB l).set i.toNat (.l u)) L'):=by
   have e1:Nat.beq 1 1=true:=rfl;have e2:Nat.ble (i.toNat+1) (aB l).length=true:=by rw[Nat.ble_eq];show i.toNat+1<=24;omega
   have e3:o4 (.l u)=[.l u]:=rfl;have e4:isCells (.l u)=true:=rfl;simp only[XI,hib,hb,ht,e3,e4,List.length_singleton,e1,e2,aZ3];simp_all[aOY,a9Y]
  refine gY (g:=.mk P T hT n c B0 N X Q) ?_;rw[hs];intro hdn _ hE;refine hE Unit (λ_=>m') (λ_=>e') (λ_=>uJ b0 (aB (l.set i.toNat u)) L') (λ_=>?_) (λB a w next Q' hm hA hS hnext=>?_) (λ_=>kk v hF)
  ·cases cf1 with
   |d _ _ _ _ _ _=>cases hz
   |o _ _ _ _ _ _ _=>cases hz
   |_=>trivial
  ·have hw:(B0S (.mk P T hT n c B0 N X Q) cf1++B)[b0]?=some (b,z):=by obtain⟨⟨R,_,s2⟩,_⟩:=id hS;exact s2 _ (LS hp)
   have hA2:gR n (B0S (.mk P T hT n c B0 N X Q) cf1++B) ((k0,.p b0 i.toNat)::e') a:=⟨hA.d,hA.size,λk' x' hk=>by
    simp only[FL] at hk;split at hk
    ·rename_i hq;cases hk;have:=pV hq;subst this;obtain⟨v,g1,g2⟩:=hA.get k' _ hx;grind[elP]
    ·exact hA.get k' x' hk⟩
   obtain⟨w',k1,k2⟩:=aVJ hT hA2 hS ho' (by simp[iM,FL]) (bLK hy _) hst;unfold Oper.wp;rw[k1 _ a hA2.env,Oper.upon_skip,hd];refine hnext () _ _ ⟨[],aj,by rw[tX];exact⟨hA.d,hA.size,hA.get⟩,?_⟩;rw[tX];obtain⟨j,cs,g1,g2,g3⟩:=aO1 hib;rw[g3] at k2 ⊢;obtain⟨⟨R,s1,s2⟩,s0⟩:=k2;have e0:∀B:Bl,bA (bZ B) ((aB l).set i.toNat (.l u))=bA (bZ B) (aB (l.set i.toNat u)):=λB=>by rw[<-bI1 aa hlt,<-R4,<-R4 (cs:=(aB l).set i.toNat (.b u)),aW8,aW8];rfl
   refine⟨⟨R,?_,λz hz=>?_⟩,s0⟩
   ·rw[LR] at s1 ⊢;refine s1.imp (jO.set j (jO.refl _) λF ⟨b,z,vs,q1,q2,q3⟩=>⟨b,z,vs,q1,(e0 _).symm.trans q2,q3⟩)
   ·obtain⟨k,hk⟩:=aKL hz;by_cases hkj:j=k
    ·subst hkj;rw[List.getElem?_set] at hk;simp only[bY] at hk;split at hk
     ·cases hk;trivial
     ·cases hk
    ·exact s2 z (LS (i:=k) aj)
end
theorem aVR[aL O]{l:List O}{sz:Nat}(hn:aL.n O=sz){F:cO}(h:(pX (s.v l.length) l 0).P w F):l.length<=s.c/\∃F',aL.own w [(s.sub sz (1:Int).toNat).v ((l.take l.length).drop (1:Int).toNat).length] ((l.take l.length).drop (1:Int).toNat) F'/\∀b o,F' b o->F b o:=by
 obtain⟨a,c,b,off,c1,c2,F1,F2,e,h1,h2,hk,rfl,hr,k1,k2,o1,o2,d1,d2,d3,hF⟩:=h;subst hn;obtain⟨sa,sc⟩:=s;simp only[AC.v,Value.slice.injEq] at e;obtain⟨rfl,-,rfl⟩:=e;refine⟨h1,?_⟩;have e1:(l.take l.length).drop (1:Int).toNat=l.drop 1:=ae
 rw[e1];have hlen:(l.drop 1).length=l.length-1:=ae
 by_cases hc:sc=1
 ·have hz:l.drop 1=[]:=yS aa;refine⟨F0,?_,λ_ _ h=>h.elim⟩;subst hc;rw[hz];exact l4.2 ⟨some ⟨b,off,none⟩,0,rfl,jZ _,lB _,.inr ⟨b,off,[],F0,rfl,λo p=>by obtain⟨_,p1,p2⟩:=p;omega,λj v h=>by simp at h,⟨rfl,λ_ _ h=>h⟩,λ_ _ h=>h.elim,λb' o=>by simp[F0,eE]⟩⟩
 ·have hmul:aL.n O+(sc-1)*aL.n O=sc*aL.n O:=by obtain⟨m,rfl⟩:∃m,sc=m+1:=⟨sc-1,aa⟩;rw[nU,Nat.add_sub_cancel];omega
  have e4:AC.v (AC.sub ⟨some ⟨b,off,none⟩,sc⟩ (aL.n O) (1:Int).toNat) (l.drop 1).length=.slice (some ⟨b,off+aL.n O,none⟩) (l.drop 1).length (sc-1):=by show AC.v (AC.sub ⟨some ⟨b,off,none⟩,sc⟩ (aL.n O) 1) _=_;simp[AC.sub,AC.v,hc,Addr.add]
  rw[e4];simp only[aD0,Nat.one_mul] at k2 o2;refine⟨λb' o=>eE b (off+aL.n O) ((sc-1)*aL.n O) b' o\/F2 b' o,JQ (λo p=>hr o ?_ ?_) k2 o2 (λb' o p q=>d3 b' o p ?_) aa aa,?_⟩
  ·obtain⟨_,p1,p2⟩:=p;exact⟨rfl,aa,aa⟩
  ·rintro⟨_,q1,q2⟩;obtain⟨_,p1,p2⟩:=p;omega
  ·obtain⟨p0,p1,p2⟩:=q;exact⟨p0,aa,aa⟩
  ·rintro b' o (p|p)
   ·refine(hF b' o).2 (.inl ⟨?_,?_⟩)
    ·obtain⟨p0,p1,p2⟩:=p;exact⟨p0,aa,aa⟩
    ·rintro⟨_,q1,q2⟩;obtain⟨_,p1,p2⟩:=p;omega
   ·exact(hF b' o).2 (.inr (.inr p))
section
variable {P:Program} {T:TT} {hT:GJ P T} {n:Nat} {c:Ctx} {B0:Bl} {N:Act->World->Prop} {X:Nat->Act->World->Prop} {Q:Act->World->Prop} {K K':List Fr} {m m':Nat} {e e':SE} {L L':List Ch} {cf cf':uI}
theorem hoT[aL O](j:Nat){sz:Nat}{l:List O}(hn:aL.n O=sz)(hs:VM (jE T n K cf m e L)=some (K',cf',m',e',L'))(hj:L'[j]?=some (.o (pX (s.v l.length) l 0)))(hz:eZ j cf'.yR=true)
  (k:l.length<=s.c->G (.mk P T hT n c B0 N X Q) K' m' e' (L'.set j (ow (s.sub sz (1:Int).toNat) ((l.take l.length).drop (1:Int).toNat))) cf'):G (.mk P T hT n c B0 N X Q) K m e L cf:=by
 refine go hs (chg (λ_:PLift (l.length<=s.c)=>m') (λ_=>e') (λ_=>L'.set j (ow (s.sub sz (1:Int).toNat) ((l.take l.length).drop (1:Int).toNat))) (λB a' w hm hA hS=>?_) (λ_=>GN hz) (λh=>k h.down));obtain⟨⟨R,s1,s2⟩,s0⟩:=hS;obtain⟨F1,hF1⟩:=s1.chunk (ch:=pX (s.v l.length) l 0) j (by simp[hj,kP]);refine⟨⟨(aVR hn hF1).1⟩,[],aj,aj,⟨⟨R,?_,λz hz=>?_⟩,s0⟩⟩
 ·rw[tX,LR];refine s1.aFY j (by rw[B7,hj];rfl) λF hF=>?_;obtain⟨_,F',h1,h2⟩:=aVR hn hF;exact⟨F',F0,eC.refl _ _,λ_ _ h=>h.elim,h1,λb o h=>.inl (h2 b o h)⟩
 ·rw[tX];rcases tY hz with hz|hz
  ·grind
  ·subst hz;trivial
end
section
variable {P:Program} {T:TT} {hT:GJ P T} {n:Nat} {c:Ctx} {B0:Bl} {N:Act->World->Prop} {X:Nat->Act->World->Prop} {Q:Act->World->Prop} {K K':List Fr} {m m':Nat} {e e':SE} {L L':List Ch} {cf cf1 cf2:uI} {o:Oper}
variable {O J ex:Type} {fo:Option O} {kf:O->Option J} {q:J} {d:Option Nat} {f:FuncId} {xs xs0:List SV} {M:List Ch} {sv:O->ex->SV} {Lr:O->ex->List Ch}
theorem Y1(is:List Nat)
  (hs:cpS (jE T n K cf m e L)=some (o,d,f,xs,cf1,cf2,K',m',e',L')) (hi:bA (λi=>L'[i]?) is=some M) (hx:bA (rnP [] 0) xs=some xs0)
  (hk:(JF M && (dE is && is.all λj=>eZ j cf1.yR))=true)
  (hc:∀{U:Ctx},HG c U L' is->VS P U f fo xs0 [] M sv Lr)
  (k:∀x,∀y:ex,W (G (.mk P T hT n c B0 N X Q) K' m' (dse d (sv x y) e') (aGL is 0 L'++Lr x y) cf2) q (kf x)) (hn:∀x y,(JF (Lr x y) && B9 0 (sv x y))=true:=by exact λ_ _=>rfl):W (G (.mk P T hT n c B0 N X Q) K m e L cf) q (fo.bind kf):=
 dY is ⟨hs,hi,hx,hk⟩ hc (λx y=>by rw[a2I];exact k x y) hn
end
abbrev VI(x:Int):Value:=.int .i64 x
structure iF where
 Kind:Int
 Key:Int
 eO:Int
 deriving DecidableEq,Inhabited
abbrev bBI(d:iF):=(d.Kind,d.Key,d.eO)
instance:aL iF:=aL.via bBI
instance:Fits iF:=Fits.via bBI
theorem bI2{S:cO}{cs:List Value}{d:iF}(h:aL.rd S w cs d):cs=[VI d.Kind,VI d.Key,VI d.eO]:=by obtain⟨c0,r0,e0,h0,n0⟩:=h;have q0:c0=[_]:=h0;obtain⟨c1,r1,e1,h1,n1⟩:=n0;have q1:c1=[_]:=h1;have q2:r1=[_]:=n1;exact by rw[e0,e1,q0,q1,q2];rfl
theorem bI3{S:cO}(d:iF):aL.rd S w [VI d.Kind,VI d.Key,VI d.eO] d:=⟨[VI d.Kind],[VI d.Key,VI d.eO],rfl,rfl,⟨[VI d.Key],[VI d.eO],rfl,rfl,rfl⟩⟩
instance:Flat iF:=⟨λh=>Flat.own_of (O:=Int×Int×Int) h,λh=>Flat.no (O:=Int×Int×Int) h⟩
theorem bI4(d:iF):OP [VI d.Kind,VI d.Key,VI d.eO] d []:=(show OP _ (bBI d) _ from(eP (c1:=[VI d.Kind]) (A:=[]) (eB rfl) (eP (c1:=[VI d.Key]) (A:=[]) (eB rfl) (eB rfl) rfl) rfl))
structure Batch where
 Collect:Bool
 bD:List iF
 deriving DecidableEq,Inhabited
abbrev aW9(d:Batch):=(d.Collect,d.bD)
instance:aL Batch:=aL.via aW9
instance:Fits Batch:=Fits.via aW9
theorem aZ4{S:cO}{cs:List Value}{d:Batch}(h:aL.rd S w cs d):∃v0:Value,cs=[.bool d.Collect,v0]/\aL.rd S w [v0] d.bD:=by obtain⟨c0,r0,e0,h0,n0⟩:=h;have q0:c0=[_]:=h0;obtain⟨u1,q1⟩:=iQ n0;rw[q1] at n0;exact⟨u1,by rw[e0,q0,q1];rfl,n0⟩
theorem aPC(d:Batch):OP [.bool d.Collect,v0] d [cS [v0] d.bD]:=(show OP _ (aW9 d) _ from(eP (c1:=[.bool d.Collect]) (A:=[]) (eB rfl) MN rfl))
structure aO where
 List:List Batch
 deriving DecidableEq,Inhabited
abbrev aPD(d:aO):=(d.List)
instance:aL aO:=aL.via aPD
instance:Fits aO:=Fits.via aPD
theorem a66{S:cO}{cs:List Value}{d:aO}(h:aL.rd S w cs d):∃v0:Value,cs=[v0]/\aL.rd S w [v0] d.List:=by obtain⟨u0,q0⟩:=iQ h;rw[q0] at h;exact⟨u0,q0,h⟩
theorem aVS(d:aO):OP [v0] d [cS [v0] d.List]:=(show OP _ (aPD d) _ from MN)
structure eQ where
 bJ:List aO
 dC:List Int
 deriving DecidableEq,Inhabited
abbrev aVT(d:eQ):=(d.bJ,d.dC)
instance:aL eQ:=aL.via aVT
instance:Fits eQ:=Fits.via aVT
theorem a2K{S:cO}{cs:List Value}{d:eQ}(h:aL.rd S w cs d):∃v0 v1:Value,cs=[v0,v1]/\aL.rd S w [v0] d.bJ/\aL.rd S w [v1] d.dC:=by obtain⟨c0,r0,e0,h0,n0⟩:=h;obtain⟨u0,q0⟩:=iQ h0;rw[q0] at h0;obtain⟨u1,q1⟩:=iQ n0;rw[q1] at n0;exact⟨u0,u1,by rw[e0,q0,q1];rfl,h0,n0⟩
structure Heap where
 Bytes:List Int
 Class:List Int
 deriving DecidableEq,Inhabited
abbrev bBJ(d:Heap):=(d.Bytes,d.Class)
instance:aL Heap:=aL.via bBJ
instance:Fits Heap:=Fits.via bBJ
structure aU where
 aV:List Int
 deriving DecidableEq,Inhabited
abbrev aXA(d:aU):=(d.aV)
instance:aL aU:=aL.via aXA
instance:Fits aU:=Fits.via aXA
theorem bBK{S:cO}{cs:List Value}{d:aU}(h:aL.rd S w cs d):∃v0:Value,cs=[v0]/\aL.rd S w [v0] d.aV:=by obtain⟨u0,q0⟩:=iQ h;rw[q0] at h;exact⟨u0,q0,h⟩
theorem GP(d:aU):OP [v0] d [cS [v0] d.aV]:=(show OP _ (aXA d) _ from MN)
structure aD where
 Global:List aU
 Own:List aU
 deriving DecidableEq,Inhabited
abbrev a5U(d:aD):=(d.Global,d.Own)
instance:aL aD:=aL.via a5U
instance:Fits aD:=Fits.via a5U
structure Mem where
 Heap:Heap
 aD:aD
 deriving DecidableEq,Inhabited
abbrev bHD(d:Mem):=(d.Heap,d.aD)
instance:aL Mem:=aL.via bHD
instance:Fits Mem:=Fits.via bHD
structure lF where
 On:Bool
 aQ:Int
 gN:Bool
 Seen:Int
 deriving DecidableEq,Inhabited
abbrev bBL(d:lF):=(d.On,d.aQ,d.gN,d.Seen)
instance:aL lF:=aL.via bBL
instance:Fits lF:=Fits.via bBL
theorem bI5{S:cO}{cs:List Value}{d:lF}(h:aL.rd S w cs d):cs=[.bool d.On,VI d.aQ,.bool d.gN,VI d.Seen]:=by obtain⟨c0,r0,e0,h0,n0⟩:=h;have q0:c0=[_]:=h0;obtain⟨c1,r1,e1,h1,n1⟩:=n0;have q1:c1=[_]:=h1;obtain⟨c2,r2,e2,h2,n2⟩:=n1;have q2:c2=[_]:=h2;have q3:r2=[_]:=n2;exact by rw[e0,e1,e2,q0,q1,q2,q3];rfl
theorem bBM{S:cO}(d:lF):aL.rd S w [.bool d.On,VI d.aQ,.bool d.gN,VI d.Seen] d:=⟨[.bool d.On],[VI d.aQ,.bool d.gN,VI d.Seen],rfl,rfl,⟨[VI d.aQ],[.bool d.gN,VI d.Seen],rfl,rfl,⟨[.bool d.gN],[VI d.Seen],rfl,rfl,rfl⟩⟩⟩
instance:Flat lF:=⟨λh=>Flat.own_of (O:=Bool×Int×Bool×Int) h,λh=>Flat.no (O:=Bool×Int×Bool×Int) h⟩
theorem bI6(d:lF):OP [.bool d.On,VI d.aQ,.bool d.gN,VI d.Seen] d []:=(show OP _ (bBL d) _ from(eP (c1:=[.bool d.On]) (A:=[]) (eB rfl) (eP (c1:=[VI d.aQ]) (A:=[]) (eB rfl) (eP (c1:=[.bool d.gN]) (A:=[]) (eB rfl) (eB rfl) rfl) rfl) rfl))
structure aJ where
 aQ:Int
 bS:List lF
 deriving DecidableEq,Inhabited
abbrev a5V(d:aJ):=(d.aQ,d.bS)
instance:aL aJ:=aL.via a5V
instance:Fits aJ:=Fits.via a5V
structure cQ where
 Handle:Int
 aQ:Int
 deriving DecidableEq,Inhabited
abbrev a2L(d:cQ):=(d.Handle,d.aQ)
instance:aL cQ:=aL.via a2L
instance:Fits cQ:=Fits.via a2L
theorem bFO{S:cO}{cs:List Value}{d:cQ}(h:aL.rd S w cs d):cs=[VI d.Handle,VI d.aQ]:=by obtain⟨c0,r0,e0,h0,n0⟩:=h;have q0:c0=[_]:=h0;have q1:r0=[_]:=n0;exact by rw[e0,q0,q1];rfl
theorem bFP{S:cO}(d:cQ):aL.rd S w [VI d.Handle,VI d.aQ] d:=⟨[VI d.Handle],[VI d.aQ],rfl,rfl,rfl⟩
instance:Flat cQ:=⟨λh=>Flat.own_of (O:=Int×Int) h,λh=>Flat.no (O:=Int×Int) h⟩
theorem bFQ(d:cQ):OP [VI d.Handle,VI d.aQ] d []:=(show OP _ (a2L d) _ from(eP (c1:=[VI d.Handle]) (A:=[]) (eB rfl) (eB rfl) rfl))
structure bE where
 Rows:List cQ
 deriving DecidableEq,Inhabited
abbrev aXB(d:bE):=(d.Rows)
instance:aL bE:=aL.via aXB
instance:Fits bE:=Fits.via aXB
theorem bBN{S:cO}{cs:List Value}{d:bE}(h:aL.rd S w cs d):∃v0:Value,cs=[v0]/\aL.rd S w [v0] d.Rows:=by obtain⟨u0,q0⟩:=iQ h;rw[q0] at h;exact⟨u0,q0,h⟩
theorem aPE(d:bE):OP [v0] d [cS [v0] d.Rows]:=(show OP _ (aXB d) _ from MN)
structure aA where
 Mem:Mem
 aJ:aJ
 bB:List bE
 i5:List Int
 deriving DecidableEq,Inhabited
abbrev bBO(d:aA):=(d.Mem,d.aJ,d.bB,d.i5)
instance:aL aA:=aL.via bBO
instance:Fits aA:=Fits.via bBO
structure cD where
 Head:Int
 eX:Int
 gH:Int
 deriving DecidableEq,Inhabited
abbrev bBP(d:cD):=(d.Head,d.eX,d.gH)
instance:aL cD:=aL.via bBP
instance:Fits cD:=Fits.via bBP
theorem bI7{S:cO}{cs:List Value}{d:cD}(h:aL.rd S w cs d):cs=[VI d.Head,VI d.eX,VI d.gH]:=by obtain⟨c0,r0,e0,h0,n0⟩:=h;have q0:c0=[_]:=h0;obtain⟨c1,r1,e1,h1,n1⟩:=n0;have q1:c1=[_]:=h1;have q2:r1=[_]:=n1;exact by rw[e0,e1,q0,q1,q2];rfl
theorem bBQ{S:cO}(d:cD):aL.rd S w [VI d.Head,VI d.eX,VI d.gH] d:=⟨[VI d.Head],[VI d.eX,VI d.gH],rfl,rfl,⟨[VI d.eX],[VI d.gH],rfl,rfl,rfl⟩⟩
instance:Flat cD:=⟨λh=>Flat.own_of (O:=Int×Int×Int) h,λh=>Flat.no (O:=Int×Int×Int) h⟩
theorem bI8(d:cD):OP [VI d.Head,VI d.eX,VI d.gH] d []:=(show OP _ (bBP d) _ from(eP (c1:=[VI d.Head]) (A:=[]) (eB rfl) (eP (c1:=[VI d.eX]) (A:=[]) (eB rfl) (eB rfl) rfl) rfl))
structure dX where
 Key:Int
 eO:Int
 Next:Int
 deriving DecidableEq,Inhabited
abbrev a5W(d:dX):=(d.Key,d.eO,d.Next)
instance:aL dX:=aL.via a5W
instance:Fits dX:=Fits.via a5W
theorem bBR{S:cO}{cs:List Value}{d:dX}(h:aL.rd S w cs d):cs=[VI d.Key,VI d.eO,VI d.Next]:=by obtain⟨c0,r0,e0,h0,n0⟩:=h;have q0:c0=[_]:=h0;obtain⟨c1,r1,e1,h1,n1⟩:=n0;have q1:c1=[_]:=h1;have q2:r1=[_]:=n1;exact by rw[e0,e1,q0,q1,q2];rfl
theorem bBS{S:cO}(d:dX):aL.rd S w [VI d.Key,VI d.eO,VI d.Next] d:=⟨[VI d.Key],[VI d.eO,VI d.Next],rfl,rfl,⟨[VI d.eO],[VI d.Next],rfl,rfl,rfl⟩⟩
instance:Flat dX:=⟨λh=>Flat.own_of (O:=Int×Int×Int) h,λh=>Flat.no (O:=Int×Int×Int) h⟩
structure Sub where
 Kind:Int
 A:Int
 Pc:Int
 E:Int
 Row:Int
 B:Int
 H:Int
 Out:Int
 Code:Int
 jN:Bool
 deriving DecidableEq,Inhabited
abbrev bHE(d:Sub):=(d.Kind,d.A,d.Pc,d.E,d.Row,d.B,d.H,d.Out,d.Code,d.jN)
instance:aL Sub:=aL.via bHE
instance:Fits Sub:=Fits.via bHE
theorem bI9{S:cO}{cs:List Value}{d:Sub}(h:aL.rd S w cs d):cs=[VI d.Kind,VI d.A,VI d.Pc,VI d.E,VI d.Row,VI d.B,VI d.H,VI d.Out,VI d.Code,.bool d.jN]:=by obtain⟨c0,r0,e0,h0,n0⟩:=h;have q0:c0=[_]:=h0;obtain⟨c1,r1,e1,h1,n1⟩:=n0;have q1:c1=[_]:=h1;obtain⟨c2,r2,e2,h2,n2⟩:=n1;have q2:c2=[_]:=h2;obtain⟨c3,r3,e3,h3,n3⟩:=n2;have q3:c3=[_]:=h3;obtain⟨c4,r4,e4,h4,n4⟩:=n3;have q4:c4=[_]:=h4;obtain⟨c5,r5,e5,h5,n5⟩:=n4;have q5:c5=[_]:=h5;obtain⟨c6,r6,e6,h6,n6⟩:=n5;have q6:c6=[_]:=h6;obtain⟨c7,r7,e7,h7,n7⟩:=n6;have q7:c7=[_]:=h7;obtain⟨c8,r8,e8,h8,n8⟩:=n7;have q8:c8=[_]:=h8;have q9:r8=[_]:=n8;exact by rw[e0,e1,e2,e3,e4,e5,e6,e7,e8,q0,q1,q2,q3,q4,q5,q6,q7,q8,q9];rfl
theorem bJA{S:cO}(d:Sub):aL.rd S w [VI d.Kind,VI d.A,VI d.Pc,VI d.E,VI d.Row,VI d.B,VI d.H,VI d.Out,VI d.Code,.bool d.jN] d:=⟨[VI d.Kind],[VI d.A,VI d.Pc,VI d.E,VI d.Row,VI d.B,VI d.H,VI d.Out,VI d.Code,.bool d.jN],rfl,rfl,⟨[VI d.A],[VI d.Pc,VI d.E,VI d.Row,VI d.B,VI d.H,VI d.Out,VI d.Code,.bool d.jN],rfl,rfl,⟨[VI d.Pc],[VI d.E,VI d.Row,VI d.B,VI d.H,VI d.Out,VI d.Code,.bool d.jN],rfl,rfl,⟨[VI d.E],[VI d.Row,VI d.B,VI d.H,VI d.Out,VI d.Code,.bool d.jN],rfl,rfl,⟨[VI d.Row],[VI d.B,VI d.H,VI d.Out,VI d.Code,.bool d.jN],rfl,rfl,⟨[VI d.B],[VI d.H,VI d.Out,VI d.Code,.bool d.jN],rfl,rfl,⟨[VI d.H],[VI d.Out,VI d.Code,.bool d.jN],rfl,rfl,⟨[VI d.Out],[VI d.Code,.bool d.jN],rfl,rfl,⟨[VI d.Code],[.bool d.jN],rfl,rfl,rfl⟩⟩⟩⟩⟩⟩⟩⟩⟩
instance:Flat Sub:=⟨λh=>Flat.own_of (O:=Int×Int×Int×Int×Int×Int×Int×Int×Int×Bool) h,λh=>Flat.no (O:=Int×Int×Int×Int×Int×Int×Int×Int×Int×Bool) h⟩
structure Seen where
 cD:Int
 eX:Int
 deriving DecidableEq,Inhabited
abbrev a2M(d:Seen):=(d.cD,d.eX)
instance:aL Seen:=aL.via a2M
instance:Fits Seen:=Fits.via a2M
theorem bFR{S:cO}{cs:List Value}{d:Seen}(h:aL.rd S w cs d):cs=[VI d.cD,VI d.eX]:=by obtain⟨c0,r0,e0,h0,n0⟩:=h;have q0:c0=[_]:=h0;have q1:r0=[_]:=n0;exact by rw[e0,q0,q1];rfl
instance:Flat Seen:=⟨λh=>Flat.own_of (O:=Int×Int) h,λh=>Flat.no (O:=Int×Int) h⟩
theorem bFS(d:Seen):OP [VI d.cD,VI d.eX] d []:=(show OP _ (a2M d) _ from(eP (c1:=[VI d.cD]) (A:=[]) (eB rfl) (eB rfl) rfl))
structure aP where
 Key:Int
 GQ:Bool
 eO:Int
 deriving DecidableEq,Inhabited
abbrev aXC(d:aP):=(d.Key,d.GQ,d.eO)
instance:aL aP:=aL.via aXC
instance:Fits aP:=Fits.via aXC
theorem bBT{S:cO}{cs:List Value}{d:aP}(h:aL.rd S w cs d):cs=[VI d.Key,.bool d.GQ,VI d.eO]:=by obtain⟨c0,r0,e0,h0,n0⟩:=h;have q0:c0=[_]:=h0;obtain⟨c1,r1,e1,h1,n1⟩:=n0;have q1:c1=[_]:=h1;have q2:r1=[_]:=n1;exact by rw[e0,e1,q0,q1,q2];rfl
theorem bBU{S:cO}(d:aP):aL.rd S w [VI d.Key,.bool d.GQ,VI d.eO] d:=⟨[VI d.Key],[.bool d.GQ,VI d.eO],rfl,rfl,⟨[.bool d.GQ],[VI d.eO],rfl,rfl,rfl⟩⟩
instance:Flat aP:=⟨λh=>Flat.own_of (O:=Int×Bool×Int) h,λh=>Flat.no (O:=Int×Bool×Int) h⟩
theorem bBV(d:aP):OP [VI d.Key,.bool d.GQ,VI d.eO] d []:=(show OP _ (aXC d) _ from(eP (c1:=[VI d.Key]) (A:=[]) (eB rfl) (eP (c1:=[.bool d.GQ]) (A:=[]) (eB rfl) (eB rfl) rfl) rfl))
structure cC where
 Is:Bool
 eO:Int
 deriving DecidableEq,Inhabited
abbrev bBW(d:cC):=(d.Is,d.eO)
instance:aL cC:=aL.via bBW
instance:Fits cC:=Fits.via bBW
theorem bJB{S:cO}{cs:List Value}{d:cC}(h:aL.rd S w cs d):cs=[.bool d.Is,VI d.eO]:=by obtain⟨c0,r0,e0,h0,n0⟩:=h;have q0:c0=[_]:=h0;have q1:r0=[_]:=n0;exact by rw[e0,q0,q1];rfl
instance:Flat cC:=⟨λh=>Flat.own_of (O:=Bool×Int) h,λh=>Flat.no (O:=Bool×Int) h⟩
theorem bJC(d:cC):OP [.bool d.Is,VI d.eO] d []:=(show OP _ (bBW d) _ from(eP (c1:=[.bool d.Is]) (A:=[]) (eB rfl) (eB rfl) rfl))
structure aH where
 nE:Bool
 Batch:Batch
 aK:Int
 Pc:Int
 At:Int
 K:Int
 cD:Int
 eX:Int
 H:Int
 g8:Int
 Node:dX
 Found:Bool
 Code:Int
 Sub:Sub
 Reads:List Seen
 aI:List aP
 cC:List cC
 cR:List Int
 bC:List Int
 bL:List Int
 deriving DecidableEq,Inhabited
abbrev a2N(d:aH):=(d.nE,d.Batch,d.aK,d.Pc,d.At,d.K,d.cD,d.eX,d.H,d.g8,d.Node,d.Found,d.Code,d.Sub,d.Reads,d.aI,d.cC,d.cR,d.bC,d.bL)
instance:aL aH:=aL.via a2N
instance:Fits aH:=Fits.via a2N
theorem bFT{S:cO}{cs:List Value}{d:aH}(h:aL.rd S w cs d):∃v0 v1 v2 v3 v4 v5 v6:Value,cs=[.bool d.nE,.bool d.Batch.Collect,v0,VI d.aK,VI d.Pc,VI d.At,VI d.K,VI d.cD,VI d.eX,VI d.H,VI d.g8,VI d.Node.Key,VI d.Node.eO,VI d.Node.Next,.bool d.Found,VI d.Code,VI d.Sub.Kind,VI d.Sub.A,VI d.Sub.Pc,VI d.Sub.E,VI d.Sub.Row,VI d.Sub.B,VI d.Sub.H,VI d.Sub.Out,VI d.Sub.Code,.bool d.Sub.jN,v1,v2,v3,v4,v5,v6]/\aL.rd S w [v0] d.Batch.bD/\aL.rd S w [v1] d.Reads/\aL.rd S w [v2] d.aI/\aL.rd S w [v3] d.cC/\aL.rd S w [v4] d.cR/\aL.rd S w [v5] d.bC/\aL.rd S w [v6] d.bL:=by obtain⟨c0,r0,e0,h0,n0⟩:=h;have q0:c0=[_]:=h0;obtain⟨c1,r1,e1,h1,n1⟩:=n0;obtain⟨u1_0,q1,hq1_0⟩:=aZ4 h1;obtain⟨c2,r2,e2,h2,n2⟩:=n1;have q2:c2=[_]:=h2;obtain⟨c3,r3,e3,h3,n3⟩:=n2;have q3:c3=[_]:=h3;obtain⟨c4,r4,e4,h4,n4⟩:=n3;have q4:c4=[_]:=h4;obtain⟨c5,r5,e5,h5,n5⟩:=n4;have q5:c5=[_]:=h5;obtain⟨c6,r6,e6,h6,n6⟩:=n5;have q6:c6=[_]:=h6;obtain⟨c7,r7,e7,h7,n7⟩:=n6;have q7:c7=[_]:=h7;obtain⟨c8,r8,e8,h8,n8⟩:=n7;have q8:c8=[_]:=h8;obtain⟨c9,r9,e9,h9,n9⟩:=n8;have q9:c9=[_]:=h9;obtain⟨c10,r10,e10,h10,n10⟩:=n9;have q10:=bBR h10;obtain⟨c11,r11,e11,h11,n11⟩:=n10;have q11:c11=[_]:=h11;obtain⟨c12,r12,e12,h12,n12⟩:=n11;have q12:c12=[_]:=h12;obtain⟨c13,r13,e13,h13,n13⟩:=n12;have q13:=bI9 h13;obtain⟨c14,r14,e14,h14,n14⟩:=n13;obtain⟨u14,q14⟩:=iQ h14;rw[q14] at h14;obtain⟨c15,r15,e15,h15,n15⟩:=n14;obtain⟨u15,q15⟩:=iQ h15;rw[q15] at h15;obtain⟨c16,r16,e16,h16,n16⟩:=n15;obtain⟨u16,q16⟩:=iQ h16;rw[q16] at h16;obtain⟨c17,r17,e17,h17,n17⟩:=n16;obtain⟨u17,q17⟩:=iQ h17;rw[q17] at h17;obtain⟨c18,r18,e18,h18,n18⟩:=n17;obtain⟨u18,q18⟩:=iQ h18;rw[q18] at h18;obtain⟨u19,q19⟩:=iQ n18;rw[q19] at n18;exact⟨u1_0,u14,u15,u16,u17,u18,u19,by rw[e0,e1,e2,e3,e4,e5,e6,e7,e8,e9,e10,e11,e12,e13,e14,e15,e16,e17,e18,q0,q1,q2,q3,q4,q5,q6,q7,q8,q9,q10,q11,q12,q13,q14,q15,q16,q17,q18,q19];rfl,hq1_0,h14,h15,h16,h17,h18,n18⟩
theorem aXD(d:aH){v1:Value}{v2:Value}{v3:Value}{v4:Value}{v5:Value}{v6:Value}:OP [.bool d.nE,.bool d.Batch.Collect,v0,VI d.aK,VI d.Pc,VI d.At,VI d.K,VI d.cD,VI d.eX,VI d.H,VI d.g8,VI d.Node.Key,VI d.Node.eO,VI d.Node.Next,.bool d.Found,VI d.Code,VI d.Sub.Kind,VI d.Sub.A,VI d.Sub.Pc,VI d.Sub.E,VI d.Sub.Row,VI d.Sub.B,VI d.Sub.H,VI d.Sub.Out,VI d.Sub.Code,.bool d.Sub.jN,v1,v2,v3,v4,v5,v6] d [cS [v0] d.Batch.bD,cS [v1] d.Reads,cS [v2] d.aI,cS [v3] d.cC,cS [v4] d.cR,cS [v5] d.bC,cS [v6] d.bL]:=(show OP _ (a2N d) _ from(eP (c1:=[.bool d.nE]) (A:=[]) (eB rfl) (eP (c1:=[.bool d.Batch.Collect,v0]) (A:=[cS [v0] d.Batch.bD]) (aPC _) (eP (c1:=[VI d.aK]) (A:=[]) (eB rfl) (eP (c1:=[VI d.Pc]) (A:=[]) (eB rfl) (eP (c1:=[VI d.At]) (A:=[]) (eB rfl) (eP (c1:=[VI d.K]) (A:=[]) (eB rfl) (eP (c1:=[VI d.cD]) (A:=[]) (eB rfl) (eP (c1:=[VI d.eX]) (A:=[]) (eB rfl) (eP (c1:=[VI d.H]) (A:=[]) (eB rfl) (eP (c1:=[VI d.g8]) (A:=[]) (eB rfl) (eP (c1:=[VI d.Node.Key,VI d.Node.eO,VI d.Node.Next]) (A:=[]) (eB (bBS _)) (eP (c1:=[.bool d.Found]) (A:=[]) (eB rfl) (eP (c1:=[VI d.Code]) (A:=[]) (eB rfl) (eP (c1:=[VI d.Sub.Kind,VI d.Sub.A,VI d.Sub.Pc,VI d.Sub.E,VI d.Sub.Row,VI d.Sub.B,VI d.Sub.H,VI d.Sub.Out,VI d.Sub.Code,.bool d.Sub.jN]) (A:=[]) (eB (bJA _)) (eP (c1:=[v1]) (A:=[cS [v1] d.Reads]) MN (eP (c1:=[v2]) (A:=[cS [v2] d.aI]) MN (eP (c1:=[v3]) (A:=[cS [v3] d.cC]) MN (eP (c1:=[v4]) (A:=[cS [v4] d.cR]) MN (eP (c1:=[v5]) (A:=[cS [v5] d.bC]) MN MN rfl) rfl) rfl) rfl) rfl) rfl) rfl) rfl) rfl) rfl) rfl) rfl) rfl) rfl) rfl) rfl) rfl) rfl) rfl))
structure iB where
 Kind:Int
 Who:Int
 aK:Int
 Code:Int
 bD:List iF
 cC:List cC
 deriving DecidableEq,Inhabited
abbrev bBX(d:iB):=(d.Kind,d.Who,d.aK,d.Code,d.bD,d.cC)
instance:aL iB:=aL.via bBX
instance:Fits iB:=Fits.via bBX
theorem bJD{S:cO}{cs:List Value}{d:iB}(h:aL.rd S w cs d):∃v0 v1:Value,cs=[VI d.Kind,VI d.Who,VI d.aK,VI d.Code,v0,v1]/\aL.rd S w [v0] d.bD/\aL.rd S w [v1] d.cC:=by obtain⟨c0,r0,e0,h0,n0⟩:=h;have q0:c0=[_]:=h0;obtain⟨c1,r1,e1,h1,n1⟩:=n0;have q1:c1=[_]:=h1;obtain⟨c2,r2,e2,h2,n2⟩:=n1;have q2:c2=[_]:=h2;obtain⟨c3,r3,e3,h3,n3⟩:=n2;have q3:c3=[_]:=h3;obtain⟨c4,r4,e4,h4,n4⟩:=n3;obtain⟨u4,q4⟩:=iQ h4;rw[q4] at h4;obtain⟨u5,q5⟩:=iQ n4;rw[q5] at n4;exact⟨u4,u5,by rw[e0,e1,e2,e3,e4,q0,q1,q2,q3,q4,q5];rfl,h4,n4⟩
theorem bJE(d:iB){v1:Value}:OP [VI d.Kind,VI d.Who,VI d.aK,VI d.Code,v0,v1] d [cS [v0] d.bD,cS [v1] d.cC]:=(show OP _ (bBX d) _ from(eP (c1:=[VI d.Kind]) (A:=[]) (eB rfl) (eP (c1:=[VI d.Who]) (A:=[]) (eB rfl) (eP (c1:=[VI d.aK]) (A:=[]) (eB rfl) (eP (c1:=[VI d.Code]) (A:=[]) (eB rfl) (eP (c1:=[v0]) (A:=[cS [v0] d.bD]) MN MN rfl) rfl) rfl) rfl) rfl))
structure Table where
 aA:aA
 aW:List cD
 aM:List aH
 bJ:List aO
 Log:List iB
 aK:Int
 deriving DecidableEq,Inhabited
abbrev a5X(d:Table):=(d.aA,d.aW,d.aM,d.bJ,d.Log,d.aK)
instance:aL Table:=aL.via a5X
instance:Fits Table:=Fits.via a5X
end Go.Gv
end
