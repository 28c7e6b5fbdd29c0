import Derived.Test.YtonkeoekmfkaoaaGreatXVB
import Derived.Shelf.Slices.CompactI
import Derived.Shelf.Spec.SlicesInsertGrow
set_option linter.unusedVariables false
set_option linter.unusedSimpArgs false
set_option linter.unusedSectionVars false
set_option linter.constructorNameAsVariable false
set_option linter.unnecessarySimpa false
noncomputable section
namespace Go.Gv
variable{s:AC}{y:Code}{U:Ctx}{fn:Func}{g:FuncId}{i:Int}{rs:List ResultVar}{c3 xs:List SV}{vs:List Value}{id mj n1 n2 n3 t:Nat}{P:Program}{C:Prop}{Ta Tb Tc Td Te Tf Tg Th Ti:Sort _}{J O ex π ρ σ υ:Type}{w:World}{F:cV}
universe u
theorem Q{O:Sort u}{a:O}:a=a:=Eq.refl a
theorem Q2{a:Ta}{b:Tb}:a=a/\b=b:=⟨rfl,rfl⟩
theorem Q3{a:Ta}{b:Tb}{c:Tc}:a=a/\b=b/\c=c:=⟨rfl,rfl,rfl⟩
theorem Q4{a:Ta}{b:Tb}{c:Tc}{d:Td}:a=a/\b=b/\c=c/\d=d:=⟨rfl,rfl,rfl,rfl⟩
theorem Q5{a:Ta}{b:Tb}{c:Tc}{d:Td}{e:Te}:a=a/\b=b/\c=c/\d=d/\e=e:=⟨rfl,rfl,rfl,rfl,rfl⟩
theorem Q6{a:Ta}{b:Tb}{c:Tc}{d:Td}{e:Te}{f:Tf}:a=a/\b=b/\c=c/\d=d/\e=e/\f=f:=⟨rfl,rfl,rfl,rfl,rfl,rfl⟩
theorem Q7{a:Ta}{b:Tb}{c:Tc}{d:Td}{e:Te}{f:Tf}{g:Tg}:a=a/\b=b/\c=c/\d=d/\e=e/\f=f/\g=g:=⟨rfl,rfl,rfl,rfl,rfl,rfl,rfl⟩
theorem Q8{a:Ta}{b:Tb}{c:Tc}{d:Td}{e:Te}{f:Tf}{g:Tg}{h:Th}:a=a/\b=b/\c=c/\d=d/\e=e/\f=f/\g=g/\h=h:=⟨rfl,rfl,rfl,rfl,rfl,rfl,rfl,rfl⟩
theorem Q9{a:Ta}{b:Tb}{c:Tc}{d:Td}{e:Te}{f:Tf}{g:Tg}{h:Th}{i:Ti}:a=a/\b=b/\c=c/\d=d/\e=e/\f=f/\g=g/\h=h/\i=i:=⟨rfl,rfl,rfl,rfl,rfl,rfl,rfl,rfl,rfl⟩
theorem Q10{a:Ta}{b:Tb}{c:Tc}{d:Td}{e:Te}{f:Tf}{g:Tg}{h:Th}{i:Ti}{Tj:Sort _}{j:Tj}:a=a/\b=b/\c=c/\d=d/\e=e/\f=f/\g=g/\h=h/\i=i/\j=j:=⟨rfl,rfl,rfl,rfl,rfl,rfl,rfl,rfl,rfl,rfl⟩
theorem MZ{a:Ta}{b:Tb}{c:Tc}{d:Td}{e:Te}{f:Tf}{g:Tg}{h:Th}{i:Ti}{Tj:Sort _}{j:Tj}{Tk:Sort _}{k:Tk}{Tl:Sort _}{l:Tl}{Tm:Sort _}{m:Tm}:a=a/\b=b/\c=c/\d=d/\e=e/\f=f/\g=g/\h=h/\i=i/\j=j/\k=k/\l=l/\m=m:=⟨rfl,rfl,rfl,rfl,rfl,rfl,rfl,rfl,rfl,rfl,rfl,rfl,rfl⟩
def W{ρ:Type}(C:Prop)(r:ρ)(F:Option ρ):Prop:=F=some r->C
theorem wm{r:ρ}{F F':Option ρ}(h:F'=F)(k:W C r F):W C r F':=h ▸ k
theorem wi{r:ρ}{F:Option ρ}(h:F=some r)(k:W C r F):C:=k h
def VS(P:Program)(c:Ctx)(f:FuncId){ρ ex:Type}(F:Option ρ)(xs:List SV)(B0:Bl)(L0:List Ch)(sv:ρ->ex->SV)(Lf:ρ->ex->List Ch):Prop:=∀r,F=some r->FnS P f c xs B0 L0 sv Lf r
abbrev V0(P:Program)(c:Ctx)(f:FuncId){ρ:Type}(F:Option ρ)(xs:List SV)(sv:ρ->SV):Prop:=VS P c f F xs [] [] (λr (_:Unit)=>sv r) (λ_ _=>[])
theorem VS.r{c:Ctx}{f:FuncId}{F:Option ρ}{B0:Bl}{L0:List Ch}{sv:ρ->ex->SV}{Lf:ρ->ex->List Ch}(h:VS P c f F xs B0 L0 sv Lf){r:ρ}(hF:F=some r):FnS P f c xs B0 L0 sv Lf r:=h r hF
def QR(P:Program)(fn:Func){rs:List ResultVar}(_:fn.results=rs.toArray)(c:Ctx)(B0:Bl){ρ ex:Type}(sv:ρ->ex->SV)(Lf:ρ->ex->List Ch)(r:ρ):Act->World->Prop:=QS P fn c B0 sv Lf r
def a6W(T:TT)(rs:List ResultVar)(is:List Nat)(b0:Nat)(L2:List Ch):Stop->Option (SV×List Ch)
 |.ret m e L=>match aTA T e L rs with
  |some x=>match AQ b0 (nbS x) with
   |true=>match Z9 b0 m e L is b0 [] L2 with
    |some ([],L3)=>some (nbS x,L3)
    |_=>none
   |false=>none
  |none=>none
 |_=>none
def a2Q(is:List Nat)(b0 mj:Nat)(ej:SE)(Lj:List Ch):Stop->Option (SE×List Ch)
 |.fin m e L=>Z9 b0 m e L is mj ej Lj
 |_=>none
def exQ(is:List Nat)(id b0 mj:Nat)(ej:SE)(Lj:List Ch):Stop->Option (SE×List Ch)
 |.ex i m e L=>match Nat.beq i id with
  |true=>Z9 b0 m e L is mj ej Lj
  |false=>none
 |_=>none
def bGQ:Stop->Stop
 |.fin m e L=>.ret m e L
 |_=>.stuck
def ixT(T:TT)(t n:Nat):Bool:=match AU T t with
 |some ⟨.sl el,_,_,_⟩=>match AU T el with
  |some ⟨_,_,sz,_⟩=>Nat.beq n sz
  |none=>false
 |_=>false
section
variable {P:Program} {T:TT} {hT:FY P T} {n:Nat} {c:Ctx} {B0:Bl} {N:Act->World->Prop} {X:Nat->Act->World->Prop} {Q:Act->World->Prop} {K K':List Fr} {m m':Nat} {e e':SE} {L L' Lv:List Ch} {cf cf' cf1 cf2:uB} {o:Oper}
theorem enW(hT:FY P T){f:FuncId}{fn:Func}{cd:Code}{xs:List SV}{L0:List Ch}{ρ ex:Type}{sv:ρ->ex->SV}{Lf:ρ->ex->List Ch}{F:Option ρ}{rs:List ResultVar}(hc:∀args w,(callFunc f args).run P w=.ok (.enter f args) w)(hf:P.funcs[f]?=some fn)(hr:fn.results=rs.toArray)(q0_:fn.body=some cd/\fn.ntmps=n)
  (k:∀{r},W (G (.mk P T hT n c B0 (QR P fn hr c B0 sv Lf r) (λ_ _ _=>False) (QR P fn hr c B0 sv Lf r)) [] B0.length (aSA 0 xs) L0 (.c cd)) r F) (hl:Nat.ble xs.length n=true:=by exact rfl):VS P c f F xs B0 L0 sv Lf:=
 let ⟨hb,hm⟩:=q0_;λ_ hF=>en n hc hf hT hb hm hl (k hF)
theorem a1A{is:List Nat}{b0:Nat}{L2 L3:List Ch}{s:SV}{st:Stop}(h:a6W T rs is b0 L2 st=some (s,L3)):∃m' e' L' x,st=.ret m' e' L'/\aTA T e' L' rs=some x/\nbS x=s/\AQ b0 s=true/\Z9 b0 m' e' L' is b0 [] L2=some ([],L3):=by unfold a6W at h;grind
theorem dV{sv:ρ->ex->SV}{Lf:ρ->ex->List Ch}{r r':ρ}{hr:fn.results=rs.toArray}{zz:Option ρ}(y:ex)(is:List Nat)(q0_:zz=some r'/\a6W T rs is B0.length (Lf r' y) (i4 T n K cf m e L)=some (sv r' y,Lf r' y)):W (G (.mk P T hT n c B0 N X (QR P fn hr c B0 sv Lf r)) K m e L cf) r zz:=let ⟨hz,h⟩:=q0_;λhF=>by obtain⟨_,_,_,_,h1,h2,h3,h4,h5⟩:=a1A h;exact rt y is hF hz h1 hr h2 h3 h4 h5
theorem cD{sv:ρ->Unit->SV}{Lf:ρ->Unit->List Ch}{r r':ρ}{hr:fn.results=rs.toArray}{zz:Option ρ}(q0_:zz=some r'/\a6W T rs [] B0.length (Lf r' ()) (i4 T n K cf m e L)=some (sv r' (),Lf r' ())):W (G (.mk P T hT n c B0 N X (QR P fn hr c B0 sv Lf r)) K m e L cf) r zz:=let ⟨hz,h⟩:=q0_;dV () [] ⟨hz,h⟩
theorem I4{sv:ρ->ex->SV}{Lf:ρ->ex->List Ch}{r r':ρ}{hr:fn.results=rs.toArray}{zz:Option ρ}(y:ex)(is:List Nat)(hz:zz=some r')(h:a6W T rs is B0.length (Lf r' y) (bGQ (i4 T n K cf m e L))=some (sv r' y,Lf r' y)):W (G (.mk P T hT n c B0 (QR P fn hr c B0 sv Lf r) X Q) K m e L cf) r zz:=λhF=>by obtain⟨m',e',L',_,h1,h2,h3,h4,h5⟩:=a1A h;refine rf y is hF hz (m':=m') (e':=e') (L':=L') ?_ hr h2 h3 h4 h5;unfold bGQ at h1;grind
theorem a1B{is:List Nat}{b0:Nat}{ej e3:SE}{Lj L3:List Ch}{st:Stop}(h:a2Q is b0 mj ej Lj st=some (e3,L3)):∃m' e' L',st=.fin m' e' L'/\Z9 b0 m' e' L' is mj ej Lj=some (e3,L3):=by unfold a2Q at h;grind
theorem kM{eq:π->Prop}{ej:π->υ->SE}{Lj:π->υ->List Ch}{p:π}{q:O}{zz:Option O}(u:υ)(is:List Nat)(q0_:(zz=some q)=eq p/\a2Q is B0.length mj (ej p u) (Lj p u) (i4 T n K cf m e L)=some (ej p u,Lj p u)):W (G (.mk P T hT n c B0 (JP n c B0 eq mj ej Lj) X Q) K m e L cf) q zz:=let ⟨hz,h⟩:=q0_;λhF=>by obtain⟨_,_,_,h1,h2⟩:=a1B h;exact jn u is (hz ▸ hF) h1 h2
theorem bI{eq:π->Prop}{ej:π->Unit->SE}{Lj:π->Unit->List Ch}{p:π}{q:O}{zz:Option O}(is:List Nat)(q0_:(zz=some q)=eq p/\a2Q is B0.length mj (ej p ()) (Lj p ()) (i4 T n K cf m e L)=some (ej p (),Lj p ())):W (G (.mk P T hT n c B0 (JP n c B0 eq mj ej Lj) X Q) K m e L cf) q zz:=let ⟨hz,h⟩:=q0_;kM () is ⟨hz,h⟩
theorem nxW{o:Step σ ρ}{el:σ->υ->SE}{Ll:σ->υ->List Ch}{s:σ}(u:υ)(is:List Nat)(h:a2Q is B0.length mj (el s u) (Ll s u) (i4 T n K cf m e L)=some (el s u,Ll s u)):W (G (.mk P T hT n c B0 (NxP n c B0 o mj el Ll) X Q) K m e L cf) o (some (Step.next s)):=λhF=>by obtain⟨_,_,_,h1,h2⟩:=a1B h;exact nx u is hF h1 h2
theorem uL{o:Step σ ρ}{el:σ->Unit->SE}{Ll:σ->Unit->List Ch}{s:σ}(is:List Nat)(h:a2Q is B0.length mj (el s ()) (Ll s ()) (i4 T n K cf m e L)=some (el s (),Ll s ())):W (G (.mk P T hT n c B0 (NxP n c B0 o mj el Ll) X Q) K m e L cf) o (some (Step.next s)):=nxW () is h
def BkR(n:Nat)(c:Ctx)(B0:Bl){J ρ σ υ:Type}{o:Step σ ρ}{ro:ρ}(_:∀p,o=.stop p->p=ro)(enc:J->ρ)(m:Nat)(ej:J->υ->SE)(Lj:J->υ->List Ch)(id:Nat)(X:Nat->Act->World->Prop):Nat->Act->World->Prop:=BkP n c B0 ro enc m ej Lj id X
theorem bkW{o:Step σ ρ}{ro:ρ}{enc:J->ρ}{ej:J->υ->SE}{Lj:J->υ->List Ch}{b:J}{hr:∀p,o=.stop p->p=ro}(u:υ)(is:List Nat)(h:exQ is id B0.length mj (ej b u) (Lj b u) (i4 T n K cf m e L)=some (ej b u,Lj b u)):W (G (.mk P T hT n c B0 N (BkR n c B0 hr enc mj ej Lj id X) Q) K m e L cf) o (some (Step.stop (enc b))):=λhF=>by
 unfold exQ at h;split at h
 ·rename_i h0;split at h
  ·rename_i hb;rw[pM hb] at h0;exact bk u is hF hr h0 h
  ·cases h
 ·cases h
theorem rM{o:Step σ ρ}{ro:ρ}{enc:J->ρ}{ej:J->Unit->SE}{Lj:J->Unit->List Ch}{b:J}{hr:∀p,o=.stop p->p=ro}(is:List Nat)(h:exQ is id B0.length mj (ej b ()) (Lj b ()) (i4 T n K cf m e L)=some (ej b (),Lj b ())):W (G (.mk P T hT n c B0 N (BkR n c B0 hr enc mj ej Lj id X) Q) K m e L cf) o (some (Step.stop (enc b))):=bkW () is h
theorem yG{o:Step σ ρ}{p ro:ρ}{F:ρ->Option O}{q:O}(hr:∀p,o=.stop p->p=ro)(hF:F ro=some q)(k:W C q (F p)):W C o (some (Step.stop p)):=λh=>k (re h rfl hr hF)
section
variable {b:Bool} {O:Type} {A B':Option O} {q:O}
theorem aX{o:Operand}{x:Code}(ss:List Nat)(q0_:i4 T n K cf m e L=.cond o b x y K' m' e' L'/\aW (EO e') ss=some (ss.map λ_=>SV.b b))
  (k1:W (G (.mk P T hT n c B0 N X Q) K' m' (ovr true e' ss) L' (.c x)) q A) (k2:W (G (.mk P T hT n c B0 N X Q) K' m' (ovr false e' ss) L' (.c y)) q B'):W (G (.mk P T hT n c B0 N X Q) K m e L cf) q (if b=true then A else B'):=let ⟨hs,ho⟩:=q0_;λhF=>cs ss hs ho hF k1 k2
theorem a2R{o:Operand}{x:Code}(ss:List Nat)(hs:i4 T n K cf m e L=.cond o b x y K' m' e' L')(ho:aW (EO e') ss=some (ss.map λ_=>SV.b b))
  (k1:b=true->W (G (.mk P T hT n c B0 N X Q) K' m' (ovr true e' ss) L' (.c x)) q A) (k2:b=false->W (G (.mk P T hT n c B0 N X Q) K' m' (ovr false e' ss) L' (.c y)) q B'):W (G (.mk P T hT n c B0 N X Q) K m e L cf) q (if b=true then A else B'):=λhF=>csK ss hs ho hF k1 k2
theorem cY(ss:List Nat)(q0_:i4 T n K cf m e L=.case b cf' K' m' e' L'/\aW (EO e') ss=some (ss.map λ_=>SV.b b))
  (k1:W (G (.mk P T hT n c B0 N X Q) K' m' (ovr true e' ss) L' cf') q A) (k2:W (G (.mk P T hT n c B0 N X Q) K' m' (ovr false e' ss) L' cf') q B'):W (G (.mk P T hT n c B0 N X Q) K m e L cf) q (if b=true then A else B'):=let ⟨hs,ho⟩:=q0_;λhF=>ca ss hs ho hF k1 k2
theorem bIE(ss:List Nat)(hs:i4 T n K cf m e L=.case b cf' K' m' e' L')(ho:aW (EO e') ss=some (ss.map λ_=>SV.b b))
  (k1:b=true->W (G (.mk P T hT n c B0 N X Q) K' m' (ovr true e' ss) L' cf') q A) (k2:b=false->W (G (.mk P T hT n c B0 N X Q) K' m' (ovr false e' ss) L' cf') q B'):W (G (.mk P T hT n c B0 N X Q) K m e L cf) q (if b=true then A else B'):=λhF=>caK ss hs ho hF k1 k2
end
section
variable {O J:Type} {fo:Option O} {kf:O->Option J} {q:J} {d:Nat} {f:FuncId} {xs:List SV}
theorem c0{sv:O->SV}(hs:i4 T n K cf m e L=.call o (some d) f xs cf1 cf2 K' m' e' L')
  (hc:∀{w},HS c w L'->V0 P (eQ w) f fo xs sv) (k:∀x,W (G (.mk P T hT n c B0 N X Q) K' m' ((d,sv x)::e') L' cf2) q (kf x)):W (G (.mk P T hT n c B0 N X Q) K m e L cf) q (fo.bind kf):=λhF=>cl0 hs (λh _ hx=>hc h _ hx) hF λx _ h=>k x h
theorem c1{sv:O->ex->SV}{Lf:O->ex->List Ch}(hs:i4 T n K cf m e L=.call o (some d) f xs cf1 cf2 K' m' e' L')
  (hc:∀{w},HS c w L'->VS P (eQ w) f fo xs [] [] sv Lf) (k:∀x,∀y:ex,W (G (.mk P T hT n c B0 N X Q) K' m' ((d,sv x y)::e') (L'++Lf x y) cf2) q (kf x)) (hn:∀x y,noF (Lf x y)=true:=by exact λ_ _=>rfl):W (G (.mk P T hT n c B0 N X Q) K m e L cf) q (fo.bind kf):=λhF=>cl hs hn (λh _ hx=>hc h _ hx) hF λx _ h y=>k x y h
theorem mN{J:Type}{kf:O->Option J}{q:J}{iR:aL O}(C:GA O){d:Nat}{ls:List O}(hs:i4 T n K cf m e L=.idx o d t s ls.length i Lv cf1 cf2 K' m' e' L')(h1:bB c s ls)(ht:ixT T t (aL.n O)=true)
  (k:∀x,∀y:C.ex,C.sub c.S0 c.w0 x y->W (G (.mk P T hT n c B0 N X Q) K' (m'+1) ((d,.p m' 0)::e') (L'++[.ro m' (C.cs x y)]) (cf2.ext [.ro m' (C.cs x y)])) q (kf x)):W (G (.mk P T hT n c B0 N X Q) K m e L cf) q ((idx ls i).bind kf):=λhF=>by
 unfold ixT at ht;split at ht
 ·rename_i h2;split at ht
  ·rename_i h3;exact ix C hs h1 hF h2 h3 (pM ht) λx _ h y hy=>k x y hy h
  ·cases ht
 ·cases ht
theorem UB{J:Type}{kf:Int->Option J}{q:J}{d:Nat}{ls:List Int}(hs:i4 T n K cf m e L=.idx o d t s ls.length i Lv cf1 cf2 K' m' e' L')(h1:bB c s ls)(ht:ixT T t 1=true)
  (k:∀x,W (G (.mk P T hT n c B0 N X Q) K' (m'+1) ((d,.p m' 0)::e') (L'++[.ro m' [.i .i64 x]]) (cf2.ext [.ro m' [.i .i64 x]])) q (kf x)):W (G (.mk P T hT n c B0 N X Q) K m e L cf) q ((idx ls i).bind kf):=mN cI hs h1 ht λx _ _=>k x
theorem dQ(hm:P.follows .mixedOrders=true){ops:Array Oper}{zz:Option J}(is:List Nat)(hs:i4 T n K cf m e L=.rgn id ops K' m' e' L')
  (k:∀{B1},W (G (.mk P T hT n c B0 N X Q) K' m' e' L' (.d B1 ops (List.replicate ops.size false) is (kl L' is) (kl L' is))) q zz) (hf:(aVQ ops && (okL m' (kl L' is) && (dJ is && is.all λj=>Nat.blt j L'.length)))=true:=by kernel_rfl):W (G (.mk P T hT n c B0 N X Q) K m e L cf) q zz:=λhF=>dr is hs hm hf λ_=>k hF
theorem cH{zz:Option J}(j mj:Nat)(Fj:π->Option J)(ks:List Nat)(ej:π->υ->SE)(is:List Nat)(Lj:π->υ->List Ch)(hs:T3 (i4 T n K cf m e L)=some (K',cf',m',e',L'))
  (k1:W (G (.mk P T hT n c B0 (JP n c B0 (λp=>Fj p=some q) mj (λp u=>ej p u++kp e' ks) (λp u=>Lj p u++kl L' is)) (XK (.mk P T hT n c B0 N X Q) (K'.drop j)) Q) (K'.take j) m' e' L' cf') q zz)
  (k2:∀p u,W (G (.mk P T hT n c B0 N X Q) (K'.drop j) mj (ej p u++kp e' ks) (Lj p u++kl L' is) .n) q (Fj p)):W (G (.mk P T hT n c B0 N X Q) K m e L cf) q zz:=λhF=>cut j mj (λp=>Fj p=some q) ks ej is Lj hs (k1 hF) λp u h=>k2 p u h
theorem dI{zz:Option J}(j mj:Nat)(Fj:Bool->Option J)(ks:List Nat)(v:Nat)(is:List Nat)(hs:T3 (i4 T n K cf m e L)=some (K',cf',m',e',L'))
  (k1:W (G (.mk P T hT n c B0 (JP n c B0 (λp=>Fj p=some q) mj (λp (_:Unit)=>[(v,.b p)]++kp e' ks) (λ_ _=>[]++kl L' is)) (XK (.mk P T hT n c B0 N X Q) (K'.drop j)) Q) (K'.take j) m' e' L' cf') q zz)
  (k2:∀p,W (G (.mk P T hT n c B0 N X Q) (K'.drop j) mj ([(v,.b p)]++kp e' ks) ([]++kl L' is) .n) q (Fj p)):W (G (.mk P T hT n c B0 N X Q) K m e L cf) q zz:=cH j mj Fj ks (λp (_:Unit)=>[(v,.b p)]) is (λ_ _=>[]) hs k1 λp _=>k2 p
theorem LX{γ ω:Type}{fb:σ->Option (Step σ ρ)}{s0:σ}{gk:ρ->Option J}(u0:υ)(ks:List Nat)(el:σ->υ->SE)(is0 is:List Nat)(Ll:σ->υ->List Ch)(enc:γ->ρ)(kb:List Nat)(ej:γ->ω->SE)(ib:List Nat)(Lj:γ->ω->List Ch)
  (hs:i4 T n K cf m e L=.loop id y K' m' e' L')
  (h0:Z9 B0.length m' e' L' is0 m' (el s0 u0++kp e' ks) (Ll s0 u0++kl L' is)=some (el s0 u0++kp e' ks,Ll s0 u0++kl L' is))
  (k1:∀{ro o},gk ro=some q->∀s u,(hr:∀p,o=.stop p->p=ro)->W (G (.mk P T hT n c B0 (NxP n c B0 o m' (λs u=>el s u++kp e' ks) (λs u=>Ll s u++kl L' is)) (BkR n c B0 hr enc m' (λb u=>ej b u++kp e' kb) (λb u=>Lj b u++kl L' ib) id (XK (.mk P T hT n c B0 N X Q) K')) Q) [] m' (el s u++kp e' ks) (Ll s u++kl L' is) (.c y)) o (fb s))
  (k2:∀b u,W (G (.mk P T hT n c B0 N X Q) K' m' (ej b u++kp e' kb) (Lj b u++kl L' ib) .n) q (gk (enc b))):W (G (.mk P T hT n c B0 N X Q) K m e L cf) q ((loop fb s0).bind gk):=λhF=>
 lp u0 ks el is0 is Ll enc kb ej ib Lj hs hF h0 (λro h1 s u o h2 h3=>k1 h1 s u h3 h2) λb u h=>k2 b u h
theorem DM{fb:Int->Option (Step Int ρ)}{s0:Int}{gk:ρ->Option J}(v:Nat)(ks:List Nat)(is:List Nat)(enc:Unit->ρ)(kb:List Nat)(ib:List Nat)
  (hs:i4 T n K cf m e L=.loop id y K' m' e' L')
  (h0:Z9 B0.length m' e' L' is m' ([(v,.i .i64 s0)]++kp e' ks) ([]++kl L' is)=some ([(v,.i .i64 s0)]++kp e' ks,[]++kl L' is))
  (k1:∀{ro o},gk ro=some q->∀s,(hr:∀p,o=.stop p->p=ro)->W (G (.mk P T hT n c B0 (NxP n c B0 o m' (λs (_:Unit)=>[(v,.i .i64 s)]++kp e' ks) (λ_ _=>[]++kl L' is)) (BkR n c B0 hr enc m' (λ_ (_:Unit)=>[]++kp e' kb) (λ_ _=>[]++kl L' ib) id (XK (.mk P T hT n c B0 N X Q) K')) Q) [] m' ([(v,.i .i64 s)]++kp e' ks) ([]++kl L' is) (.c y)) o (fb s))
  (k2:W (G (.mk P T hT n c B0 N X Q) K' m' ([]++kp e' kb) ([]++kl L' ib) .n) q (gk (enc ()))):W (G (.mk P T hT n c B0 N X Q) K m e L cf) q ((loop fb s0).bind gk):=
 LX () ks (λs (_:Unit)=>[(v,.i .i64 s)]) is is (λ_ _=>[]) enc kb (λ_ (_:Unit)=>[]) ib (λ_ _=>[]) hs h0 (λh s _ hr=>k1 h s hr) λ_ _=>k2
theorem lrW{fb:σ->Option (Step σ ρ)}{s0:σ}{gk:ρ->Option J}(u0:υ)(ks:List Nat)(el:σ->υ->SE)(is0 is:List Nat)(Ll:σ->υ->List Ch)
  (hs:i4 T n K cf m e L=.loop id y K' m' e' L')
  (h0:Z9 B0.length m' e' L' is0 m' (el s0 u0++kp e' ks) (Ll s0 u0++kl L' is)=some (el s0 u0++kp e' ks,Ll s0 u0++kl L' is))
  (k1:∀{ro o},gk ro=some q->∀s u,(hr:∀p,o=.stop p->p=ro)->W (G (.mk P T hT n c B0 (NxP n c B0 o m' (λs u=>el s u++kp e' ks) (λs u=>Ll s u++kl L' is)) (BkP n c B0 ro (λb:Empty=>nomatch b) m' (λ(b:Empty) (_:Unit)=>nomatch b) (λb _=>nomatch b) id (XK (.mk P T hT n c B0 N X Q) K')) Q) [] m' (el s u++kp e' ks) (Ll s u++kl L' is) (.c y)) o (fb s)):W (G (.mk P T hT n c B0 N X Q) K m e L cf) q ((loop fb s0).bind gk):=λhF=>
 lr u0 ks el is0 is Ll hs hF h0 λro h1 s u o h2 h3=>k1 h1 s u h3 h2
theorem iA{J:Type}{kf:O->Option J}{q:J}[aL O](E:CO O)(j:Nat){t:TypeId}{ls:List O}(q0_:i4 T n K cf m e L=.idx o d t s ls.length i Lv cf1 cf2 K' m' e' L'/\L'[j]?=some (ow s ls)/\fX j cf1.AR=true)
  (k:∀x,idx ls i=some x->∀y:E.ex,Shp s ls.length->W (G (.mk P T hT n c B0 N X Q) K' (m'+1) e' (L'.set j .no++([.o (pP (s.v ls.length) ls i.toNat),.box m' (E.cs x y),wOf O m' s ls.length i.toNat]++E.Lx x y)) (cf1.ext [wOf O m' s ls.length i.toNat])) q (kf x)):W (G (.mk P T hT n c B0 N X Q) K m e L cf) q ((idx ls i).bind kf):=let ⟨hs,hj,hz⟩:=q0_;λhF=>oe E j hs hj hz hF λx h1 h2 y h3=>k x h1 y h3 h2
end
section
variable {O J ex:Type} {fo:Option O} {kf:O->Option J} {q:J} {d:Option Nat} {f:FuncId} {xs xs0:List SV} {M:List Ch} {sv:O->ex->SV} {Lr:O->ex->List Ch}
theorem iB(is:List Nat)
  (q0_:cpS (i4 T n K cf m e L)=some (o,d,f,xs,cf1,cf2,K',m',e',L')/\aW (λi=>L'[i]?) is=some M/\aW (rnP [] 0) xs=some xs0/\(I3 M && (dJ is && is.all λj=>fX j cf1.AR))=true)
  (hc:∀{U:Ctx},HG c U L' is->VS P U f fo xs0 [] M sv Lr)
  (k:∀x,∀y:ex,W (G (.mk P T hT n c B0 N X Q) K' m' (dse d (sv x y) e') (L4 L' is++Lr x y) cf2) q (kf x)) (hn:∀x y,(I3 (Lr x y) && AQ 0 (sv x y))=true:=by exact λ_ _=>rfl):W (G (.mk P T hT n c B0 N X Q) K m e L cf) q (fo.bind kf):=let ⟨hs,hi,hx,hk⟩:=q0_;λhF=>
 cw0 is hs hi hx hk hn (λh _ hx=>hc h _ hx) hF λx _ h y=>k x y h
theorem fH{c1:List SV}{a1:O->ex->List SV}(i1 n1 o1 k1:Nat)(is:List Nat)
  (q0_:cpS (i4 T n K cf m e L)=some (o,d,f,xs,cf1,cf2,K',m',e',L')/\aMI L' [(i1,n1,o1,k1)]=some [c1]/\aW (λi=>L'[i]?) is=some M/\aW (rnP [(i1,n1,o1,k1)] 0) xs=some xs0/\(I3 M && ([c1].all (AQ.okC 0) && (dJ (i1::is) && (i1::is).all λj=>fX j cf1.AR)))=true)
  (hc:∀{U:Ctx},HG c U L' (i1::is)->∀{b1:Nat×Nat},VS P U f fo xs0 [b1] (.box 0 c1::M) sv (λx y=>.box 0 (a1 x y)::Lr x y))
  (k:∀x,∀y:ex,W (G (.mk P T hT n c B0 N X Q) K' m' (dse d (sv x y) e') (QD L' (L4 L' (i1::is)++Lr x y) [(i1,n1,o1,k1)] [a1 x y]) cf2) q (kf x)) (hn:∀x y,(aD1 [(i1,n1,o1,k1)] [a1 x y] && ([a1 x y].all (AQ.okC 0) && (I3 (Lr x y) && AQ 0 (sv x y))))=true:=by exact λ_ _=>rfl):W (G (.mk P T hT n c B0 N X Q) K m e L cf) q (fo.bind kf):=let ⟨hs,hb,hi,hx,hk⟩:=q0_;λhF=>
 cw1 i1 n1 o1 k1 is hs hb hi hx hk hn (λh _ _ hx=>hc h _ hx) hF λx _ h y=>k x y h
theorem aTP{c1 c2:List SV}{a1 a2:O->ex->List SV}(i1 n1 o1 k1:Nat)(i2 n2 o2 k2:Nat)(is:List Nat)
  (hs:cpS (i4 T n K cf m e L)=some (o,d,f,xs,cf1,cf2,K',m',e',L')) (hb:aMI L' [(i1,n1,o1,k1),(i2,n2,o2,k2)]=some [c1,c2]) (hi:aW (λi=>L'[i]?) is=some M) (hx:aW (rnP [(i1,n1,o1,k1),(i2,n2,o2,k2)] 0) xs=some xs0)
  (hk:(I3 M && ([c1,c2].all (AQ.okC 0) && (dJ (i1::i2::is) && (i1::i2::is).all λj=>fX j cf1.AR)))=true)
  (hc:∀{U:Ctx},HG c U L' (i1::i2::is)->∀{b1 b2:Nat×Nat},VS P U f fo xs0 [b1,b2] (.box 0 c1::.box 1 c2::M) sv (λx y=>.box 0 (a1 x y)::.box 1 (a2 x y)::Lr x y))
  (k:∀x,∀y:ex,W (G (.mk P T hT n c B0 N X Q) K' m' (dse d (sv x y) e') (QD L' (L4 L' (i1::i2::is)++Lr x y) [(i1,n1,o1,k1),(i2,n2,o2,k2)] [a1 x y,a2 x y]) cf2) q (kf x)) (hn:∀x y,(aD1 [(i1,n1,o1,k1),(i2,n2,o2,k2)] [a1 x y,a2 x y] && ([a1 x y,a2 x y].all (AQ.okC 0) && (I3 (Lr x y) && AQ 0 (sv x y))))=true:=by exact λ_ _=>rfl):W (G (.mk P T hT n c B0 N X Q) K m e L cf) q (fo.bind kf):=λhF=>
 cw2 i1 n1 o1 k1 i2 n2 o2 k2 is hs hb hi hx hk hn (λh _ _ _ hx=>hc h _ hx) hF λx _ h y=>k x y h
theorem bIF{c1 c2:List SV}{a1 a2 a3:O->ex->List SV}(i1 n1 o1 k1:Nat)(i2 n2 o2 k2:Nat)(i3 n3 o3 k3:Nat)(is:List Nat)
  (hs:cpS (i4 T n K cf m e L)=some (o,d,f,xs,cf1,cf2,K',m',e',L')) (hb:aMI L' [(i1,n1,o1,k1),(i2,n2,o2,k2),(i3,n3,o3,k3)]=some [c1,c2,c3]) (hi:aW (λi=>L'[i]?) is=some M) (hx:aW (rnP [(i1,n1,o1,k1),(i2,n2,o2,k2),(i3,n3,o3,k3)] 0) xs=some xs0)
  (hk:(I3 M && ([c1,c2,c3].all (AQ.okC 0) && (dJ (i1::i2::i3::is) && (i1::i2::i3::is).all λj=>fX j cf1.AR)))=true)
  (hc:∀{U:Ctx},HG c U L' (i1::i2::i3::is)->∀{b1 b2 b3:Nat×Nat},VS P U f fo xs0 [b1,b2,b3] (.box 0 c1::.box 1 c2::.box 2 c3::M) sv (λx y=>.box 0 (a1 x y)::.box 1 (a2 x y)::.box 2 (a3 x y)::Lr x y))
  (k:∀x,∀y:ex,W (G (.mk P T hT n c B0 N X Q) K' m' (dse d (sv x y) e') (QD L' (L4 L' (i1::i2::i3::is)++Lr x y) [(i1,n1,o1,k1),(i2,n2,o2,k2),(i3,n3,o3,k3)] [a1 x y,a2 x y,a3 x y]) cf2) q (kf x)) (hn:∀x y,(aD1 [(i1,n1,o1,k1),(i2,n2,o2,k2),(i3,n3,o3,k3)] [a1 x y,a2 x y,a3 x y] && ([a1 x y,a2 x y,a3 x y].all (AQ.okC 0) && (I3 (Lr x y) && AQ 0 (sv x y))))=true:=by exact λ_ _=>rfl):W (G (.mk P T hT n c B0 N X Q) K m e L cf) q (fo.bind kf):=λhF=>
 cw3 i1 n1 o1 k1 i2 n2 o2 k2 i3 n3 o3 k3 is hs hb hi hx hk hn (λh _ _ _ _ hx=>hc h _ hx) hF λx _ h y=>k x y h
end
theorem aML{iR:aL O}{C:GA O}{sr:J->SV}{p:O->Option J}(hc:∀args w,(callFunc g args).run P w=.ok (.enter g args) w)(hn:∀{U:Ctx} {x y},C.sub U.S0 U.w0 x y->V0 P U g (p x) [C.sv x y] sr):Fu1 P (eQ w) C sr g [] p:=fu1 hc (by intro U x y h q hq;exact hn h _ hq)
theorem aQC{iR:aL O}{C:GA O}{sr:J->SV}{Bs:Bl}{cs:List (Nat×List SV)}{p:O->Option J}(hc:∀args w,(callFunc g args).run P w=.ok (.enter g args) w)(hB:∀w1,eJ F0 w w1->mM (eQ w1) w1 Bs (roL 0 cs))(hl:aW (fJ Bs) (a56 0 cs)=some (T9 Bs))(hn:∀{w1 x y},eJ F0 w w1->C.sub (All w1) w1 x y->VS P (eQ w1) g (p x) (C.sv x y::a56 0 cs) Bs (roL 0 cs) (λr (_:Unit)=>sr r) (λ_ _=>[]))(hz:∀q,AQ 0 (sr q)=true:=by exact λ_=>rfl):Fu1 P (eQ w) C sr g (T9 Bs) p:=fk1 hc hB hl hz (by intro w1 x y h h' q hq;exact hn h h' _ hq)
section
variable {O J:Type} {fo:Option O} {kf:O->Option J} {q:J} {d:Nat} {f g:FuncId} {xs:List SV} {sv:O->SV}
theorem aQD{c1:List SV}(is:List Nat)(hs:i4 T n K cf m e L=.callp o (some d) f xs cf1 cf2 K' m' e' L')(hk:kl L' is=[.ro n1 c1])(ho:(aVW [(n1,c1)] && okA xs.dropLast)=true)(hx:xs=xs.dropLast++[.f g [n1]])
  (hc:∀{w},HS c w L'->∀{b1:Nat×Nat},(∀w1,eJ F0 w w1->mM (eQ w1) w1 [b1] [.ro 0 c1])->V0 P (eQ w) f fo (xs.dropLast++[.k (.func (.func g) #[] (T9 [b1]).toArray)]) sv)
  (k:∀x,W (G (.mk P T hT n c B0 N X Q) K' m' ((d,sv x)::e') L' cf2) q (kf x)):W (G (.mk P T hT n c B0 N X Q) K m e L cf) q (fo.bind kf):=λhF=>
 bH5 is hs hk ho hx (λh _ h2 _ hx=>hc h h2 _ hx) hF λx _ h=>k x h
end
end
def pV(y:Nat×Nat):Value:=.pointer (some ⟨y.1,y.2,none⟩)
section
variable {P:Program} {T:TT} {hT:FY P T} {n:Nat} {c:Ctx} {B0:Bl} {N:Act->World->Prop} {X:Nat->Act->World->Prop} {Q:Act->World->Prop} {K K':List Fr} {m m':Nat} {e e':SE} {L L':List Ch} {cf cf1 cf2:uB} {o:Oper}
abbrev VP(P:Program)(c:Ctx)(f:FuncId){ρ:Type}(F:Option ρ)(xs:List SV)(cs:ρ->List SV):Prop:=VS P c f F xs [] [] (λ_ (y:Nat×Nat)=>.k (pV y)) (λr y=>[.o (VE [y] 0 (cs r))])
theorem rtP{r r':ρ}{hr:fn.results=[ResultVar.tmp t].toArray}{zz:Option ρ}{cs:ρ->List SV}(is:List Nat)(hz:zz=some r')(hs:i4 T n K cf m e L=.ret m' e' L')(hL:Z9 0 m' e' L' is 1 [(t,.p 0 0)] [.box 0 (cs r')]=some ([(t,.p 0 0)],[.box 0 (cs r')]))(ho:AQ.okC 0 (cs r')=true):W (G (.mk P T hT n c [] N X (QR P fn hr c [] (λ_ (y:Nat×Nat)=>.k (pV y)) (λr y=>[.o (VE [y] 0 (cs r))]) r)) K m e L cf) r zz:=λhF=>by
 subst hz;cases hF;refine gW (g:=.mk P T hT n c [] N X _) ?_;rw[hs];intro a w hr';obtain⟨B,hm,hA,hS⟩:=pQ.Z9 hr' is hL;have hB:∃y,B=[y]:=by
  cases B with
  |nil=>simp at hm
  |cons y B=>grind
 obtain⟨y,rfl⟩:=hB;have hS:mM c w [y] [.box 0 (cs r)]:=hS;have hA:gU n [y] [(t,.p 0 0)] a:=hA;have hv:aTA T [(t,.p 0 0)] [.box 0 (cs r)] [ResultVar.tmp t]=some (.p 0 0):=by simp[aTA,a5I,EO]
 obtain⟨v,h1,h2⟩:=aK7 hr hT hA hS hv;have hv':v=pV y:=by simp only[fJ,gV,bU,List.getElem?_cons_zero] at h1;cases h1;rfl
 subst hv';refine⟨hA.d,_,h2,y,by grind[fJ,gV,bU,Value.oneCell'],?_⟩;obtain⟨⟨R,s1,s2⟩,s0⟩:=hS;exact⟨⟨R,s1.imp (.cons (λF h=>h) .nil),λx hx=>by rcases vJ.1 hx with rfl|hx<;>first|trivial|simp at hx⟩,s0⟩
theorem cP{fo:Option O}{kf:O->Option J}{q:J}{d:Nat}{f:FuncId}{cs:O->List SV}(hs:i4 T n K cf m e L=.call o (some d) f xs cf1 cf2 K' m' e' L')
  (hc:∀{w},HS c w L'->VP P (eQ w) f fo xs cs) (k:∀x,W (G (.mk P T hT n c B0 N X Q) K' (m'+1) ((d,.p m' 0)::e') (L'++[.box m' (cs x)]) cf2) q (kf x)) (hk:∀x,AQ.okC 0 (cs x)=true:=by exact λ_=>rfl):W (G (.mk P T hT n c B0 N X Q) K m e L cf) q (fo.bind kf):=λhF=>by
 refine gW (g:=.mk P T hT n c B0 N X Q) ?_;rw[hs];intro fo' args ats ho hd hf ⟨ys,hys,hxs⟩ hA0 hdn hE;subst hxs;cases hfo:fo with
 |none=>grind
 |some x=>
  rw[hfo] at hF;refine hE Unit (λ_=>m'+1) (λ_=>(d,.p m' 0)::e') (λ_=>L'++[.box m' (cs x)]) (λ_=>rL _) (λB a w next Q' hm hA hS hnext=>?_) (λ_=>k x hF);obtain⟨hcall,hrun⟩:=hc ⟨_,hS⟩ x hfo;obtain⟨vs,h1,h2⟩:=aBN hA hys;obtain⟨v,h3,h4⟩:=eH hA hf;simp[fJ,aW] at h3;subst h3;have h5:=hrun vs (aD0 hA0 (by rw[QU];exact h1)) (a2N w);have h6:=T8 (w:=w) hcall ho h4 h2;unfold Oper.wp;rw[h6 _ a hA.env,Oper.upon_enter];refine Calls.mono h5 λen w' ⟨v,hv,y,g1,g2⟩=>?_;subst hv;rw[hd];have hv':v=pV y:=by grind[fJ,gV,bU]
  subst hv';have hb:∀{F:cV},(VE [y] 0 (cs x)).P w' F->(VE ((B0S (.mk P T hT n c B0 N X Q) cf1++B)++[y]) m' (cs x)).P w' F:=λ⟨b,z,us,k1,k2,k3⟩=>by
   simp only[List.getElem?_cons_zero,Option.some.injEq] at k1;refine⟨y.1,y.2,us,?_,?_,aj⟩
   ·grind
   ·simpa using eY (λx v h=>by simpa using gD (B:=[]) (B0S (.mk P T hT n c B0 N X Q) cf1++B++[y]) h) (DL (hk x) k2)
  have g3:fJ ((B0S (.mk P T hT n c B0 N X Q) cf1++B)++[y]) (.p m' 0)=some (pV y):=by grind[fJ,gV,bU,pV]
  refine hnext () _ _ ⟨[y],aj,hA.ext g3 (hA.env.put (by grind[rY,yI]) _),?_⟩;obtain⟨⟨R,s1,s2⟩,s0⟩:=(hS.after (L2:=[.o (VE [y] 0 (cs x))]) rfl g2).app [y];refine⟨⟨R,s1.imp ?_,λz hz=>?_⟩,s0⟩
  ·rw[BR,BR];exact jI.append (jI.refl _) (.cons (λF h=>hb h) .nil)
  ·rcases iO.1 hz with hz|hz
   ·grind
   ·rcases vJ.1 hz with rfl|hz<;>first|trivial|simp at hz
def bEA(b:Bool)(off sz:Nat)(cs:List SV):Option SV:=match b with
 |true=>some (.g ((cs.drop off).take sz))
 |false=>match cs[off]? with
  |some x=>match x with
   |.g _=>none
   |.t _=>none
   |.f _ _=>none
   |.u=>none
   |y=>some y
  |none=>none
theorem bIG{F0:Option O}{q:O}{ix sz d:Nat}{b:Bool}{k:TK}{z cs:List SV}{Fs:Array Field}{F:Field}{x:Operand}{r:SV}{Lv:List Ch}(hu:P.underlying t=some (.struct Fs))(hf:Fs[ix]?=some F)(hl:AU T F.type=some ⟨k,b,sz,z⟩)(hs:opS (i4 T n K cf m e L)=some (o,Lv,cf1,cf2,K',m',e',L'))(ho:(o.op,o.dst)=(.field t x ix,some d))(hx:iL e' x=some (.g cs))(hr:bEA b F.offset sz cs=some r)(hz:(!b || Nat.ble (F.offset+sz) cs.length)=true)
  (kk:W (G (.mk P T hT n c B0 N X Q) K' m' ((d,r)::e') L' cf2) q F0):W (G (.mk P T hT n c B0 N X Q) K m e L cf) q F0:=λhF=>
 pu hs (dA Prod.snd ho) (λB a w hA _=>by
  obtain⟨v,h1,h2⟩:=eH hA hx;simp only[fJ,gV] at h1;split at h1
  case h_2=>cases h1
  rename_i vs hv;cases h1;have hlen:=lI hv;have h0:o.op=.field t x ix:=dA Prod.fst ho;have hag:=hT.agg _ _ hl;have hsz:=hT.size _ _ hl;cases b with
  |true=>
   have hz':=TX (by simpa using hz);simp only[bEA] at hr;cases hr;refine⟨.agg ((vs.drop F.offset).take sz).toArray,by grind[fJ,gV,T6,T5],λ_ a hA=>?_⟩;have e:vs.toArray.extract F.offset (F.offset+sz)=((vs.drop F.offset).take sz).toArray:=ae
   simp[execOp,h0,hA.eval h2,Instr.field,run_underlying hu,hf,part,asAgg,hag,hsz,e]
  |false=>
   simp only[bEA] at hr;split at hr
   case h_2=>cases hr
   rename_i y hy;obtain⟨u,h4,h5⟩:=T4 hv hy;have hr':r=y:=aj
   subst hr';refine⟨u,a0I h4,λ_ a hA=>?_⟩;simp[execOp,h0,hA.eval h2,Instr.field,run_underlying hu,hf,part,asAgg,hag,h5]) (kk hF)
end
section
variable {n:Nat} {c:Ctx} {B0:Bl} {m:Nat} {e:SE} {L:List Ch}
def kf(L xs:List Ch)(k:Nat):List Nat->List Ch
 |[]=>[]
 |i::is=>match Nat.blt i k with
  |true=>match L[i]? with
   |some x=>x::kf L xs k is
   |none=>kf L xs k is
  |false=>match xs[i-k]? with
   |some x=>x::kf L xs k is
   |none=>kf L xs k is
end
section
variable {P:Program} {T:TT} {hT:FY P T} {n:Nat} {c:Ctx} {B0:Bl} {N:Act->World->Prop} {X:Nat->Act->World->Prop} {Q:Act->World->Prop} {K K':List Fr} {m m':Nat} {e e':SE} {L L' Lv:List Ch} {cf cf' cf1 cf2:uB} {o:Oper}
theorem aV8{O J:Type}{f:O->Option J}:∀{xs ys:List O} {vs:List J},aW f (xs++ys)=some vs->∃v1 v2,aW f xs=some v1/\aW f ys=some v2/\vs=v1++v2
 |[],ys,vs,h=>⟨[],vs,rfl,h,rfl⟩
 |x::xs,ys,vs,h=>by
  simp only[aBH,aW] at h;split at h
  ·cases h
  ·rename_i h1;split at h
   ·cases h
   ·rename_i h2;cases h;obtain⟨v1,v2,q1,q2,rfl⟩:=aV8 h2;grind[aW]
theorem aV9{O J:Type}{f:O->Option J}:∀{xs ys:List O} {v1 v2:List J},aW f xs=some v1->aW f ys=some v2->aW f (xs++ys)=some (v1++v2)
 |[],ys,v1,v2,h1,h2=>by cases h1;exact h2
 |x::xs,ys,v1,v2,h1,h2=>by
  simp only[aW] at h1;split at h1
  ·cases h1
  ·rename_i g1;split at h1
   ·cases h1
   ·rename_i g2;cases h1;simp[aW,g1,aV9 g2 h2]
theorem bIH{iR:aL O}{C:GA O}{sr:J->SV}{b1:Nat×Nat}{c1:List SV}{p:O->Option J}(hc:∀args w,(callFunc g args).run P w=.ok (.enter g args) w)(hB:∀w1,eJ U.W U.w0 w1->mM (eQ w1) w1 [b1] [.ro 0 c1])
  (hn:∀{w1 x y},C.sub (All w1) w1 x y->VS P (eQ w1) g (p x) [C.sv x y,.p 0 0] [b1] [.ro 0 c1] (λr (_:Unit)=>sr r) (λ_ _=>[])) (hz:∀q,AQ 0 (sr q)=true:=by exact λ_=>rfl):Fu1 P U C sr g (T9 [b1]) p:=
 ⟨hc,λw1 hk x y hy q hq v hv=>by
  have hv':fJ [b1] (C.sv x y)=some v:=by simpa using xN (B:=[]) [b1] hv
  have hl:fJ [b1] (.p 0 0)=some (.pointer (some ⟨b1.1,b1.2,none⟩)):=by simp[fJ,gV,bU]
  refine Calls.mono ((hn hy _ hq).run (v::T9 [b1]) (by grind[aW,T9]) (hB w1 hk)) λen w' ⟨v',h1,y',h2,h3⟩=>⟨v',h1,?_,?_⟩
  ·grind[aSC]
  ·simpa using aDW (m:=0) h3 rfl⟩
theorem bII{fo:Option O}{kf:O->Option J}{q:J}{d:Option Nat}{f:FuncId}{xs0:List SV}{M:List Ch}{sv:O->ex->SV}{Lr:O->ex->List Ch}{c1:List SV}(jc:Nat)(is:List Nat)
  (hs:cpS (i4 T n K cf m e L)=some (o,d,f,xs,cf1,cf2,K',m',e',L')) (hro:L'[jc]?=some (.ro n1 c1)) (hi:aW (λi=>L'[i]?) is=some M) (hxl:xs=xs.dropLast++[.f g [n1]]) (hx:aW (rnP [] 0) xs.dropLast=some xs0)
  (hk:(AQ.okC 0 c1 && (I3 M && (dJ is && is.all λj=>fX j cf1.AR)))=true)
  (hc:∀{U:Ctx},HG c U L' is->∀{b1:Nat×Nat},(∀w1,eJ U.W U.w0 w1->mM (eQ w1) w1 [b1] [.ro 0 c1])->VS P U f fo (xs0++[.k (.func (.func g) #[] (T9 [b1]).toArray)]) [] M sv Lr)
  (k:∀x,∀y:ex,W (G (.mk P T hT n c B0 N X Q) K' m' (dse d (sv x y) e') (L4 L' is++Lr x y) cf2) q (kf x)) (hn:∀x y,(I3 (Lr x y) && AQ 0 (sv x y))=true:=by exact λ_ _=>rfl):W (G (.mk P T hT n c B0 N X Q) K m e L cf) q (fo.bind kf):=λhF=>by
 refine gW (g:=.mk P T hT n c B0 N X Q) (a6J hs ?_);intro fo' args ats ho hd hf ⟨ys,hys,hxs⟩ hdn hE;simp only[FX] at hk hn;obtain⟨hk1,hkM,hka,hkz⟩:=hk;cases hfo:fo with
 |none=>grind
 |some x=>
  rw[hfo] at hF;refine hE ex (λ_=>m') (λy=>dse d (sv x y) e') (λy=>L4 L' is++Lr x y) (λy=>VH _ hkz) (λB a w next Q' hm hA hS hnext=>?_) (λy=>k x y hF);generalize hBB:B0S (.mk P T hT n c B0 N X Q) cf1++B=BB at hm hA hS hnext;obtain⟨⟨R,s1,s2⟩,s0⟩:=hS;have f1:=s1.front is hka;rw[QW hi] at f1;obtain⟨U,k1,k2,k3,k4,k5,k6,k7⟩:=f1.bB9 s0;subst k1;have hHG:HG c U L' is:=by
   refine⟨λ{O} _ {s d} h=>k4 (fRd [s.v d.length] d) h,λ{O} _ {s d} i hi hj=>?_,λ{O} _ {s d} i hi=>k5 _ (s2 _ (K9 hi))⟩;have:(blank (L'.map (kL BB)) is)[i]?=some (fK [s.v d.length] d):=by rw[aF2 (aF9 hj),CH,hi];rfl
   exact k6 _ (K9 this) (fRd [s.v d.length] d) λw F h=>aL.own_rd h
  obtain⟨b,z,vs1,g1,g2,g3⟩:=s2 _ (K9 hro);have hc0:=DL hk1 g2;rw[List.take_zero] at hc0;have hB:∀w1,eJ U.W U.w0 w1->mM (eQ w1) w1 [(b,z)] [.ro 0 c1]:=λw1 hkp=>by have h1:=k5 _ g3;have h2:(fAt b z vs1).P U.S0 w1:=(fAt b z vs1).agree h1 λb' o' hS=>hkp.cell b' o' (k2 b' o' hS) λhw=>k3.apart b' o' hw hS;have h3:(fAt b z vs1).P (All w1) w1:=(fAt b z vs1).mono h2 λb' o' hS=>O1 (k2 b' o' hS) hkp.size;have h4:St (eQ w1) w1 [] [fAt b z vs1]:=St.enter aj;refine⟨⟨[fAt b z vs1],St.more (ch:=NH) h4 (eJ.refl _ _) ⟨F0,λ_ _ h=>h,λ_ _ h=>h.elim⟩,λx hx=>?_⟩,λ_ _ h=>h⟩;simp at hx;subst hx;exact⟨b,z,vs1,ae,eY (λx v h=>by simpa using gD (B:=[]) _ h) hc0,ae⟩
  obtain⟨hcall,hrun⟩:=hc hHG hB x hfo;obtain⟨vs,h1,h2⟩:=aBN hA hys;obtain⟨v,h3,h4⟩:=eH hA hf;simp[fJ,aW] at h3;subst h3;have h1':aW (fJ BB) xs=some vs:=by grind[QU]
  have hvs:aW (fJ []) (xs0++[.k (.func (.func g) #[] (T9 [(b,z)]).toArray)])=some vs:=by rw[hxl] at h1';obtain⟨va,vb,q1,q2,rfl⟩:=aV8 h1';have q3:=aTN (Bs:=[]) (ps:=[]) (ds:=[]) (pv:=[]) (L:=L') (B:=BB) trivial (λi=>by simp[blP]) hx q1;simp only[aW,fJ,gV,X6,g1] at q2;cases q2;exact aV9 q3 (by simp[aW,fJ,gV,bU,T9];rfl)
  have hst:mM U U.w0 [] M:=by
   refine⟨⟨[],?_,λx hx=>?_⟩,k2⟩
   ·rw[YL (B':=BB) hkM];exact k3
   ·exact YM hkM x hx
  have h5:=hrun vs hvs hst;have h6:=T8 (w:=U.w0) hcall ho h4 h2;unfold Oper.wp;rw[h6 _ a hA.env,Oper.upon_enter];refine Calls.mono h5 λen w' ⟨v,hv,y,g1,g2⟩=>?_;subst hv;obtain⟨n3,n4⟩:=hn x y;have g3:=xN BB (aSC n4 g1);rw[aRY] at g3;obtain⟨⟨R',t1,t2⟩,t0⟩:=g2;have t3:St U w' ((Lr x y).map (kL BB)) R':=by grind[YL]
  have t4:=k7 w' _ R' t3;have t6:mM c w' BB (L4 L' is++Lr x y):=by
   refine⟨⟨R,?_,λz hz=>?_⟩,s0⟩
   ·rw[BR,J3];exact t4.rot
   ·rcases iO.1 hz with hz|hz
    ·rcases QV _ _ hz with hz|hz
     ·grind
     ·subst hz;trivial
    grind[YM]
  rw[hd];cases d with
  |none=>exact hnext y _ _ ⟨[],aj,by grind[dse,Act.put],aj⟩
  |some d=>exact hnext y _ _ ⟨[],aj,by simpa[dse] using hA.of g3 (hA.env.put (by grind[rY,yI]) v),aj⟩
end
def FZ(l:List Int):List Int:=l.foldl (λa x=>if a.getLast?=some x then a else a++[x]) []
theorem aGB(l:List Int)(x:Int):FZ (l++[x])=if(FZ l).getLast?=some x then FZ l else FZ l++[x]:=by grind[FZ]
theorem a2S:∀(l:List Int),(FZ l).getLast?=l.getLast?:=by
 intro l;rcases List.eq_nil_or_concat l with rfl|⟨l,x,rfl⟩
 ·rfl
 grind[aGB]
theorem bAR(l:List Int):(FZ l).length<=l.length:=by
 suffices h:∀(l a:List Int),(l.foldl (λa x=>if a.getLast?=some x then a else a++[x]) a).length<=a.length+l.length by have:=h l [];rw[List.length_nil,aBM] at this;exact this
 intro l;induction l with
 |nil=>simp
 |cons x l ih=>
  grind
def slices_Compact_int(s:List Int):Option (List Int):=some (FZ s)
theorem a1C(l:List Int):Lib.compact l=FZ l:=by
 have h:∀m,m<=l.length->Lib.compactUpTo l.toArray m=FZ (l.take m):=by
  intro m;induction m with
  |zero=>intro _;rfl
  |succ m ih=>
   intro hm;have hm':m<l.length:=hm;rw[Lib.compactUpTo_succ,ih aa,O0 hm',aGB,a2S];have e1:l.toArray[m]! = l[m]:=by simp[hm']
   have key:(Lib.keeps l.toArray m=true)↔¬(l.take m).getLast?=some l[m]:=by
    cases m with
    |zero=>simp[Lib.keeps]
    |succ k=>
     have e2:l.toArray[k]! = l[k]:=aj
     rw[O0 (by omega:k<l.length),List.getLast?_concat];simp only[Lib.keeps,decide_eq_true_eq,e1,Nat.add_sub_cancel,e2];grind
   grind
 have:=h l.length (kY _);rw[List.take_length] at this;exact this
open Go.Sort in
theorem aWA{b off q:Nat}{d0 d:Array Int}(h0:Holds (Value.int .i64) w b off d0)(hs:d.size=d0.size):eJ (eK b off d.size) w (putRow (Value.int .i64) (Sort.ahead w q) b off d):=by
 have hc:∀b' o,b'<w.heap.size->¬eK b off d.size b' o->(putRow (Value.int .i64) (Sort.ahead w q) b off d).cell? ⟨b',o,none⟩=w.cell? ⟨b',o,none⟩:=λb' o _ hn=>by
  rw[cell?_putRow_other _ _ _ _ _ _ (by
   by_cases e:b'=b
   ·right;by_cases h1:o<off
    ·grind
    ·right;by_cases h2:o<off+d.size
     ·exact absurd ⟨e,aa,h2⟩ hn
     grind
   grind)]
  rfl
 refine⟨rfl,rfl,rfl,ae,λb' hb hn=>?_,hc,λb' o _=>ae,λb' o h=>?_⟩
 ·show(w.heap.modify b _)[b']? = _;rw[Array.getElem?_modify];split
  ·rename_i e;subst e;have hz:d.size=0:=by
    rcases Nat.eq_zero_or_pos d.size with h|h
    ·exact h
    ·exact absurd ⟨rfl,kY _,aa⟩ (hn off)
   cases hh:w.heap[b]? with
   |none=>rfl
   |some o=>
    cases o with
    |cells c e fr=>
     simp only[Option.map_some,onCells];have:putCells (Value.int .i64) off d c=c:=by apply Array.ext_getElem?;intro k;simp only[putCells,Array.getElem?_mapIdx,hz];grind
     rw[this]
    |_=>rfl
  ·rfl
 ·by_cases hn:eK b off d.size b' o
  ·obtain⟨rfl,h1,h2⟩:=hn;have:=cell?_putRow (Value.int .i64) (Sort.ahead w q) b' off d0 d h0 hs (o-off) aa;grind
  grind[jT]
open Go.Proofs in
theorem bIJ{ρ:_}(Ly:Lays2.n20 P ρ)(hcall:∀args w,(callFunc (ρ.f 20) args).run P w=.ok (.enter (ρ.f 20) args) w){s:List Int}{s1:AC}:VS P U (ρ.f 20) (slices_Compact_int s) [.h s1 s.length] [] [ow s1 s] (λr (y:AC)=>.h y r.length) (λr y=>[ow y r]):=λr hr=>by
 cases hr;refine⟨hcall,λvs hv hS=>?_⟩;simp[aW,fJ,gV,bU] at hv;subst hv;obtain⟨⟨R,h1,h2⟩,h0⟩:=hS;have h1:St U U.w0 [fK [s1.v s.length] s] R:=by grind[kL]
 obtain⟨F,hF⟩:=h1.chunk 0 rfl;have hF:aL.own U.w0 [s1.v s.length] s F:=hF;obtain⟨a,cp,he,hl1,hl2,hrest⟩:=(show LA U.w0 _ s F from hF);obtain⟨sa,sc⟩:=s1;simp only[AC.v,List.cons.injEq,Value.slice.injEq,and_true,true_and] at he;obtain⟨rfl,rfl⟩:=he;rcases hrest with ⟨rfl,rfl,hno⟩|⟨b,off,Fs,rfl,hrow,hel,hdj,hdr,hFF⟩
 ·have hs:s=[]:=xL aa;subst hs;refine(Any.slices_Compact_int_empty Ly none 0 U.w0).mono ?_;rintro e w' ⟨rfl,rfl⟩;exact⟨_,rfl,⟨none,0⟩,by grind[fJ,gV,bU,FZ],⟨R,by grind[FZ],λx hx=>by simp at hx;subst hx;trivial⟩,h0⟩
 ·have hn:aL.n Int=1:=rfl;have hH:Sort.Holds (Value.int .i64) U.w0 b off s.toArray:=λj hj=>by
   have hj':j<s.length:=aa
   obtain⟨ec,c1,c2⟩:=hel j hj';have c3:ec=[Value.int .i64 s[j]]:=(show _=_/\_ from c2).1;have:=c1 0 (.int .i64 s[j]) (by rw[c3];rfl);rw[hn,Nat.mul_one,aBL] at this;refine⟨aj,(hrow (off+j) ⟨rfl,aa,aj⟩).2⟩
  have hlen:(Lib.compact s).length<=s.length:=by grind[a1C,bAR]
  refine(Any.slices_Compact_int Ly b off sc s U.w0 hH (xM hl1 (xM hl2 ai)) hl1).mono ?_;rintro e w' ⟨rfl,q,rfl⟩;rw[a1C] at hlen ⊢;have hsz:(FZ s++List.replicate (s.length-(FZ s).length) 0).toArray.size=s.toArray.size:=ah
  have hsa:s.toArray.size=s.length:=ae
  have hK:=aWA (q:=q) hH hsz;refine⟨_,rfl,⟨some ⟨b,off,none⟩,sc⟩,by grind[fJ,gV,bU],⟨R,?_,by simp[roF]⟩,h0⟩;have:=h1.aDO (w':=Sort.putRow (Value.int .i64) (Sort.ahead U.w0 q) b off (FZ s++List.replicate (s.length-(FZ s).length) 0).toArray) (ch':=fK [(⟨some ⟨b,off,none⟩,sc⟩ : AC).v (FZ s).length] (FZ s)) 0 rfl λF2 hF2=>by
   have hF2:aL.own U.w0 [_] s F2:=hF2;obtain⟨a',cp',he',_,_,hrest'⟩:=(show LA U.w0 _ s F2 from hF2);simp only[AC.v,List.cons.injEq,Value.slice.injEq,and_true,true_and] at he';obtain⟨rfl,rfl⟩:=he';rcases hrest' with ⟨h,_⟩|⟨b',off',Fs',h,hrow',hel',hdj',hdr',hFF'⟩
   ·cases h
   ·cases h;have hemp:∀i (hi:i<s.length) b' o,¬Fs' i b' o:=λi hi b' o h=>by obtain⟨ec,_,c2⟩:=hel' i hi;exact(show _/\∀b o,¬Fs' i b o from c2).2 b' o h
    refine⟨eK b off (sc*1),eK b off (FZ s++List.replicate (s.length-(FZ s).length) 0).toArray.size,hK,λb' o h=>(hFF' b' o).2 (.inl ?_),?_,λb' o h=>.inl ((hFF' b' o).2 (.inl h))⟩
    ·obtain⟨h3,h4,h5⟩:=h;exact⟨h3,h4,aj⟩
    ·refine⟨_,sc,rfl,aa,hl2,.inr ⟨b,off,λ_=>F0,rfl,λo ho=>?_,λi hi=>?_,λ_ _ _ _ _ _ _ h _=>h,λ_ _ _ _ h _=>h,λb' o=>by simp[F0,hn]⟩⟩
     ·have:=hrow' o ho;exact⟨hK.stay b o this.1,(hK.AR b o (jT this.1)).trans this.2⟩
     ·refine⟨[.int .i64 (FZ s)[i]],λj v hj=>?_,rfl,λ_ _ h=>h⟩;have hj0:j=0:=aj
      subst hj0;simp at hj;subst hj;rw[hn,Nat.mul_one,aBL];have:=Sort.cell?_putRow (Value.int .i64) (Sort.ahead U.w0 q) b off s.toArray (FZ s++List.replicate (s.length-(FZ s).length) 0).toArray hH hsz i aa;grind
  grind[kL]
theorem fkP{iR:aL O}{C:GA O}{sr:J->SV}{Bs:Bl}{L0:List Ch}{cap:List Value}{p:O->Option J}(hc:∀args w,(callFunc g args).run P w=.ok (.enter g args) w)(hB:∀w1,eJ F0 w w1->mM (eQ w1) w1 Bs L0)(hl:aW (fJ Bs) xs=some cap)
  (hn:∀{w1 x y},eJ F0 w w1->C.sub (All w1) w1 x y->VS P (eQ w1) g (p x) (C.sv x y::xs) Bs L0 (λr (_:Unit)=>sr r) (λ_ _=>[])) (hz:∀q,AQ 0 (sr q)=true:=by exact λ_=>rfl):Fu1 P (eQ w) C sr g cap p:=
 ⟨hc,λw1 hk x y hy q hq v hv=>by
  have hv':fJ Bs (C.sv x y)=some v:=by simpa using xN (B:=[]) Bs hv
  refine Calls.mono ((hn hk hy q hq).run (v::cap) (by grind[aW]) (hB w1 hk)) λen w' ⟨v',h1,y',h2,h3⟩=>⟨v',h1,?_,?_⟩
  ·grind[aSC]
  ·simpa using aDW (m:=0) h3 rfl⟩
theorem bAS{c:Ctx}{B:Bl}{L:List Ch}{c1:List SV}{b1 b2:Nat×Nat}(hS:mM c w B L)(h1:Ch.ro n1 c1∈L)(h2:Ch.ro n2 [.p n3 0]∈L)(h3:Ch.ro n3 c3∈L)(o1:AQ.okC 0 c1=true)(o3:AQ.okC 0 c3=true)(g1:B[n1]?=some b1)(g2:B[n2]?=some b2) :
  ∃b3:Nat×Nat,∀w1,eJ F0 w w1->mM (eQ w1) w1 [b1,b2,b3] [.ro 0 c1,.ro 1 [.p 2 0],.ro 2 c3]:=by
 obtain⟨⟨R,s1,s2⟩,s0⟩:=hS;obtain⟨p1,z1,v1,e1,m1,f1⟩:=s2 _ h1;obtain⟨p2,z2,v2,e2,m2,f2⟩:=s2 _ h2;obtain⟨p3,z3,v3,e3,m3,f3⟩:=s2 _ h3;rw[g1] at e1;cases e1;rw[g2] at e2;cases e2;simp only[aW,bU,e3] at m2;cases m2;have q1:=DL o1 m1;have q3:=DL o3 m3;rw[List.take_zero] at q1 q3;refine⟨(p3,z3),λw1 hkp=>?_⟩;have fct:∀f∈R,f.P (All w1) w1:=λf hf=>by obtain⟨i,hi⟩:=aHR hf;exact bB0 (s1.fact i hi) hkp
 refine⟨⟨[fAt p1 z1 v1,fAt p2 z2 [.pointer (some ⟨p3,z3+0,none⟩)],fAt p3 z3 v3],?_,?_⟩,λ_ _ h=>h⟩
 ·have h4:St (eQ w1) w1 [] [fAt p1 z1 v1,fAt p2 z2 [.pointer (some ⟨p3,z3+0,none⟩)],fAt p3 z3 v3]:=St.enter (by
   grind)
  have more:∀{M:List Chunk} {R:List Fact},St (eQ w1) w1 M R->St (eQ w1) w1 (M++[NH]) R:=λh=>St.more (ch:=NH) h (eJ.refl _ _) ⟨F0,λ_ _ h=>h,λ_ _ h=>h.elim⟩;exact more (more (more h4))
 ·intro x hx;simp only[vJ,a4G,or_false] at hx;rcases hx with rfl|rfl|rfl
  ·exact⟨p1,z1,v1,rfl,eY (λx v h=>by simpa using gD (B:=[]) [(p1,z1),(p2,z2),(p3,z3)] h) q1,ae⟩
  ·exact⟨p2,z2,_,rfl,rfl,ae⟩
  ·exact⟨p3,z3,v3,rfl,eY (λx v h=>by simpa using gD (B:=[]) [(p1,z1),(p2,z2),(p3,z3)] h) q3,ae⟩
section
variable {P:Program} {T:TT} {hT:FY P T} {n:Nat} {c:Ctx} {B0:Bl} {N:Act->World->Prop} {X:Nat->Act->World->Prop} {Q:Act->World->Prop} {K K':List Fr} {m m':Nat} {e e':SE} {L L':List Ch} {cf cf1 cf2:uB} {o:Oper} {Lv:List Ch} {d:Nat}
theorem bIK{fo:Option O}{kf:O->Option J}{q:J}{f:FuncId}{sv:O->SV}{c1:List SV}(is:List Nat)(hs:i4 T n K cf m e L=.callp o (some d) f xs cf1 cf2 K' m' e' L')(hk:kl (shr [n3] L') is=[.ro n1 c1,.ro n2 [.p n3 0],.ro n3 c3])(ho:((AQ.okC 0 c1 && AQ.okC 0 c3) && okA xs.dropLast)=true)(hx:xs=xs.dropLast++[.f g [n1,n2]])
  (hc:∀{w},HS c w L'->∀{b1 b2 b3:Nat×Nat},(∀w1,eJ F0 w w1->mM (eQ w1) w1 [b1,b2,b3] [.ro 0 c1,.ro 1 [.p 2 0],.ro 2 c3])->∀{x},fo=some x->Fn0 P f (eQ w) (xs.dropLast++[.k (.func (.func g) #[] (T9 [b1,b2]).toArray)]) sv x) (hF:fo.bind kf=some q)
  (k:∀x,fo=some x->kf x=some q->G (.mk P T hT n c B0 N X Q) K' m' ((d,sv x)::e') L' cf2):G (.mk P T hT n c B0 N X Q) K m e L cf:=by
 refine gW (g:=.mk P T hT n c B0 N X Q) ?_;rw[hs];intro fo' args ats ho' hd hf ⟨ys,hys,hxs⟩ hdn hE;rw[FX] at ho;cases hfo:fo with
 |none=>grind
 |some x=>
  rw[hfo] at hF;refine hE Unit (λ_=>m') (λ_=>(d,sv x)::e') (λ_=>L') (λ_=>by simpa using rL (L:=L') []) (λB a w next Q' hm hA hS hnext=>?_) (λ_=>k x hfo hF);obtain⟨vs,h1,h2⟩:=aBN hA hys;obtain⟨v,h3,h4⟩:=eH hA hf;simp[fJ,aW] at h3;subst h3;rw[<-QU,hxs] at h1;rw[hx] at h1;have split:∀{qs:List SV} {b:SV} {vs:List Value} {B:Bl},aW (fJ B) (qs++[b])=some vs->∃us v,aW (fJ B) qs=some us/\fJ B b=some v/\vs=us++[v]:=by
   intro qs;induction qs with
   |nil=>
    grind[aW]
   |cons a qs ih=>
    intro b vs B h;simp only[aBH,aW] at h;grind[aW]
  obtain⟨us,fv,g1,g2,rfl⟩:=split h1;simp only[fJ] at g2;split at g2
  ·rename_i cap hcap;cases g2;obtain⟨Bs,b1,b2,b3⟩:=a57 (cs:=[(n1,c1),(n2,[.p n3 0])]) hcap;subst b1;obtain⟨d1,d2,rfl⟩:∃d1 d2,Bs=[d1,d2]:=by
    match Bs,b2 with
    |[d1,d2],_=>simp
   have hmem:∀x∈[Ch.ro n1 c1,.ro n2 [.p n3 0],.ro n3 c3],x∈shr [n3] L':=λx hx=>aMB (is:=is) aj;rw[FX] at ho;obtain⟨q1,y1,y2⟩:=b3 0 n1 c1 rfl;obtain⟨q2,y3,y4⟩:=b3 1 n2 _ rfl;simp at y1 y3;subst y1 y3;obtain⟨d3,hst⟩:=bAS (n3:=n3) (c1:=c1) (c3:=c3) (aTI [n3] [] L' hS) (hmem (.ro n1 c1) ae) (hmem (.ro n2 [.p n3 0]) ae) (hmem (.ro n3 c3) ae) ho.1.1 ho.1.2 y2 y4;obtain⟨hcall,hrun⟩:=hc ⟨_,hS⟩ hst hfo;have join:∀{qs:List SV} {us:List Value} {b:SV} {v:Value},aW (fJ []) qs=some us->fJ [] b=some v->aW (fJ []) (qs++[b])=some (us++[v]):=by
    intro qs;induction qs with
    |nil=>grind[aW]
    |cons a qs ih=>
     intro us b v h hb;simp only[aW] at h;split at h
     ·cases h
     ·rename_i u hu;split at h
      ·cases h
      ·rename_i us' hus;cases h;simp[aW,hu,ih hus hb]
   have h5:=hrun (us++[.func (.func g) #[] (T9 [d1,d2]).toArray]) (join (aD0 ho.2 g1) (by simp[fJ,gV,bU,Value.oneCell'])) (a2N w);have h6:=T8 (w:=w) hcall ho' h4 h2;unfold Oper.wp;rw[h6 _ a hA.env,Oper.upon_enter];refine Calls.mono h5 λen w' ⟨v,hv,y,e1,e2⟩=>?_;subst hv;rw[hd];have g3:=xN (B0S (.mk P T hT n c B0 N X Q) cf1++B) e1;exact hnext () _ _ ⟨[],aj,by simpa using hA.of aj (hA.env.put (by grind[rY,yI]) v),by simpa using hS.after (L2:=[]) rfl e2⟩
  ·cases g2
theorem clP{fo:Option O}{kf:O->Option J}{q:J}{f:FuncId}{sv:O->SV}{c1:List SV}(is:List Nat)(hs:i4 T n K cf m e L=.callp o (some d) f xs cf1 cf2 K' m' e' L')(hk:kl (shr [n3] L') is=[.ro n1 c1,.ro n2 [.p n3 0],.ro n3 c3])(ho:((AQ.okC 0 c1 && AQ.okC 0 c3) && okA xs.dropLast)=true)(hx:xs=xs.dropLast++[.f g [n1,n2]])
  (hc:∀{w},HS c w L'->∀{b1 b2 b3:Nat×Nat},(∀w1,eJ F0 w w1->mM (eQ w1) w1 [b1,b2,b3] [.ro 0 c1,.ro 1 [.p 2 0],.ro 2 c3])->V0 P (eQ w) f fo (xs.dropLast++[.k (.func (.func g) #[] (T9 [b1,b2]).toArray)]) sv)
  (k:∀x,W (G (.mk P T hT n c B0 N X Q) K' m' ((d,sv x)::e') L' cf2) q (kf x)):W (G (.mk P T hT n c B0 N X Q) K m e L cf) q (fo.bind kf):=λhF=>
 bIK is hs hk ho hx (λh _ _ _ h2 _ hx=>hc h h2 _ hx) hF λx _ h=>k x h
def noD:uB->Bool
 |.d _ _ _ _ _ _=>false
 |.o _ _ _ _ _ _ _=>false
 |_=>true
theorem shS(ns:List Nat){cf':uB}(hs:T3 (i4 T n K cf m e L)=some (K',cf',m',e',L'))(hf:noD cf'=true)(k:G (.mk P T hT n c B0 N X Q) K' m' e' (shr ns L') cf'):G (.mk P T hT n c B0 N X Q) K m e L cf:=by
 refine go hs (chg (λ_:Unit=>m') (λ_=>e') (λ_=>shr ns L') (λB a w hm hA hS=>⟨(),[],aj,aj,by simpa using aTI ns [] L' hS⟩) (λ_=>?_) (λ_=>k));cases cf' with
 |d _ _ _ _ _ _=>cases hf
 |o _ _ _ _ _ _ _=>cases hf
 |_=>trivial
end
abbrev R2:=Raw×Raw
variable{us:List R2}
def prs:List Value->List R2
 |a::b::r=>(⟨a⟩,⟨b⟩)::prs r
 |_=>[]
theorem VK:∀{n:Nat} {cs:List Value},cs.length=n*2->(prs cs).length=n
 |0,cs,h=>by have:cs=[]:=xL aa;rw[this];rfl
 |n + 1,cs,h=>by
  match cs,h with
  |a::b::r,h=>simp only[prs,aDM] at *;rw[VK (n:=n) aa]
  |[_],h=>grind
  |[],h=>simp at h
theorem aLB:∀{n:Nat} {cs ds:List Value},cs.length=n*2->prs (cs++ds)=prs cs++prs ds
 |0,cs,ds,h=>by have:cs=[]:=xL aa;rw[this];rfl
 |n + 1,cs,ds,h=>by
  match cs,h with
  |a::b::r,h=>simp only[prs,aBH,aDM] at *;rw[aLB (n:=n) aa]
  |[_],h=>grind
  |[],h=>simp at h
theorem a1D{a b:Value}(ha:a.oneCell'=true)(hb:b.oneCell'=true):aL.own w [a,b] ((⟨a⟩,⟨b⟩):R2) F0:=
 ⟨[a],[b],F0,F0,rfl,⟨⟨rfl,ha⟩,λ_ _ h=>h⟩,⟨⟨rfl,hb⟩,λ_ _ h=>h⟩,λ_ _ h=>h.elim,λ_ _=>by simp[F0]⟩
theorem bAT{cs:List Value}{u:R2}(h:aL.own w cs u F):cs=[u.1.v,u.2.v]/\∀b o,¬F b o:=by obtain⟨c1,c2,F1,F2,e,h1,h2,_,hF⟩:=h;refine⟨by rw[e,h1.1.1,h2.1.1];rfl,λb o p=>((hF b o).1 p).elim (h1.2 b o) (h2.2 b o)⟩
section
variable {O:Type} [aL O] (hn:aL.n O=2) {w:World}
include hn
theorem a1E:∀{l:List O} {cs:List Value} {F:cV},cX w cs l F->cX w cs (prs cs) F0
 |[],cs,F,h=>by rw[h.1];exact⟨rfl,λ_ _ h=>h⟩
 |x::r,cs,F,⟨c1,c2,F1,F2,e,h1,h2,hd,hF⟩=>by
  have a:=aL.mB (aL.own_rd h1);have o:=aL.rd_one (aL.own_rd h1);rw[hn] at a
  match c1,a,o with
  |[u,v],_,o=>
   subst e;exact⟨[u,v],c2,F0,F0,rfl,a1D (o u ae) (o v ae),a1E h2,λ_ _ h=>h.elim,λ_ _=>by simp[F0]⟩
theorem aTQ{l:List O}{cs:List Value}(h:cX w cs l F):cs.length=l.length*2:=by rw[h.length,hn]
omit hn in
theorem aSD:∀{us:List R2} {cs:List Value} {F:cV},cX w cs us F->us=prs cs/\∀b o,¬F b o
 |[],cs,F,h=>by rw[h.1];exact⟨rfl,h.2⟩
 |u::r,cs,F,⟨c1,c2,F1,F2,e,h1,h2,hd,hF⟩=>by obtain⟨e1,f1⟩:=bAT h1;obtain⟨e2,f2⟩:=aSD h2;simp_all[prs]
theorem a6X{s:Value}{l:List O}{cs:List Value}{G Fe:cV}(h:aL.own w [s] us G)(ho:cX w cs l Fe)(hu:us=prs cs)(hd:G.F9 Fe):aL.own w [s] l (λb o=>G b o\/Fe b o):=by
 have hcl:=aTQ hn ho;have hp:=VK hcl;rw[<-hu] at hp;obtain⟨a,c,e,h1,h2,h3⟩:=lZ.1 h;refine lZ.2 ⟨a,c,by rw[e,hp],aa,h2,?_⟩;rcases h3 with ⟨rfl,rfl,k⟩|⟨b,off,cc,Ge,rfl,hr,hc,ho',hdj,hFF⟩
 ·have hl:l=[]:=xL aa;subst hl;exact .inl ⟨rfl,rfl,λb o p=>p.elim (k b o) (ho.2 b o)⟩
 ·obtain⟨q1,q2⟩:=aSD ho';have hcc:cc.length=us.length*2:=ho'.length;have e2:cc=cs:=by
   have hj:∀{n:Nat} {x y:List Value},x.length=n*2->y.length=n*2->prs x=prs y->x=y:=by
    intro n;induction n with
    |zero=>simp
    |succ n ih=>
     intro x y hx hy hxy
     match x,y,hx,hy,hxy with
     |a::b::r,a'::b'::r',hx,hy,hxy=>
      grind[prs]
     |[],_,hx,_,_=>simp at hx
     |[_],_,hx,_,_=>grind
     |_::_::_,[],_,hy,_=>simp at hy
     |_::_::_,[_],_,hy,_=>grind
   grind
  subst e2;have hG:∀b' o,G b' o↔eK b off (c*2) b' o:=λb' o=>by rw[hFF];exact⟨λq=>q.elim id λq=>(q2 b' o q).elim,.inl⟩
  refine .inr ⟨b,off,cc,Fe,rfl,by rw[hn];exact hr,hc,ho,λb' o p q=>hd b' o ((hG b' o).2 aj) p,λb' o=>by rw[hG,hn]⟩
def cIn(cs:List Value)(l:List O):Chunk:=⟨λw F=>cX w cs l F,λh hk hd=>cX.keep hk h hd,λh hf=>cX.lt h hf⟩
end
def bGR{O:Type}(l:List O)(i j:Int):Option (List O):=need (0<=i/\i<=j/\j<=(l.length:Int)) (some (l.take i.toNat++l.drop j.toNat))
def zR2:R2:=(⟨.bool false⟩,⟨.slice none 0 0⟩)
theorem bEB:aL.rd F0 w [.bool false,.slice none 0 0] zR2:=⟨[_],[_],rfl,⟨rfl,rfl⟩,⟨rfl,rfl⟩⟩
theorem bAU{l:List O}{a b:Nat}(hab:a<=b)(hb:b<=l.length):((dL l a (l.drop b)).take (a+(l.length-b))).drop 0=l.take a++l.drop b:=by
 have h1:(l.take a).length=a:=aj
 have h2:(l.drop b).length=l.length-b:=ae
 unfold dL;rw[TU,aHV (l:=l.drop b) aa,<-NG,show a+(l.length-b)=(l.take a++l.drop b).length by grind];grind
theorem aWB{p:Prop}[Decidable p]{k:Option O}(h:p):need p k=k:=aM h
def a6Y(s:List R2)(i j:Int):Option (List R2):=
 need (0<=(i:Int)/\(i:Int)<=(j:Int)/\(j:Int)<=((s.length:Int):Int)/\((s.length:Int):Int)<=(s.length:Int)) ((if i == j then some s else need (0<=(i:Int)/\(i:Int)<=(s.length:Int)) (need (0<=(j:Int)/\(j:Int)<=(s.length:Int)) (need (i.toNat<=j.toNat) (need (0<=(((((dL s i.toNat (s.drop j.toNat)).take (i.toNat+(s.length-j.toNat))).drop 0).length:Int):Int)/\(((((dL s i.toNat (s.drop j.toNat)).take (i.toNat+(s.length-j.toNat))).drop 0).length:Int):Int)<=((s.length:Int):Int)/\((s.length:Int):Int)<=((dL s i.toNat (s.drop j.toNat)).length:Int)) (some (((dL s i.toNat (s.drop j.toNat)).take (i.toNat+(s.length-j.toNat))).drop 0)))))))
theorem bAV{j:Int}(h:0<=i/\i<=j/\j<=(us.length:Int)):a6Y us i j=some (us.take i.toNat++us.drop j.toNat):=by
 unfold a6Y;rw[aWB aa];by_cases e:i=j
 ·simp_all
 ·rw[aO aj,aWB aa,aWB aa,aWB aa,bAU aa aa,aWB];grind[gZ]
theorem a6Z[aL O](hn:aL.n O=2){s:Value}{l:List O}{ec:List Value}(hl:ec.length=2)(ho:∀v∈ec,v.oneCell'=true)(h:Sep w [pP s l 0,YG (X5 s) (WT (aL.n O) 0 s) ec] F) :
  ∃c2,c2.length=(l.drop 1).length*2/\l.length=(l.drop 1).length+1/\∀F,Sep w [pP s l 0,YG (X5 s) (WT (aL.n O) 0 s) ec] F->∃G Fe,aL.own w [s] (prs (ec++c2)) G/\cX w c2 (l.drop 1) Fe/\G.F9 Fe/\∀b o,F b o↔G b o\/Fe b o:=by
 obtain⟨G1,G2,⟨a,c,b,off,c1,c2,F1,F3,e,h1,h2,hk,rfl,hr,k1,k3,o1,o3,d1,d2,d3,hG1⟩,_,_,_⟩:=h;have hc2:=aTQ hn o3;have hdl:(l.drop 1).length=l.length-1:=ae
 have hdl':(l.drop (0+1)).length=l.length-1:=ae
 refine⟨c2,hc2,aa,λF h=>?_⟩;obtain⟨G1',G2',⟨a',c',b',off',c1',c2',F1',F3',e',h1',h2',hk',e3,hr',k1',k3',o1',o3',d1',d2',d3',hG1'⟩,hAt,dG,hF⟩:=h;rw[e] at e';cases e';cases e3;have hcc:c2'=c2:=aCJ k3' k3 (by grind[aTQ]);subst hcc;have hAt:(YG (X5 s) (WT (aL.n O) 0 s) ec).P w G2':=Sep.one.1 hAt;obtain⟨k2,hz,hH⟩:=hAt;subst e;simp only[X5,WT,Nat.zero_mul,aBL,hl] at k2 hz hH;have hF1:∀b o,¬F1' b o:=by have:l.take 0=[]:=rfl;rw[this] at o1';exact o1'.2
 rw[hn] at hr' k3' d3' hG1';have hp:(prs (ec++c2')).length=l.length:=by rw[aLB (n:=1) aa,K8,VK (n:=1) aa,VK hc2];omega
 have hraw:cX w (ec++c2') (prs (ec++c2')) F0:=by
  match ec,hl,ho with
  |[u,v],_,ho=>exact⟨[u,v],c2',F0,F0,rfl,a1D (ho u ae) (ho v ae),a1E hn o3',λ_ _ h=>h.elim,λ_ _=>by simp[F0]⟩
 refine⟨eK b off (c*2),F3',lZ.2 ⟨_,c,by rw[hp],aa,h2',.inr ⟨b,off,ec++c2',F0,rfl,λo p=>?_,?_,hraw,λ_ _ h=>h.elim,λ_ _=>?_⟩⟩,o3',λb o p q=>d3' b o q p,λb' o=>?_⟩
 ·by_cases q:eK b off 2 b o
  ·refine⟨?_,hz o q⟩;obtain⟨_,q1,q2⟩:=q;have:=k2 (o-off) _ (lH aa);simp_all
  ·exact hr' o p aa
 ·grind[VC]
 ·exact⟨.inl,λq=>q.elim id λq=>q.elim⟩
 grind[eK]
theorem aSE{B:Bl}:∀{cs:List SV} {vs:List Value},aW (bU B) cs=some vs->∀v∈vs,v.oneCell'=true
 |[],vs,h,v,hv=>by cases h;simp at hv
 |x::r,vs,h,v,hv=>by
  simp only[aW] at h;split at h
  ·cases h
  ·rename_i y hy;split at h
   ·cases h
   ·rename_i ys hys;cases h;rcases vJ.1 hv with rfl|hv
    ·exact aL7 hy
    ·exact aSE hys v hv
section
variable {P:Program} {T:TT} {hT:FY P T} {n:Nat} {c:Ctx} {B0:Bl} {N:Act->World->Prop} {X:Nat->Act->World->Prop} {Q:Act->World->Prop} {K K':List Fr} {m m':Nat} {e e':SE} {L L':List Ch} {cf cf' cf1 cf2:uB} {o:Oper} {Lv:List Ch} {d:Nat}
theorem hzR[aL O](hn:aL.n O=2){l:List O}{nb n0:Nat}{cs:List SV}(h h2 hv:Nat)(hs:T3 (i4 T n K cf m e L)=some (K',cf',m',e',L'))(hh:L'[h]?=some (.o (pP (s.v l.length) l 0)))(hb:L'[h2]?=some (.box nb cs))(hw:L'[hv]?=some (wOf O nb s n0 0))(hl:cs.length=2)(ha:dJ [h,h2]=true)(hz:([h,h2].all λj=>fX j cf'.AR)=true)
  (k:∀(us:List R2) (c2:List Value),us.length=l.length->us.drop 1=prs c2->l.length=(l.drop 1).length+1->G (.mk P T hT n c B0 N X Q) K' m' e' (L4 L' [h,h2]++[ow s us,.o (cIn c2 (l.drop 1))]) cf'):G (.mk P T hT n c B0 N X Q) K m e L cf:=by
 refine go hs (chg (ι:={p:List R2×List Value // p.1.length=l.length/\p.1.drop 1=prs p.2/\l.length=(l.drop 1).length+1}) (λ_=>m') (λ_=>e') (λp=>L4 L' [h,h2]++[ow s p.1.1,.o (cIn p.1.2 (l.drop 1))]) (λB a w hm hA hS=>?_) (λ_=>VH _ hz) (λp=>k p.1.1 p.1.2 p.2.1 p.2.2.1 p.2.2.2));obtain⟨⟨R,s1,s2⟩,s0⟩:=hS;have f1:=s1.front [h,h2] ha;rw[QW (M:=[.o (pP (s.v l.length) l 0),.box nb cs]) (by grind[aW])] at f1;obtain⟨F,S,hsep,_⟩:=f1.sep;obtain⟨Fa,Fb,hab,_⟩:=Sep.append.1 hsep;have hB:=s2 _ (K9 hw);simp only[roF] at hB;obtain⟨G1,G2,g1,g2,g3,g4⟩:=hab;have g2:(VE B nb cs).P w G2:=Sep.one.1 g2;obtain⟨b,z,vs,q1,q2,q3⟩:=g2;rw[hB] at q1;cases q1;have hlv:vs.length=2:=by grind[lI]
 have e1:X5 (s.v n0)=X5 (s.v l.length):=bCC s _ _;have e2:WT (aL.n O) 0 (s.v n0)=WT (aL.n O) 0 (s.v l.length):=bCD s _ _ _ _;rw[e1,e2] at q3;obtain⟨c2,z1,z2,z3⟩:=a6Z hn hlv (aSE q2) (F:=Fa) ⟨G1,G2,g1,Sep.one.2 q3,g3,g4⟩;have hpl:(prs (vs++c2)).length=l.length:=by rw[aLB (n:=1) aa,K8,VK (n:=1) aa,VK z1];omega
 have hpd:(prs (vs++c2)).drop 1=prs c2:=by rw[aLB (n:=1) aa];exact List.drop_left' (VK (n:=1) aa)
 refine⟨⟨(prs (vs++c2),c2),hpl,hpd,z2⟩,[],aj,aj,⟨⟨R,?_,λx hx=>?_⟩,s0⟩⟩
 ·rw[uA,BR,J3];have:=s1.shift [h,h2] ha (A':=[fK [s.v (prs (vs++c2)).length] (prs (vs++c2)),cIn c2 (l.drop 1)]) (λF hF=>by
   rw[QW (M:=[.o (pP (s.v l.length) l 0),.box nb cs]) (by grind[aW])] at hF;obtain⟨G1,G2,g1,g2,g3,g4⟩:=hF;have g2:(VE B nb cs).P w G2:=Sep.one.1 g2;obtain⟨b',z',vs',q1',q2',q3'⟩:=g2;rw[hB] at q1';cases q1';rw[q2] at q2';cases q2';rw[e1,e2] at q3';obtain⟨G,Fe,a1,a2,a3,a4⟩:=z3 F ⟨G1,G2,g1,Sep.one.2 q3',g3,g4⟩;rw[hpl];exact⟨G,Fe,a1,Sep.one.2 a2,a3,a4⟩)
  exact this
 ·rw[uA];rcases iO.1 hx with hx|hx
  ·rcases QV _ _ hx with hx|hx
   ·grind
   ·subst hx;trivial
  ·simp only[vJ,a4G,or_false] at hx;rcases hx with rfl|rfl<;>trivial
theorem joR[aL O](hn:aL.n O=2){l:List O}{cs:List Value}(i j:Nat)(hi:L[i]?=some (ow s us))(hj:L[j]?=some (.o (cIn cs l)))(hu:us=prs cs)(ha:dJ [i,j]=true)(hz:([i,j].all λj=>fX j cf.AR)=true)(hl:us.length=l.length)
  (k:G (.mk P T hT n c B0 N X Q) K m e (L4 L [i,j]++[ow s l]) cf):G (.mk P T hT n c B0 N X Q) K m e L cf:=by
 refine chg (λ_:Unit=>m) (λ_=>e) (λ_=>L4 L [i,j]++[ow s l]) (λB a w hm hA hS=>?_) (λ_=>VH _ hz) (λ_=>k);obtain⟨⟨R,s1,s2⟩,s0⟩:=hS;refine⟨(),[],aj,aj,⟨⟨R,?_,λx hx=>?_⟩,s0⟩⟩
 ·rw[uA,BR,J3];exact s1.shift [i,j] ha (A':=[fK [s.v l.length] l]) (λF hF=>by
   rw[QW (M:=[ow s us,.o (cIn cs l)]) (by grind[aW])] at hF;obtain⟨G1,G2,g1,g2,g3,g4⟩:=hF;have g2:cX w cs l G2:=Sep.one.1 g2;have g1:aL.own w [s.v us.length] us G1:=g1;rw[hl] at g1;have:=a6X hn g1 g2 hu g3;exact Sep.one.2 (by
    have e:F=λb o=>G1 b o\/G2 b o:=aj
    rw[e];exact this))
 ·rw[uA];rcases iO.1 hx with hx|hx
  ·rcases QV _ _ hx with hx|hx
   ·grind
   ·subst hx;trivial
  ·simp only[vJ,a4G,or_false] at hx;subst hx;trivial
theorem dlW[aL O](hn:aL.n O=2){f:FuncId}{kf:List O->Option J}{q:J}{l:List O}{c2:List Value}(i j:Nat)
  (hs:cpS (i4 T n K cf m e L)=some (o,some d,f,[.h s l.length,.i .i64 0,.i .i64 1],cf1,cf2,K',m',e',L')) (hi:L'[i]?=some (ow s us)) (hj:(L4 L' [i]++[ow s us])[j]?=some (.o (cIn c2 (l.drop 1)))) (hz:fX i cf1.AR=true) (ha:dJ [L'.length,j]=true) (hz2:([L'.length,j].all λj=>fX j cf2.AR)=true)
  (hu:us.length=l.length) (hd:us.drop 1=prs c2) (hl:l.length=(l.drop 1).length+1)
  (H:∀{U:Ctx} {us:List R2},VS P U f (a6Y us 0 1) [.h s us.length,.i .i64 0,.i .i64 1] [] [ow s us] (λ(r:List R2) (y:AC)=>.h y r.length) (λr y=>[ow y r]))
  (k:∀y:AC,W (G (.mk P T hT n c B0 N X Q) K' m' ((d,.h y (l.drop 1).length)::e') (L4 (L4 L' [i]++[ow y (us.drop 1)]) [L'.length,j]++[ow y (l.drop 1)]) cf2) q (kf (l.drop 1))):W (G (.mk P T hT n c B0 N X Q) K m e L cf) q ((bGR l 0 1).bind kf):=λhF=>by
 have hlen:(L4 L' [i]).length=L'.length:=by simp[L4]
 have hdl:∀{x},bGR l 0 1=some x->x=l.drop 1:=λh=>by obtain⟨_,h⟩:=lY h;grind
 refine cw0 (sv:=λ(r:List O) (y:AC)=>.h y r.length) (Lr:=λ_ y=>[ow y (us.drop 1)]) (M:=[ow s us]) (xs0:=[.h s l.length,.i .i64 0,.i .i64 1]) [i] hs (by simp[aW,hi]) rfl (by grind[I3,dJ]) (λ_ _=>rfl) (λ{U} _ {x} hx=>?_) hF (λx h1 h2 y=>?_)
 ·have hr:a6Y us 0 1=some (us.drop 1):=by grind[bAV]
  have h:=H (U:=U) (us:=us) _ hr;rw[hu] at h;refine⟨h.call,λvs hvs hst=>Calls.mono (h.run vs hvs hst) λen w' hE=>?_⟩;grind
 ·obtain rfl:=hdl h1;refine joR hn L'.length j aj ?_ hd ha hz2 (by simp[hu]) (k y h2);have hjl:j<L'.length:=by
   have h3:j<(L4 L' [i]++[ow s us]).length:=(I6.1 hj).1;have h4:j≠L'.length:=by intro e;subst e;simp[dJ,fX] at ha
   grind
  grind
end
open Go.Lib Go.Proofs
theorem VL(w:World)(dT sT ty elem:TypeId)(k b o dLen dCap:Nat)(a:Addr)(sLen sCap m:Nat)(cs:List Value)
  (hu:P.underlying dT=some (.slice elem)) (hs:(P.info? elem).map (·.size)=some k) (hm:Nat.min sLen dLen=m) (hn:cs.length=m*k)
  (hsrc:∀j v,cs[j]?=some v->w.cell? (a.add j)=some v) (hc:∀j,j<cs.length->(w.cell? ⟨b,o+j,none⟩).isSome=true) (hf:∀j,j<cs.length->w.frozen? ⟨b,o+j,none⟩=false) (h1:∀v∈cs,v.oneCell'=true) :
  (Builtin.copy_ #[dT,sT] ty #[.slice (some ⟨b,o,none⟩) dLen dCap,.slice (some a) sLen sCap]).run P w=.ok (goInt m) (w.setCells b o cs):=by
 have hl:=run_loadCells_list (P:=P) w a cs hsrc;have hst:=run_storeCells_cells (P:=P) b o cs 0 w aa aa h1;subst hm;cases hq:P.info? elem with
 |none=>grind
 |some i=>
  simp_all[Builtin.copy_,run_underlying,Builtin.lenOf,Builtin.firstCells,sizeOf,typeInfo]
theorem CJ(b o0 m:Nat):∀(vs:List Value) (o:Nat) (w:World),o0<=o->o+vs.length<=o0+m->eJ (eK b o0 m) w (w.setCells b o vs)
 |[],_,w,_,_=>eJ.refl _ _
 |v::r,o,w,h1,h2=>by simp only[aDM] at h2;rw[World.setCells];exact(eJ.setCell _ w ⟨b,o,none⟩ v ⟨rfl,h1,aj⟩ rfl).trans (CJ b o0 m r (o+1) _ aa aa) λ_ _ _ h=>h
theorem aH0{w1:World}(b:Nat)(hb:w.heap.size<=b){o:Nat}(h:eJ F0 w w1):eJ F0 w (w1.setCells b o vs):=
 h.trans ((CJ b o vs.length vs o w1 (kY _) (kY _)).mono (G:=eK b o vs.length) λ_ _ _ h=>h) (F:=F0) λb' o' hlt hr=>by obtain⟨rfl,_⟩:=hr;omega
theorem GB{b o:Nat}(h:∀j,j<vs.length->(w.cell? ⟨b,o+j,none⟩).isSome=true):bL (w.setCells b o vs) b o vs:=λj v hj=>by grind[World.cell?_setCells_in]
theorem wR{b o o':Nat}{cs:List Value}(h:bL w b o' cs)(hd:o'+cs.length<=o\/o+vs.length<=o'):bL (w.setCells b o vs) b o' cs:=λj v hj=>by have hl:=(I6.1 hj).1;rw[World.cell?_setCells_out b vs o w ⟨b,o'+j,none⟩ (λ_ _=>aj)];exact h j v hj
theorem UC{b o:Nat}{cs ds:List Value}(h:bL w b o cs)(k:bL w b (o+cs.length) ds):bL w b o (cs++ds):=λj v hj=>by
 by_cases hl:j<cs.length
 ·rw[List.getElem?_append_left hl] at hj;exact h j v hj
 ·rw[aRX aa] at hj;have:=k _ v hj;grind
theorem aYR{b o n:Nat}{cs:List Value}(h:bL w b o cs):bL w b o (cs.take n):=λj v hj=>by
 rw[aHS] at hj;split at hj
 ·exact h j v hj
 ·cases hj
theorem aD4{b o n o':Nat}(h:Row w b o n)(ho:o<=o'/\o'+vs.length<=o+n):Row (w.setCells b o' vs) b o n:=λq hq=>by obtain⟨_,h2,h3⟩:=hq;refine⟨Go.Proofs.isSome_setCells b vs o' w (λj hj=>(h (o'+j) ⟨rfl,aa,aa⟩).1) q (h q ⟨rfl,h2,h3⟩).1,?_⟩;rw[World.frozen?_setCells];exact(h q ⟨rfl,h2,h3⟩).2
def bIL(w:World)(k n:Nat)(ad:Option Addr)(c:Nat)(ccs:List Value)(e:Ending)(w':World):Prop:=
 ∃b o c',e=.returned (.slice (some ⟨b,o,none⟩) (n+1) c')/\n+1<=c'/\c'<=maxLen/\bL w' b o ccs/\Row w' b o (c'*k) /\
  ((ad=some ⟨b,o,none⟩/\c'=c/\eJ (eK b o (c*k)) w w')\/(w.heap.size<=b/\eJ F0 w w'))
def bIM(P:Program)(f k:Nat):Prop:=∀(b off n c i vb:Nat) (cs vs:List Value) (w:World),i<n->n+1<=c->c<=9223372036854775807->vb≠b->cs.length=n*k->vs.length=k ->
  bL w b off cs->(∀j,j<c*k->(w.cell? ⟨b,off+j,none⟩).isSome=true)->(∀j,j<c*k->w.frozen? ⟨b,off+j,none⟩=false) ->
  bL w vb 0 vs->(∀v∈cs,v.oneCell'=true)->(∀v∈vs,v.oneCell'=true) ->
  ∀(tA tB:TypeId) (kA kB:Nat),w.shape? vb=some (tA,kA)->w.shape? b=some (tB,kB)->kB≠0->w.frozen? ⟨vb,0,none⟩=false->w.frozen? ⟨vb,kA,none⟩=false ->
  Calls P f #[.slice (some ⟨b,off,none⟩) n c,.int .i64 i,.slice (some ⟨vb,0,none⟩) 1 1] w λe w'=>
   e=.returned (.slice (some ⟨b,off,none⟩) (n+1) c)/\w'=(w.drew.setCells b (off+(i+1)*k) (cs.drop (i*k))).setCells b (off+i*k) vs
def bIN(P:Program)(f k:Nat):Prop:=∀(b off n c vb:Nat) (vs:List Value) (w:World),n+1<=c->c<=9223372036854775807->vs.length=k ->
  (∀j,j<c*k->(w.cell? ⟨b,off+j,none⟩).isSome=true)->(∀j,j<c*k->w.frozen? ⟨b,off+j,none⟩=false)->bL w vb 0 vs->(∀v∈vs,v.oneCell'=true) ->
  Calls P f #[.slice (some ⟨b,off,none⟩) n c,.int .i64 n,.slice (some ⟨vb,0,none⟩) 1 1] w λe w'=>
   e=.returned (.slice (some ⟨b,off,none⟩) (n+1) c)/\w'=w.setCells b (off+n*k) vs
def bIO(P:Program)(f k el:Nat)(z:Value):Prop:=∀(base:Option Addr) (n c vb:Nat) (cs vs:List Value) (w:World),n<=c->c<n+1->n+1<=1073741824->cs.length=n*k->vs.length=k->(base=none->n=0) ->
  (∀a,base=some a->∀j v,cs[j]?=some v->w.cell? (a.add j)=some v)->bL w vb 0 vs->(∀v∈vs,v.oneCell'=true) ->
  Calls P f #[.slice base n c,.int .i64 n,.slice (some ⟨vb,0,none⟩) 1 1] w λe w'=>
   e=.returned (.slice (some ⟨w.heap.size,0,none⟩) (n+1) (grownCap w (n+1) c el)) /\
   w'=w.drew.alloc (.cells ((cs++vs).toArray++Builtin.zeroCells z.cells (grownCap w (n+1) c el-(n+1))) el)
def bIP(P:Program)(f k el:Nat)(z:Value):Prop:=∀(b off n c i vb:Nat) (cs vs:List Value) (w:World),i<n->n<=c->c<n+1->n+1<=1073741824->cs.length=n*k->vs.length=k ->
  bL w b off cs->bL w vb 0 vs->(∀v∈cs,v.oneCell'=true)->(∀v∈vs,v.oneCell'=true) ->
  Calls P f #[.slice (some ⟨b,off,none⟩) n c,.int .i64 i,.slice (some ⟨vb,0,none⟩) 1 1] w λe w'=>
   e=.returned (.slice (some ⟨w.heap.size,0,none⟩) (n+1) (grownCap w (n+1) c el)) /\
   w'=(((w.alloc (.cells ((cs.take (i*k)).toArray++Builtin.zeroCells z.cells (n+1-i)++Builtin.zeroCells z.cells (grownCap w (n+1) c el-(n+1))) el)).drew.setCells w.heap.size (i*k) vs).drew).setCells w.heap.size ((i+1)*k) (cs.drop (i*k))
def bGS(P:Program)(f k:Nat):Prop:=∀(ad:Option Addr) (n c i vb:Nat) (cs vs:List Value) (w:World),i<=n->n<=c->c<=maxLen->n+1<=1073741824->cs.length=n*k->vs.length=k ->
  bL w vb 0 vs->(∀v∈cs,v.oneCell'=true)->(∀v∈vs,v.oneCell'=true)->(∀o,w.frozen? ⟨vb,o,none⟩=false) ->
  ((ad=none/\c=0)\/∃b off,ad=some ⟨b,off,none⟩/\Row w b off (c*k)/\bL w b off cs/\(0<c->vb≠b)) ->
  Calls P f #[.slice ad n c,.int .i64 i,.slice (some ⟨vb,0,none⟩) 1 1] w (bIL w k n ad c (cs.take (i*k)++vs++cs.drop (i*k)))
theorem aWC{b o:Nat}(h:(w.cell? ⟨b,o,none⟩).isSome=true):∃t k,w.shape? b=some (t,k)/\k≠0:=by grind[World.cell?,World.shape?]
theorem bAW{f k el:Nat}{z:Value}(hk:0<k)(hz:z.cells.size=k)(hS:bIM P f k)(hR:bIN P f k)(hE:bIO P f k el z)(hG:bIP P f k el z):bGS P f k:=by
 intro ad n c i vb cs vs w hi hnc hcm hb hcl hvl hvs h1c h1v hfz hrow;have hgc:n+1<=grownCap w (n+1) c el:=grownCap_ge _ _ _ _;have hgm:grownCap w (n+1) c el<=maxLen:=grownCap_le_maxLen w (n+1) c el (by grind[maxLen]);have hnk:(n+1)*k=n*k+k:=aj
 by_cases hin:i=n
 ·subst hin;have e1:cs.take (i*k)=cs:=aj
  have e2:cs.drop (i*k)=[]:=aj
  rw[e1,e2,uA];by_cases hroom:i+1<=c
  ·rcases hrow with ⟨_,h0⟩|⟨b,off,rfl,hr,hc,_⟩
   ·omega
   have hck:(i+1)*k<=c*k:=vK _ hroom;refine(hR b off i c vb vs w hroom hcm hvl (λj hj=>(hr _ ⟨rfl,aa,aa⟩).1) (λj hj=>(hr _ ⟨rfl,aa,aa⟩).2) hvs h1v).mono ?_;rintro e w' ⟨rfl,rfl⟩;refine⟨b,off,c,rfl,hroom,hcm,UC (wR hc (.inl aa)) (by rw[hcl];exact GB λj hj=>(hr _ ⟨rfl,aa,aa⟩).1),aD4 hr ⟨aa,aa⟩,.inl ⟨rfl,rfl,CJ b off _ vs _ w aa aa⟩⟩
  ·refine(hE ad i c vb cs vs w hnc aa hb hcl hvl (λh=>?_) (λa ha=>?_) hvs h1v).mono ?_
   ·grind
   ·rcases hrow with ⟨h0,_⟩|⟨b,off,h1,hr,hc,_⟩
    ·grind
    ·rw[ha] at h1;cases h1;intro j v hj;rw[Addr.add_lit];exact hc j v hj
   rintro e w' ⟨rfl,rfl⟩;have hsz:((cs++vs).toArray++Builtin.zeroCells z.cells (grownCap w (i+1) c el-(i+1))).size=grownCap w (i+1) c el*k:=by rw[Array.size_append,size_zeroCells,hz,List.size_toArray,K8,hcl,hvl,Nat.sub_mul,hnk];have:(i+1)*k<=grownCap w (i+1) c el*k:=vK _ hgc;omega
   refine⟨w.heap.size,0,_,rfl,hgc,hgm,λj v hj=>?_,λo ho=>⟨?_,World.frozen?_alloc_at (w:=w.drew) _ _ w.heap.size o rfl⟩,.inr ⟨kY _,(eJ.drew F0 w).trans (eJ.alloc _ _ _) λ_ _ _ h=>h⟩⟩
   ·rw[aBM,World.cell?_alloc_at (w:=w.drew) _ _ w.heap.size j rfl];grind
   ·obtain⟨_,_,h3⟩:=ho;rw[World.cell?_alloc_at (w:=w.drew) _ _ w.heap.size o rfl,Array.getElem?_eq_getElem aa];rfl
 ·have hlt:i<n:=aa
  have hik:(i+1)*k=i*k+k:=aj
  have hink:(i+1)*k<=n*k:=vK _ hlt;have htl:(cs.take (i*k)).length=i*k:=aj
  have hdl:(cs.drop (i*k)).length=n*k-i*k:=aj
  rcases hrow with ⟨_,h0⟩|⟨b,off,rfl,hr,hc,hne⟩
  ·omega
  have hsv:=aWC (w:=w) (b:=vb) (o:=0) (by rw[show(0:Nat)=0+0 from rfl,hvs 0 _ (lH aa)];rfl);obtain⟨tA,kA,hsa,_⟩:=hsv;by_cases hroom:n+1<=c
  ·have hck:(n+1)*k<=c*k:=vK _ hroom;obtain⟨tB,kB,hsb,hkB⟩:=aWC (w:=w) (b:=b) (o:=off) (hr off ⟨rfl,aa,aa⟩).1;refine(hS b off n c i vb cs vs w hlt hroom hcm (hne aa) hcl hvl hc (λj hj=>(hr _ ⟨rfl,aa,aa⟩).1) (λj hj=>(hr _ ⟨rfl,aa,aa⟩).2) hvs h1c h1v tA tB kA kB hsa hsb hkB (hfz _) (hfz _)).mono ?_;rintro e w' ⟨rfl,rfl⟩;have hc':bL w.drew b off cs:=hc;have hr':Row w.drew b off (c*k):=hr;have hr1:=aD4 (o':=off+(i+1)*k) (vs:=cs.drop (i*k)) hr' ⟨aa,aa⟩;refine⟨b,off,c,rfl,hroom,hcm,?_,aD4 hr1 ⟨aa,aa⟩,.inl ⟨rfl,rfl,((eJ.drew _ w).trans (CJ b off _ _ _ _ aa aa) λ_ _ _ h=>h).trans (CJ b off _ vs _ _ aa aa) λ_ _ _ h=>h⟩⟩;refine UC (UC ?_ ?_) ?_
   ·grind[wR,aYR]
   ·rw[htl];exact GB λj hj=>(hr1 _ ⟨rfl,aa,aa⟩).1
   ·rw[K8,htl,hvl,<-hik];exact wR (GB λj hj=>(hr' _ ⟨rfl,aa,aa⟩).1) (.inr aa)
  ·refine(hG b off n c i vb cs vs w hlt hnc aa hb hcl hvl hc hvs h1c h1v).mono ?_;rintro e w' ⟨rfl,rfl⟩;obtain⟨ROW,hROW⟩:∃ROW:Array Value,ROW=(cs.take (i*k)).toArray++Builtin.zeroCells z.cells (n+1-i)++Builtin.zeroCells z.cells (grownCap w (n+1) c el-(n+1)):=⟨_,rfl⟩;rw[<-hROW];have hsz:ROW.size=grownCap w (n+1) c el*k:=by rw[hROW,Array.size_append,Array.size_append,size_zeroCells,size_zeroCells,hz,List.size_toArray,htl,<-nK,<-nK];grind
   have hgk:(n+1)*k<=grownCap w (n+1) c el*k:=vK _ hgc;have hcN:∀j,(w.alloc (.cells ROW el)).cell? ⟨w.heap.size,j,none⟩=ROW[j]?:=λj=>World.cell?_alloc_at (w:=w) ROW _ w.heap.size j rfl;have hr0:Row (w.alloc (.cells ROW el)).drew w.heap.size 0 (grownCap w (n+1) c el*k):=λo ho=>by obtain⟨_,_,h3⟩:=ho;simp_all
   have hc0:bL (w.alloc (.cells ROW el)).drew w.heap.size 0 (cs.take (i*k)):=λj v hj=>by show(w.alloc (.cells ROW el)).cell? _=_;grind
   have hr1:=aD4 (o':=i*k) (vs:=vs) hr0 ⟨aa,aa⟩;have hr1':Row ((w.alloc (.cells ROW el)).drew.setCells w.heap.size (i*k) vs).drew w.heap.size 0 (grownCap w (n+1) c el*k):=hr1;refine⟨w.heap.size,0,_,rfl,hgc,hgm,?_,aD4 hr1' ⟨aa,aa⟩,.inr ⟨kY _,aH0 _ (kY _) ((aH0 _ (kY _) ((eJ.alloc _ _ _).trans (eJ.drew _ _) λ_ _ _ h=>h)).trans (eJ.drew _ _) λ_ _ _ h=>h)⟩⟩;refine UC (UC ?_ ?_) ?_
   ·exact wR (show bL _ _ _ _ from wR hc0 (.inl aa)) (.inl aa)
   ·rw[htl,aBM];refine wR (show bL _ _ _ _ from GB λj hj=>?_) (.inl aa)
    (simp_all;omega)
   ·rw[K8,htl,hvl,<-hik,aBM];exact GB λj hj=>(hr1' _ ⟨rfl,aa,aa⟩).1
def bEC{O:Type}[aL O](s:AC)(x:O):Chunk where
 P w F:=∃b cs,s=⟨some ⟨b,0,none⟩,1⟩/\b<w.heap.size/\(∀o,w.frozen? ⟨b,o,none⟩=false)/\bL w b 0 cs/\(∀w,aL.own w cs x F0)/\∀b' o,F b' o↔b'=b
 keep:=λ⟨b,cs,h1,h2,h3,h4,h5,h6⟩ hk hd=>⟨b,cs,h1,O1 h2 hk.size,λo=>(hk.AR b o h2).trans (h3 o),λj v hj=>(hk.cell b _ h2 λhg=>hd b _ ((h6 b _).2 rfl) hg).trans (h4 j v hj),h5,h6⟩
 lt:=λ⟨b,cs,h1,h2,h3,h4,h5,h6⟩ hF=>aj
def cLs{O:Type}[aL O](s:AC)(v:List O):Chunk where
 P w F:=∃x,v=[x]/\(bEC s x).P w F
 keep:=λ⟨x,h1,h2⟩ hk hd=>⟨x,h1,(bEC s x).keep h2 hk hd⟩
 lt:=λ⟨x,_,h2⟩ hF=>(bEC s x).lt h2 hF
def bGT{O:Type}(l:List O)(i:Int)(v:List O):Option (List O):=need (0<=i/\i<=(l.length:Int)/\l.length+v.length<=1073741824) (some (l.take i.toNat++v++l.drop i.toNat))
theorem a60[aL O]{cs:List Value}{x:O}(h:aL.own w cs x F0):cX w cs [x] F0:=⟨cs,[],F0,F0,(uA _).symm,h,⟨rfl,λ_ _ h=>h⟩,λ_ _ h=>h.elim,λ_ _=>by simp[F0]⟩
theorem aD5{O:Type}[aL O][Flat O]{w w':World}:∀{l:List O} {cs:List Value} {F:cV},cX w cs l F->cX w' cs l F0
 |[],cs,F,h=>⟨h.1,λ_ _ h=>h⟩
 |x::r,cs,F,⟨c1,c2,F1,F2,e,h1,h2,hd,hF⟩=>⟨c1,c2,F0,F0,e,a4R h1,aD5 h2,λ_ _ h=>h.elim,λ_ _=>by simp[F0]⟩
theorem a1F{O:Type}[aL O]{w:World}:∀{l:List O} {cs:List Value} {F:cV},cX w cs l F->∀v∈cs,v.oneCell'=true
 |[],cs,F,h,v,hv=>by rw[h.1] at hv;cases hv
 |x::r,cs,F,⟨c1,c2,F1,F2,e,h1,h2,hd,hF⟩,v,hv=>by rw[e] at hv;exact(iO.1 hv).elim (aL.rd_one (aL.own_rd h1) v) (a1F h2 v)
theorem bIQ{f:FuncId}[aL O][Flat O]{k:Nat}(hn:aL.n O=k)(hk:0<k)(hC:bGS P f k)(hcall:∀args w,(callFunc f args).run P w=.ok (.enter f args) w){s v:List O}{s1 s2:AC} :
  VS P U f (bGT s i v) [.h s1 s.length,.i .i64 i,.h s2 v.length] [] [ow s1 s,.o (cLs s2 v)] (λr (y:AC)=>.h y r.length) (λr y=>[ow y r]):=λr hr=>by
 unfold bGT at hr;obtain⟨⟨hi0,hi1,hb⟩,hr⟩:=lY hr;obtain⟨j,rfl⟩:∃j:Nat,i=j:=⟨i.toNat,aa⟩;rw[F8] at hr;cases hr;refine⟨hcall,λvs hv hS=>?_⟩;simp[aW,fJ,gV,bU] at hv;subst hv;obtain⟨⟨R,h1,h2⟩,h0⟩:=hS;have h1:St U U.w0 [fK [s1.v s.length] s,cLs s2 v] R:=by grind[kL]
 obtain⟨F,S,⟨F1,F2,hs1,⟨F3,F4,hs2,_,_,hF34⟩,hdj,_⟩,_⟩:=h1.sep;obtain⟨x,rfl,vb,cv,rfl,hvb,hvf,hvc,hvo,hvF⟩:=hs2;have hs1:aL.own U.w0 [s1.v s.length] s F1:=hs1;obtain⟨a,c,he,hl1,hl2,hrest⟩:=lZ.1 hs1;obtain⟨sa,sc⟩:=s1;simp only[AC.v,Value.slice.injEq,true_and] at he;obtain⟨rfl,rfl⟩:=he;have hvl:cv.length=k:=by rw[<-hn];exact aL.mB (aL.own_rd (hvo U.w0))
 have hv1:∀v∈cv,v.oneCell'=true:=aL.rd_one (aL.own_rd (hvo U.w0));obtain⟨cs,hcl,hc1,hrow,hall⟩:∃cs,cs.length=s.length*k/\(∀v∈cs,v.oneCell'=true)/\((sa=none/\sc=0)\/∃b off,sa=some ⟨b,off,none⟩/\Row U.w0 b off (sc*k)/\bL U.w0 b off cs/\(0<sc->vb≠b))/\∀w,cX w cs s F0:=by
  rcases hrest with ⟨rfl,rfl,_⟩|⟨b,off,cc,Fe,rfl,hr,hc,ho,_,hF⟩
  ·have hsn:s=[]:=xL aa;subst hsn;exact⟨[],ae,ae,.inl ⟨rfl,rfl⟩,λ_=>⟨rfl,λ_ _ h=>h⟩⟩
  ·rw[hn] at hr hF;refine⟨cc,by rw[<-hn];exact ho.length,a1F ho,.inr ⟨b,off,rfl,hr,hc,λh0 e=>?_⟩,λ_=>aD5 ho⟩;subst e;have hk:0<sc*k:=Nat.mul_pos h0 hk;exact hdj vb off ((hF vb off).2 (.inl ⟨rfl,kY _,aa⟩)) ((hF34 vb off).2 (.inl ((hvF vb off).2 rfl)))
 refine(hC sa s.length sc j vb cs cv U.w0 aa hl1 hl2 hb hcl hvl hvc hc1 hv1 hvf hrow).mono ?_;rintro e w' ⟨b,o,c',rfl,hlc,hcm,hcc,hrw,hkk⟩;have hlen:(s.take j++[x]++s.drop j).length=s.length+1:=aj
 refine⟨_,rfl,⟨some ⟨b,o,none⟩,c'⟩,by grind[fJ,gV,bU],⟨R,?_,by simp[roF]⟩,h0⟩;have hcs:∀w,cX w (cs.take (j*k)++cv++cs.drop (j*k)) (s.take j++[x]++s.drop j) F0:=λw=>by
  have h:=hall w;rw[<-aLX j s] at h;obtain⟨c1,c2,G1,G2,e,k1,k2,_,_⟩:=cX.split h;have hl:c1.length=j*k:=by rw[k1.length,hn,aDN];grind
  rw[e,List.take_left' hl,List.drop_left' hl,NG,NG];exact cX.app (aD5 k1) (show cX w (cv++c2) ([x]++s.drop j) F0 from cX.app (a60 (hvo w)) (aD5 k2) (λ_ _ h=>h.elim) λ_ _=>by simp[F0]) (λ_ _ h=>h.elim) λ_ _=>by simp[F0]
 have:=h1.a4V (w':=w') [0,1] rfl (A':=[fK [(⟨some ⟨b,o,none⟩,c'⟩:AC).v (s.take j++[x]++s.drop j).length] (s.take j++[x]++s.drop j)]) (λF hF=>by
  obtain⟨F1',F2',q1,q2,q3,q4⟩:=hF;have q1:aL.own U.w0 [_] s F1':=q1;have hown:aL.own w' [(⟨some ⟨b,o,none⟩,c'⟩:AC).v (s.take j++[x]++s.drop j).length] (s.take j++[x]++s.drop j) (eK b o (c'*k)):=
   lZ.2 ⟨_,c',rfl,aa,hcm,.inr ⟨b,o,_,F0,rfl,aj,hcc,hcs w',λ_ _ h=>h.elim,λb' o'=>by grind[F0]⟩⟩
  rcases hkk with ⟨rfl,rfl,hK⟩|⟨hnew,hK⟩
  ·obtain⟨a',c'',he',_,_,hr'⟩:=lZ.1 q1;simp only[AC.v,Value.slice.injEq,true_and] at he';obtain⟨rfl,rfl⟩:=he';rcases hr' with ⟨h,_⟩|⟨b2,o2,cc2,Fe2,h,_,_,_,_,hF2⟩
   ·cases h
   ·cases h;rw[hn] at hF2;exact⟨_,_,hK,λb' o' g=>(q4 b' o').2 (.inl ((hF2 b' o').2 (.inl g))),Sep.one.2 hown,λb' o' g=>.inl ((q4 b' o').2 (.inl ((hF2 b' o').2 (.inl g))))⟩
  ·exact⟨_,F0,hK,λ_ _ h=>h.elim,Sep.one.2 hown,λb' o' g=>.inr (by obtain⟨rfl,_⟩:=g;exact hnew)⟩)
 exact this.sel [2] rfl
section
variable {P:Program} {T:TT} {hT:FY P T} {n:Nat} {c:Ctx} {B0:Bl} {N:Act->World->Prop} {X:Nat->Act->World->Prop} {Q:Act->World->Prop} {K K':List Fr} {m m':Nat} {e e':SE} {L L' Lv:List Ch} {cf cf' cf1 cf2:uB} {o:Oper} {d:Nat}
variable {x:Operand} {t t2 el sz:Nat} {b1 b2 b3:Bool} {n1 n2 n3:Nat} {z1 z2 z3:List SV}
theorem ltL[aL O][Flat O](E:CO O)(y:E.ex)(q:O){zv:Value}(hinf:YH P el sz zv)(hs:i4 T n K cf m e L=.op o Lv cf1 cf2 K' m' e' L')(ho:(o.op,o.dst)=(.buildSlice t 1 #[(0,x)],some d))(ht:AU T t=some ⟨.sl el,b1,n1,z1⟩)(hn:aL.n O=sz)(hm:Nat.ble 1 sz=true)(hsm:Nat.ble (1*sz) 16777216=true)(hev:aW (λp=>(iL e' p.2).map λv=>nbL (oR v)) [((0:Nat),x)]=some ([q].map λq=>E.cs q y))(hec:([q].all λq=>Nat.beq (E.cs q y).length sz && (aW (bU []) (E.cs q y)).isSome)=true)(hL:∀q,E.Lx q y=[])
  (k:∀s':AC,G (.mk P T hT n c B0 N X Q) K' m' ((d,.h s' [q].length)::e') (L'++[.o (cLs s' [q])]) cf2):G (.mk P T hT n c B0 N X Q) K m e L cf:=by
 refine aTL (l:=[q]) (λs'=>L'++[.o (cLs s' [q])]) hs (dA Prod.snd ho) (λ_=>rL _) (λB a w hA hS=>?_) k;obtain⟨⟨R,s1,s2⟩,s0⟩:=hS;obtain⟨vs,cells,g1,g2,g3,g4,g5⟩:=lits E y (sz:=sz) hA hL hev hec;obtain⟨v,rfl⟩:∃v,vs=[v]:=by
  match vs,g2 with
  |[v],_=>simp
 obtain⟨ti,hi,hz,hsz,hby⟩:=hinf;obtain⟨h1,h2⟩:=g5.get hn;have hcl:cells.length=sz:=aj
 have hc:=aL5 (len:=1) (m:=sz) (vs:=[v]) (ps:=[(0,x)]) (F:=λi=>(if 1*sz=0 then #[] else zv.cells)[i % (if 1*sz=0 then #[] else zv.cells).size]!) rfl rfl g3 g4;have hu:=I1 ht hT;have hm0:¬1*sz=0:=by(simp_all;omega)
 have hsm':¬1*sz > 2 ^ 24:=by simp_all
 refine⟨⟨some ⟨w.heap.size,0,none⟩,1⟩,w.alloc (.cells cells.toArray el),λ_ a hA'=>?_,⟨R,?_,λz hz=>?_⟩,s0⟩
 ·have hps:a.eval x=v:=by have:=VB hA' g1;grind
  have ho':=dA Prod.fst ho;simp only at ho';simp only[hm0,bN] at hc;have hm1:¬sz=0:=aa
  have hs1:¬sz > 16777216:=aa
  simp only[Nat.one_mul,hm1,bN] at hc;simp[execOp,ho',Instr.buildSlice,run_underlying hu,sizeOf,typeInfo,zeroValue,hi,hz,hsz,hps,hm1,hs1,AC.v];simp_all[newRow]
 ·have:=s1.more (eJ.alloc F0 w (.cells cells.toArray el)) (ch:=cLs ⟨some ⟨w.heap.size,0,none⟩,1⟩ [q]) ⟨λb _=>b=w.heap.size,⟨q,rfl,w.heap.size,cells,rfl,ae,λo=>World.frozen?_alloc_at (w:=w) _ _ w.heap.size o rfl,λj v hj=>?_,λw'=>?_,λ_ _=>Iff.rfl⟩,λb o hb=>WS hb.symm⟩
  ·grind[kL]
  ·simp_all
  ·have:=h2 0 q rfl;rw[show LY cells sz 0=cells by unfold LY;grind] at this;grind[Flat.own_of]
 ·rcases iO.1 hz with hz|hz
  ·grind
  ·simp at hz;subst hz;trivial
end
end Go.Gv
end
noncomputable section
namespace Go.Gv
variable{s:AC}{c:Ctx}{i z:Nat}{O:Type}{v0:Value}{w:World}
def aWD(k:Nat):List Nat->Bool
 |[]=>false
 |a::r=>match Nat.beq k a with
  |true=>true
  |false=>aWD k r
def aD6(is:List Nat):Nat->List Ch->List Ch
 |_,[]=>[]
 |k,x::r=>match aWD k is with
  |true=>.no::aD6 is (k+1) r
  |false=>x::aD6 is (k+1) r
theorem aWE:∀(L:List Ch) (k:Nat),aD6 [] k L=L
 |[],_=>rfl
 |x::L,k=>by simp only[aD6,aWD,aWE L]
theorem a1G{k:Nat}(r:List Nat)(h:k≠i):aWD k (i::r)=aWD k r:=by grind[pM,aWD]
theorem bAX(i:Nat)(r:List Nat):aWD i (i::r)=true:=by simp only[aWD,Nat.beq_refl]
theorem a1H(i:Nat)(r:List Nat):∀(L:List Ch) (k:Nat),i<k->aD6 (i::r) k L=aD6 r k L
 |[],_,_=>rfl
 |x::L,k,h=>by simp only[aD6,a1G r (show k≠i by omega),a1H i r L (k+1) aa]
theorem aWF(i:Nat)(r:List Nat):∀(L:List Ch) (k:Nat),k<=i->aD6 (i::r) k L=aD6 r k (L.set (i-k) .no)
 |[],_,_=>rfl
 |x::L,k,h=>by
  by_cases e:k=i
  ·subst e;rw[Nat.sub_self];grind[aD6,bAX,a1H]
  ·obtain⟨d,hd⟩:∃d,i-k=d+1:=⟨i-k-1,aa⟩;have h2:i-(k+1)=d:=aa
   rw[hd];simp only[List.set,aD6,a1G r e,aWF i r L (k+1) aa,h2]
theorem aYS:∀(is:List Nat) (L:List Ch),L4 L is=aD6 is 0 L
 |[],L=>(aWE L 0).symm
 |i::r,L=>by rw[aWF i r L 0 (lX _),Nat.sub_zero];exact aYS r _
section
variable {P:Program} {T:TT} {hT:FY P T} {n:Nat} {c:Ctx} {B0:Bl} {N:Act->World->Prop} {X:Nat->Act->World->Prop} {Q:Act->World->Prop} {K K':List Fr} {m m':Nat} {e e':SE} {L L' Lv:List Ch} {cf cf' cf1 cf2:uB} {o:Oper}
variable {O J ex:Type} {fo:Option O} {kf:O->Option J} {q:J} {d:Option Nat} {f:FuncId} {xs xs0:List SV} {M:List Ch} {sv:O->ex->SV} {Lr:O->ex->List Ch}
theorem bGU{c1 c2 c3:List SV}{a1 a2 a3:O->ex->List SV}(i1 n1 o1 k1:Nat)(i2 n2 o2 k2:Nat)(i3 n3 o3 k3:Nat)(is:List Nat)
  (hs:cpS (i4 T n K cf m e L)=some (o,d,f,xs,cf1,cf2,K',m',e',L')) (hb:aMI L' [(i1,n1,o1,k1),(i2,n2,o2,k2),(i3,n3,o3,k3)]=some [c1,c2,c3]) (hi:aW (λi=>L'[i]?) is=some M) (hx:aW (rnP [(i1,n1,o1,k1),(i2,n2,o2,k2),(i3,n3,o3,k3)] 0) xs=some xs0)
  (hk:(I3 M && ([c1,c2,c3].all (AQ.okC 0) && (dJ (i1::i2::i3::is) && (i1::i2::i3::is).all λj=>fX j cf1.AR)))=true)
  (hc:∀{U:Ctx},HG c U L' (i1::i2::i3::is)->∀{b1 b2 b3:Nat×Nat},VS P U f fo xs0 [b1,b2,b3] (.box 0 c1::.box 1 c2::.box 2 c3::M) sv (λx y=>.box 0 (a1 x y)::.box 1 (a2 x y)::.box 2 (a3 x y)::Lr x y))
  (k:∀x,∀y:ex,W (G (.mk P T hT n c B0 N X Q) K' m' (dse d (sv x y) e') (QD L' (aD6 (i1::i2::i3::is) 0 L'++Lr x y) [(i1,n1,o1,k1),(i2,n2,o2,k2),(i3,n3,o3,k3)] [a1 x y,a2 x y,a3 x y]) cf2) q (kf x)) (hn:∀x y,(aD1 [(i1,n1,o1,k1),(i2,n2,o2,k2),(i3,n3,o3,k3)] [a1 x y,a2 x y,a3 x y] && ([a1 x y,a2 x y,a3 x y].all (AQ.okC 0) && (I3 (Lr x y) && AQ 0 (sv x y))))=true:=by exact λ_ _=>rfl):W (G (.mk P T hT n c B0 N X Q) K m e L cf) q (fo.bind kf):=
 bIF i1 n1 o1 k1 i2 n2 o2 k2 i3 n3 o3 k3 is hs hb hi hx hk hc (λx y=>by grind[aYS]) hn
end
section
variable {P:Program} {T:TT} {hT:FY P T} {n:Nat} {c:Ctx} {B0:Bl} {N:Act->World->Prop} {X:Nat->Act->World->Prop} {Q:Act->World->Prop} {K K':List Fr} {m m':Nat} {e e':SE} {L L' Lv:List Ch} {cf cf' cf1 cf2:uB} {o:Oper}
variable {O:Type} {fo:Option O} {d:Nat} {f:FuncId} {xs:List SV} {v:O}
theorem CK{sv:O->SV}(hA:fo=some v)(hs:i4 T n K cf m e L=.call o (some d) f xs cf1 cf2 K' m' e' L')
  (hc:∀{w},HS c w L'->V0 P (eQ w) f fo xs sv) (k:G (.mk P T hT n c B0 N X Q) K' m' ((d,sv v)::e') L' cf2):G (.mk P T hT n c B0 N X Q) K m e L cf:=
 c0 (kf:=some) (q:=v) hs hc (λx hx=>aj) (rb hA)
theorem F6{ex:Type}{sv:O->ex->SV}{Lf:O->ex->List Ch}(hA:fo=some v)(hs:i4 T n K cf m e L=.call o (some d) f xs cf1 cf2 K' m' e' L')
  (hc:∀{w},HS c w L'->VS P (eQ w) f fo xs [] [] sv Lf) (k:∀y:ex,G (.mk P T hT n c B0 N X Q) K' m' ((d,sv v y)::e') (L'++Lf v y) cf2) (hn:∀x y,noF (Lf x y)=true:=by exact λ_ _=>rfl):G (.mk P T hT n c B0 N X Q) K m e L cf:=
 c1 (kf:=some) (q:=v) hs hc (λx y hx=>aj) hn (rb hA)
end
structure AH where
 s:AC
 n:Nat
instance:aL AH:=aL.flat (λx=>x.s.v x.n) λ_=>rfl
instance:Flat AH:=⟨λh=>⟨h,λ_ _ h=>h⟩,λh=>h.2⟩
def cAH:GA AH:=⟨Unit,λx _=>[.h x.s x.n],λ_ _ _ _=>True,λh=>⟨(),by cases h;rfl,trivial⟩,λx _=>.h x.s x.n,λ_ _ _=>trivial⟩
def oAH:CO AH:=cAH.o (λ_ _=>[]) (λh=>by cases h;exact eG rfl) (λ_ _=>rfl) (λ_ _ _=>rfl)
def cBr(U:Ctx){O:Type}[aL O](s:AC)(d:List O):Chunk where
 P w F:=(∀b o,F b o->b<w.heap.size)/\∀w',(∀b o,F b o->w'.cell? ⟨b,o,none⟩=w.cell? ⟨b,o,none⟩)->(∀b o,U.S0 b o->w'.cell? ⟨b,o,none⟩=U.w0.cell? ⟨b,o,none⟩)->aL.rd (λb o=>U.S0 b o\/F b o) w' [s.v d.length] d
 keep:=by rintro w w' F G ⟨h1,h2⟩ hk hd;exact⟨λb o hF=>O1 (h1 b o hF) hk.size,λw2 g2 g3=>h2 w2 (λb o hF=>(g2 b o hF).trans (hk.cell b o (h1 b o hF) λhg=>hd b o hF hg)) g3⟩
 lt h hF:=h.1 _ _ hF
def AHs(c:Ctx){O:Type}[aL O]:List AH->List (List O)->Prop
 |[],[]=>True
 |q::qs,d::ds=>(q.n=d.length/\bB c q.s d)/\AHs c qs ds
 |_,_=>False
theorem AHs.get[aL O]:∀{qs:List AH} {ds:List (List O)},AHs c qs ds->qs.length=ds.length/\∀(i:Nat) (h1:i<qs.length) (h2:i<ds.length),qs[i].n=ds[i].length/\bB c qs[i].s ds[i]
 |[],[],_=>⟨rfl,λi h=>by simp at h⟩
 |q::qs,d::ds,h=>by
  obtain⟨a,b⟩:=h.2.get;refine⟨by simp[a],λi h1 h2=>?_⟩;cases i with
  |zero=>exact h.1
  |succ i=>grind
theorem bGV{U:Ctx}[aL O]{qs:List AH}{ds:List (List O)}{F:cV}(h:(fK [s.v qs.length] qs).P w F)(ha:AHs U qs ds):(cBr U s ds).P w F:=by
 refine⟨λ_ _ hF=>(fK [s.v qs.length] qs).lt h hF,λw' h2 h3=>?_⟩;obtain⟨hl,hg⟩:=ha.get;obtain⟨ad,c,e,g1,g2,g3⟩:=(show AS F w' [s.v qs.length] qs from aL.rd_agree (aL.own_rd h) h2);refine⟨ad,c,aj,hl ▸ g1,g2,?_⟩;rcases g3 with g3|⟨b,off,rfl,g3⟩
 ·grind
 ·refine .inr ⟨b,off,rfl,λi hi=>?_⟩;obtain⟨ec,q1,q2,q3⟩:=g3 i aa;obtain⟨p1,p2⟩:=hg i aa hi;have q3:ec=[(qs[i]' aa).s.v (qs[i]' aa).n]:=q3;refine⟨ec,q1,λo ho=>.inr (q2 o ho),?_⟩;rw[q3,p1];exact aL.rd_mono (aL.rd_agree p2 h3) λ_ _ h=>.inl h
theorem HS.b{L:List Ch}[aL O]{d:List O}(h:HS c w L)(i:Nat)(hi:L[i]?=some (.o (cBr c s d))):bB (eQ w) s d:=by obtain⟨B,hS⟩:=h.ex;obtain⟨⟨R,s1,_⟩,s0⟩:=id hS;obtain⟨F,hF⟩:=s1.chunk i (ch:=cBr c s d) (by rw[CH,hi];rfl);have:=hF.2 w (λ_ _ _=>rfl) (λb o hb=>s1.keep.cell b o (s0 b o hb) λhw=>s1.apart b o hw hb);exact aL.rd_mono this λb o h=>h.elim (aYG hS b o) (hF.1 b o)
section
variable {P:Program} {T:TT} {hT:FY P T} {n:Nat} {c:Ctx} {B0:Bl} {N:Act->World->Prop} {X:Nat->Act->World->Prop} {Q:Act->World->Prop} {K K':List Fr} {m m':Nat} {e e':SE} {L L':List Ch} {cf cf' cf1 cf2:uB} {o:Oper}
theorem chI(j:Nat){x y:Chunk}(hs:T3 (i4 T n K cf m e L)=some (K',cf',m',e',L'))(hj:L'[j]?=some (.o x))(hz:fX j cf'.AR=true)(h:∀w F,x.P w F->y.P w F)
  (k:G (.mk P T hT n c B0 N X Q) K' m' e' (L'.set j (.o y)) cf'):G (.mk P T hT n c B0 N X Q) K m e L cf:=by
 refine go hs (chg (λ_:Unit=>m') (λ_=>e') (λ_=>L'.set j (.o y)) (λB a w hm hA hS=>?_) (λ_=>LB hz) (λ_=>k));obtain⟨⟨R,s1,s2⟩,s0⟩:=hS;refine⟨(),[],aj,aj,⟨⟨R,?_,λz hz=>?_⟩,s0⟩⟩
 ·rw[uA,MX];exact s1.imp (jI.put j (by rw[CH,hj];rfl) λF hF=>h w F hF)
 ·rw[uA];rcases rV hz with hz|hz
  ·grind
  ·subst hz;trivial
theorem brL[aL O](j:Nat){qs:List AH}{ds:List (List O)}(ha:AHs c qs ds)(hs:T3 (i4 T n K cf m e L)=some (K',cf',m',e',L'))(hj:L'[j]?=some (ow s qs))(hz:fX j cf'.AR=true)
  (k:G (.mk P T hT n c B0 N X Q) K' m' e' (L'.set j (.o (cBr c s ds))) cf'):G (.mk P T hT n c B0 N X Q) K m e L cf:=chI j hs hj hz (λ_ _ h=>bGV h ha) k
end
section
variable {P:Program} {T:TT} {hT:FY P T} {n:Nat} {c c':Ctx} {B0:Bl} {N N':Act->World->Prop} {X:Nat->Act->World->Prop} {Q Q':Act->World->Prop} {K K':List Fr} {m m':Nat} {e e':SE} {L L':List Ch} {cf:uB}
theorem aTR(hN:∀a w,N' a w->N a w)(hQ:∀a w,Q' a w->Q a w):∀K:List Fr,(∀a w,NK (.mk P T hT n c' B0 N' X Q') K a w->NK (.mk P T hT n c B0 N X Q) K a w)/\∀i a w,XK (.mk P T hT n c' B0 N' X Q') K i a w->XK (.mk P T hT n c B0 N X Q) K i a w
 |[]=>⟨hN,λ_ _ _ h=>h⟩
 |.s y::K=>by obtain⟨h1,h2⟩:=aTR hN hQ K;exact⟨λa w h=>CW.mono h h1 h2 hQ,h2⟩
 |.k j::K=>by obtain⟨h1,h2⟩:=aTR hN hQ K;refine⟨h1,λi a w h=>?_⟩;simp only[XK,aR1] at h ⊢;grind
theorem lkC{J ρ ex γ:Type}[aL O][aL J]{fn:Func}{rs:List ResultVar}{hr:fn.results=rs.toArray}{sv:ρ->ex->SV}{Lf:ρ->ex->List Ch}{r:ρ}{q:γ}{zz:Option γ}{x:Code}(j:Nat){us:List O}{d:List J}
  (hx:∀S w,(∀b o,c.S0 b o->S b o)->(∀b o,c.S0 b o->w.cell? ⟨b,o,none⟩=c.w0.cell? ⟨b,o,none⟩)->aL.rd S w [s.v us.length] us->aL.rd S w [s.v d.length] d)
  (hs:T3 (i4 T n K cf m e L)=some (K',.c x,m',e',L')) (hj:L'[j]?=some (ow s us))
  (k:∀{c':Ctx},(∀{O:Type} [aL O] {s:AC} {d:List O},bB c s d->bB c' s d)->bB c' s d->W (G (.mk P T hT n c' B0 (QR P fn hr c' B0 sv Lf r) (λ_ _ _=>False) (QR P fn hr c' B0 sv Lf r)) K' m' e' (L'.set j .no) (.c x)) q zz)
  (hn:∀r y,noF (Lf r y)=true:=by exact λ_ _=>rfl):W (G (.mk P T hT n c B0 (QR P fn hr c B0 sv Lf r) (λ_ _ _=>False) (QR P fn hr c B0 sv Lf r)) K m e L cf) q zz:=λhF=>by
 refine go hs λa w ⟨B,hm,hA,hS⟩=>?_;obtain⟨⟨R,s1,s2⟩,s0⟩:=id hS;obtain⟨F,S,a1,a2,a3,a4,a5,a6⟩:=s1.sep;obtain⟨Fj,Fr,b1,b2,b3,b4⟩:=(Sep.take (c:=fK [s.v us.length] us) (i:=j) (by rw[CH,hj];rfl)).1 a1;have hdS:∀b o,F b o->¬c.S0 b o:=λb o hf h0=>(a3 b o hf).elim (λh=>s1.apart b o h h0) λh=>aj
 let c2:Ctx:=⟨w,Fr,λb o=>c.S0 b o\/Fj b o\/S b o⟩
 have hlt:∀b o,c2.S0 b o->b<w.heap.size:=λb o h=>h.elim (λh=>O1 (s0 b o h) s1.keep.size) λh=>h.elim (λh=>(fK [s.v us.length] us).lt b1 h) (a5 b o);have hag:∀b o,c.S0 b o->w.cell? ⟨b,o,none⟩=c.w0.cell? ⟨b,o,none⟩:=λb o h=>s1.keep.cell b o (s0 b o h) λhw=>s1.apart b o hw h;have ap:c2.W.F9 c2.S0:=λb o h1 h2=>h2.elim (λh=>hdS b o ((b4 b o).2 (.inr h1)) h) λh=>h.elim (λh=>b3 b o h h1) λh=>a2 b o ((b4 b o).2 (.inr h1)) h;have st2:mM c2 w (B0++B) (L'.set j .no):=by
  refine⟨⟨R,⟨eJ.refl _ _,⟨Fr,S,?_,λb o h1 h2=>a2 b o ((b4 b o).2 (.inr h1)) h2,λb o h=>.inl h,λb o h=>.inl (.inr (.inr h)),a5,a6⟩,ap⟩,λz hz=>?_⟩,hlt⟩
  ·rw[MX];exact b2
  ·rcases rV hz with hz|hz
   ·grind
   ·subst hz;trivial
 have rdc:∀{O:Type} [aL O] {s:AC} {d:List O},bB c s d->bB c2 s d:=λh=>aL.rd_mono (aL.rd_agree h hag) λ_ _ h=>.inl h;have rdj:bB c2 s d:=hx _ _ (λ_ _ h=>.inl h) hag (aL.rd_mono (aL.own_rd b1) λ_ _ h=>.inr (.inl h));have out:∀a w,QR P fn hr c2 B0 sv Lf r a w->QR P fn hr c B0 sv Lf r a w:=λa w2 ⟨hd,v,hv,y,h1,h2⟩=>by
  obtain⟨⟨R2,t1,_⟩,_⟩:=h2;obtain⟨F2,S2,e1,e2,e3,e4,e5,e6⟩:=t1.sep;refine⟨hd,v,hv,y,h1,⟨⟨[],⟨s1.keep.trans t1.keep λb o hb h=>?_,⟨F2,F0,e1,λ_ _ _ h=>h,λb o h=>?_,λ_ _ h=>h.elim,λ_ _ h=>h.elim,λf hf=>by cases hf⟩,s1.apart⟩,aMH (hn r y)⟩,s0⟩⟩
  ·grind
  ·rcases e3 b o h with h|h
   ·grind
   ·exact .inr (xM s1.keep.size h)
 obtain⟨m1,m2⟩:=aTR (P:=P) (T:=T) (hT:=hT) (n:=n) (c:=c) (c':=c2) (B0:=B0) (X:=λ_ _ _=>False) out out K';exact CW.mono (k rdc rdj hF a w ⟨B,hm,hA,st2⟩) m1 m2 out
end
theorem bED[aL O](h1:aL.n O=1){us:List Raw}{d:List O}(hr:YJ c.S0 c.w0 us d):∀S w,(∀b o,c.S0 b o->S b o)->(∀b o,c.S0 b o->w.cell? ⟨b,o,none⟩=c.w0.cell? ⟨b,o,none⟩)->aL.rd S w [s.v us.length] us->aL.rd S w [s.v d.length] d:=λS w hS ha h=>by rw[<-hr.1];exact a47 h1 h ⟨hr.1,λi u x hu hx=>aL.rd_mono (aL.rd_agree (hr.2 i u x hu hx) ha) hS⟩
section
variable {P:Program} {T:TT} {hT:FY P T} {n:Nat} {c:Ctx} {B0:Bl} {N:Act->World->Prop} {X:Nat->Act->World->Prop} {Q:Act->World->Prop} {K K':List Fr} {m m':Nat} {e e':SE} {L L' Lv:List Ch} {cf cf1 cf2:uB} {o:Oper} {d:Nat}
variable {x y z:Operand} {t t2 el sz:Nat} {zv:Value} {b1 b2:Bool} {n1 n2:Nat} {z1 z2:List SV} {kt:TK} {k2:IntKind}
theorem qcn(hs:opS (i4 T n K cf m e L)=some (o,Lv,cf1,cf2,K',m',e',L'))(ho:(o.op,o.dst)=(.call {callee:=.builtin .cap,args:=#[x],argTypes:=#[t]},some d))(hx:iL e' x=some (.h ⟨none,0⟩ 0))(ht:AU T t=some ⟨.sl el,b1,n1,z1⟩)
  (kk:G (.mk P T hT n c B0 N X Q) K' m' ((d,.i .i64 0)::e') L' cf2):G (.mk P T hT n c B0 N X Q) K m e L cf:=
 pu hs (dA Prod.snd ho) (λB a w hA _=>by
  obtain⟨v,h1,h2⟩:=eH hA hx;cases h1;exact⟨.int .i64 0,rfl,a2H (I1 ht hT) (dA Prod.fst ho) h2⟩) kk
theorem qn0(hs:opS (i4 T n K cf m e L)=some (o,Lv,cf1,cf2,K',m',e',L'))(ho:(o.op,o.dst)=(.slice t x none (some z) none,some d))(hx:iL e' x=some (.h ⟨none,0⟩ 0))(hz:(iL e' z).bind rX=some (k2,0))(ht:AU T t=some ⟨.sl el,b1,n1,z1⟩)(he:AU T el=some ⟨kt,b2,sz,z2⟩)
  (kk:G (.mk P T hT n c B0 N X Q) K' m' ((d,.h ⟨none,0⟩ 0)::e') L' cf2):G (.mk P T hT n c B0 N X Q) K m e L cf:=
 pu hs (dA Prod.snd ho) (λB a w hA _=>by
  obtain⟨v,h1,h2⟩:=eH hA hx;cases h1;exact⟨.slice none 0 0,rfl,a0F (n:=sz) ⟨_,_,_,rfl⟩ (I1 ht hT) (hT.size _ _ he) (dA Prod.fst ho) h2 (yF hA hz)⟩) kk
theorem apZ{i:Int}(hb:1<=i/\i<=1073741824)(hinf:YH P el sz zv)(hs:i4 T n K cf m e L=.op o Lv cf1 cf2 K' m' e' L')(ho:(o.op,o.dst)=(.call {callee:=.builtin .append,args:=#[x,y],argTypes:=#[t,t2]},some d))(ht:AU T t=some ⟨.sl el,b1,n1,z1⟩)(ht2:AU T t2=some ⟨.i k2,b2,n2,z2⟩)(hzs:zv.cells.size=sz)(hm:Nat.ble 1 sz=true)(hx:iL e' x=some (.h ⟨none,0⟩ 0))(hy:(iL e' y).bind rX=some (.i64,i))
  (k:∀s':AC,G (.mk P T hT n c B0 N X Q) K' m' ((d,.h s' (List.replicate i.toNat (0:Int)).length)::e') (L'++[.o (a48 (s'.v (List.replicate i.toNat (0:Int)).length) sz)]) cf2):G (.mk P T hT n c B0 N X Q) K m e L cf:=by
 refine aTL (l:=List.replicate i.toNat (0:Int)) (λs'=>L'++[.o (a48 (s'.v (List.replicate i.toNat (0:Int)).length) sz)]) hs (dA Prod.snd ho) (λ_=>rL _) (λB a w hA hS=>?_) k;obtain⟨⟨R,s1,s2⟩,s0⟩:=hS;obtain⟨v,h1,h2⟩:=eH hA hx;cases h1;obtain⟨u,g1,g2⟩:=hT.und _ _ ht2;subst g2;obtain⟨v,w',k1,k2,ad,cp,rfl⟩:=a9X (e:=vE B e') (o:=o) s1 (I1 ht hT) g1 hinf hzs hm hb (dA Prod.fst ho) h2 (yF hA hy);refine⟨⟨ad,cp⟩,w',aj,⟨⟨R,by grind[kL],λz hz=>?_⟩,s0⟩⟩;rcases iO.1 hz with hz|hz
 ·grind
 ·simp at hz;subst hz;trivial
theorem rn0(O:Type)[aL O](j:Nat){kk:Nat}(hn:aL.n O=sz)(hs:i4 T n K cf m e L=.op o Lv cf1 cf2 K' m' e' L')(ho:(o.op,o.dst)=(.slice t x none (some z) none,some d))(hx:iL e' x=some (.h s kk))(hz:(iL e' z).bind rX=some (k2,0))(ht:AU T t=some ⟨.sl el,b1,n1,z1⟩)(he:AU T el=some ⟨kt,b2,sz,z2⟩)(hj:L'[j]?=some (.o (a48 (s.v kk) sz)))(hfz:fX j cf1.AR=true)
  (k:∀s':AC,G (.mk P T hT n c B0 N X Q) K' m' ((d,.h s' ([]:List O).length)::e') (L'.set j (ow s' ([]:List O))) cf2):G (.mk P T hT n c B0 N X Q) K m e L cf:=by
 refine aTL (l:=([]:List O)) (λs'=>L'.set j (ow s' ([]:List O))) hs (dA Prod.snd ho) (λ_=>LB hfz) (λB a w hA hS=>?_) k;obtain⟨⟨R,s1,s2⟩,s0⟩:=hS;obtain⟨v,h1,h2⟩:=eH hA hx;cases h1;have k2:=s1.bDM (O:=O) j (by rw[CH,hj];rfl) hn;refine⟨s.sub sz 0,w,a0F (n:=sz) ⟨_,_,_,rfl⟩ (I1 ht hT) (hT.size _ _ he) (dA Prod.fst ho) h2 (yF hA hz),⟨⟨R,?_,λz hz=>?_⟩,s0⟩⟩
 ·rw[MX];exact k2
 ·rcases rV hz with hz|hz
  ·grind
  ·subst hz;trivial
end
theorem ah2[aL O]{q1 q2:AH}{d1 d2:List O}(h1:q1.n=d1.length/\bB c q1.s d1)(h2:q2.n=d2.length/\bB c q2.s d2):AHs c [q1,q2] [d1,d2]:=And.intro h1 (And.intro h2 trivial)
theorem rwX{C:Prop}[aL O](hn:aL.n O=1){d:List O}(h:bB c s d)(k:∀us:List Raw,bB c s us->YJ c.S0 c.w0 us d->C):C:=by obtain⟨us,h1,h2⟩:=bDL hn h;refine k us ?_ h2;unfold bB;rw[h2.1];exact h1
theorem bGW{n:Int}(hn:0<=n/\n<=1073741824)(hb:decide (0<bA (n-bA (0-0)))=true):1<=bA (n-bA (0-0))/\bA (n-bA (0-0))<=1073741824:=by grind[SI]
theorem aWG{O:Type}:∀l:List O,frc l=some l
 |[]=>rfl
 |x::l=>by simp only[frc,aWG l]
theorem aTS(x:SV):∀(cs:List SV) (i:Nat),nbL (cs.set i x)=(nbL cs).set i (nb1 x)
 |[],_=>rfl
 |y::cs,0=>rfl
 |y::cs,i+1=>by simp only[List.set_cons_succ,nbL,aTS x cs i]
def aB(l:List Bool):List SV:=[.b (l.getD 0 false),.b (l.getD 1 false),.b (l.getD 2 false),.b (l.getD 3 false),.b (l.getD 4 false),.b (l.getD 5 false),.b (l.getD 6 false),.b (l.getD 7 false),.b (l.getD 8 false),.b (l.getD 9 false),.b (l.getD 10 false),.b (l.getD 11 false),.b (l.getD 12 false),.b (l.getD 13 false),.b (l.getD 14 false),.b (l.getD 15 false),.b (l.getD 16 false),.b (l.getD 17 false),.b (l.getD 18 false),.b (l.getD 19 false),.b (l.getD 20 false),.b (l.getD 21 false),.b (l.getD 22 false),.b (l.getD 23 false)]
theorem aYT{l:List Bool}(h:i<24):(aB l)[i]?=some (.b (l.getD i false)):=by have:(aB l).length=24:=rfl;rcases i with _|_|_|_|_|_|_|_|_|_|_|_|_|_|_|_|_|_|_|_|_|_|_|_|i<;>first|rfl|omega
theorem bEE{l:List Bool}(h:i<24)(hl:i<l.length)(u:Bool):(aB l).set i (.b u)=aB (l.set i u):=by
 refine aBI λk=>?_;have e:(aB l).length=24:=rfl;by_cases hk:k<24
 ·rw[aYT hk,List.getElem?_set];by_cases q:i=k
  ·grind
  ·rw[aO q,aYT hk];grind
 simp_all[aB]
section
variable {P:Program} {T:TT} {hT:FY P T} {n:Nat} {c:Ctx} {B0:Bl} {N:Act->World->Prop} {X:Nat->Act->World->Prop} {Q:Act->World->Prop} {K K':List Fr} {m m':Nat} {e e':SE} {L L':List Ch} {cf cf1 cf2:uB} {o:Oper} {Lv:List Ch} {d:Nat}
variable {x y:Operand} {t el:TypeId} {k:IntKind} {i:Int} {J:Type} {A:Option J} {kf:Bool->Option J} {q:J} {n1 b0:Nat} {l:List Bool}
theorem elP{B:Bl}{b i:Nat}(hw:B[b0]?=some (b,z)):fJ B (.p b0 i)=fJ B (.e ⟨some ⟨b,z,none⟩,0⟩ 1 i 0):=by simp[fJ,gV,bU,hw,X5,WT]
theorem qia(hu:P.underlying t=some (.array 24 el))(hz:∀w,(sizeOf el).run P w=.ok 1 w)(hs:i4 T n K cf m e L=.op o Lv cf1 cf2 K' m' e' L')(ho:(o.op,o.dst)=(.indexAddr t x y,some d))(hx:iL e' x=some (.p b0 0))(hy:(iL e' y).bind rX=some (k,i))(hF:need (0<=i/\i<24) A=some q)
  (kk:0<=i/\i<24->A=some q->∀b z:Nat,G (.mk P T hT n c B0 N X Q) K' m' ((d,.e ⟨some ⟨b,z,none⟩,0⟩ 1 i.toNat 0)::e') (L'++[.w b0 b z]) cf2):G (.mk P T hT n c B0 N X Q) K m e L cf:=by
 have hb:=(lY hF).1;have hd:o.dst=some d:=dA Prod.snd ho;refine gW (g:=.mk P T hT n c B0 N X Q) ?_;rw[hs];intro hdn _ hE;refine hE (Nat×Nat) (λ_=>m') (λs=>(d,.e ⟨some ⟨s.1,s.2,none⟩,0⟩ 1 i.toNat 0)::e') (λs=>L'++[.w b0 s.1 s.2]) (λ_=>rL _) (λB a w next Q' hm hA hS hnext=>?_) (λs=>kk hb (lY hF).2 s.1 s.2);obtain⟨v,h1,h2⟩:=eH hA hx;have h3:=yF hA hy;simp only[fJ,gV,bU] at h1;split at h1
 ·rename_i b z hbz;cases h1;have hw:(B0S (.mk P T hT n c B0 N X Q) cf1++B)[b0]?=some (b,z):=hbz;have hrun:fE P o (vE (B0S (.mk P T hT n c B0 N X Q) cf1++B) e') w (.pointer (some ⟨b,z+i.toNat,none⟩)) w:=λ_ a' hA'=>by
   have ho':o.op=.indexAddr t x y:=dA Prod.fst ho;have h5:(⟨b,z,none⟩:Addr).add i.toNat=⟨b,z+i.toNat,none⟩:=by grind[Addr.add]
   simp[execOp,ho',Instr.indexAt,hA'.eval h2,hA'.eval h3,asIntOf,run_underlying hu,Instr.sureAddr,hb.1,hb.2,hz,h5]
  unfold Oper.wp;rw[hrun _ a hA.env,Oper.upon_value,hd];obtain⟨⟨R,s1,s2⟩,s0⟩:=hS;refine hnext (b,z) _ _ ⟨[],aj,by simpa using hA.of (by simp[fJ,gV,bU,X5,WT]) (hA.env.put (by grind[rY,yI]) _),?_⟩;rw[uA];refine⟨⟨R,by rw[BR];exact aVY s1,λz hz=>?_⟩,s0⟩;rcases iO.1 hz with hz|hz
  ·grind
  ·simp at hz;subst hz;exact hw
 ·cases h1
theorem qal{tk:TK}{zz:Nat}{z1:List SV}{b:Nat}(p:Nat)(h24:0<=i/\i<24)(hs:opS (i4 T n K cf m e L)=some (o,Lv,cf1,cf2,K',m',e',L'))(ho:(o.op,o.dst)=(.load t x,some d))(hx:iL e' x=some (.e ⟨some ⟨b,z,none⟩,0⟩ 1 i.toNat 0))(hp:Lv[p]?=some (.w b0 b z))(hb:I7 b0 Lv=some (aB l))(ht:AU T t=some ⟨tk,false,zz,z1⟩)(hF:(idx l i).bind kf=some q)
  (kk:∀u,kf u=some q->G (.mk P T hT n c B0 N X Q) K' m' ((d,.b u)::e') L' cf2):G (.mk P T hT n c B0 N X Q) K m e L cf:=by
 cases hi:idx l i with
 |none=>grind
 |some u=>
  rw[hi] at hF;refine pu hs (dA Prod.snd ho) (λB a w hA hS=>?_) (kk u hF);obtain⟨v,h1,h2⟩:=eH hA hx;have hw:B[b0]?=some (b,z):=by obtain⟨⟨R,_,s2⟩,_⟩:=id hS;exact s2 _ (K9 hp)
  refine aVS (a:=.p b0 i.toNat) (r:=.b u) hT hS (dA Prod.fst ho) h2 ((elP hw).trans h1) ?_;simp only[aR4,hb,ht];rw[aYT aa,TW,(CI hi).2.2];rfl
theorem bGX{v:SV}{y:Operand}(h:iL [] y=some v)(e:SE):iL e y=some v:=by cases y<;>first|exact h|grind[iL,EO]
theorem qas{tk:TK}{ag:Bool}{z1:List SV}{u:Bool}{b k0:Nat}(p:Nat)(h24:0<=i/\i<24)(hs:i4 T n K cf m e L=.op o Lv cf1 cf2 K' m' e' L')(ho:(o.op,o.dst)=(.store t (.tmp k0) y,none))(hx:EO e' k0=some (.e ⟨some ⟨b,z,none⟩,0⟩ 1 i.toNat 0))(hy:iL [] y=some (.l u))(hp:L'[p]?=some (.w b0 b z))(hib:T2 b0 L'=true)(hb:I7 b0 L'=some (aB l))(ht:AU T t=some ⟨tk,ag,1,z1⟩)(hz:noD cf1=true)(hF:(idx l i).bind kf=some q)
  (kk:∀v,kf v=some q->G (.mk P T hT n c B0 N X Q) K' m' e' (uK b0 (aB (l.set i.toNat u)) L') cf2):G (.mk P T hT n c B0 N X Q) K m e L cf:=by
 cases hi:idx l i with
 |none=>grind
 |some v=>
  rw[hi] at hF;obtain⟨i0,i1,i2⟩:=CI hi;have hlt:i.toNat<l.length:=aa
  have ho':o.op=.store t (.tmp k0) y:=dA Prod.fst ho;have hd:o.dst=none:=dA Prod.snd ho;have hst:VD T t (.p b0 i.toNat) (.l u) L'=some (uK b0 ((aB l).set i.toNat (.l u)) L'):=by
   have e1:Nat.beq 1 1=true:=rfl;have e2:Nat.ble (i.toNat+1) (aB l).length=true:=by rw[Nat.ble_eq];show i.toNat+1<=24;omega
   have e3:oR (.l u)=[.l u]:=rfl;have e4:isCells (.l u)=true:=rfl;simp only[VD,hib,hb,ht,e3,e4,List.length_singleton,e1,e2,aWG];simp_all[aL9,a5G]
  refine gW (g:=.mk P T hT n c B0 N X Q) ?_;rw[hs];intro hdn _ hE;refine hE Unit (λ_=>m') (λ_=>e') (λ_=>uK b0 (aB (l.set i.toNat u)) L') (λ_=>?_) (λB a w next Q' hm hA hS hnext=>?_) (λ_=>kk v hF)
  ·cases cf1 with
   |d _ _ _ _ _ _=>cases hz
   |o _ _ _ _ _ _ _=>cases hz
   |_=>trivial
  ·have hw:(B0S (.mk P T hT n c B0 N X Q) cf1++B)[b0]?=some (b,z):=by obtain⟨⟨R,_,s2⟩,_⟩:=id hS;exact s2 _ (K9 hp)
   have hA2:gU n (B0S (.mk P T hT n c B0 N X Q) cf1++B) ((k0,.p b0 i.toNat)::e') a:=⟨hA.d,hA.size,λk' x' hk=>by
    simp only[EO] at hk;split at hk
    ·rename_i hq;cases hk;have:=pM hq;subst this;obtain⟨v,g1,g2⟩:=hA.get k' _ hx;grind[elP]
    ·exact hA.get k' x' hk⟩
   obtain⟨w',k1,k2⟩:=aR7 hT hA2 hS ho' (by simp[iL,EO]) (bGX hy _) hst;unfold Oper.wp;rw[k1 _ a hA2.env,Oper.upon_skip,hd];refine hnext () _ _ ⟨[],aj,by rw[uA];exact⟨hA.d,hA.size,hA.get⟩,?_⟩;rw[uA];obtain⟨j,cs,g1,g2,g3⟩:=aMC hib;rw[g3] at k2 ⊢;obtain⟨⟨R,s1,s2⟩,s0⟩:=k2;have e0:∀B:Bl,aW (bU B) ((aB l).set i.toNat (.l u))=aW (bU B) (aB (l.set i.toNat u)):=λB=>by rw[<-bEE aa hlt,<-QT,<-QT (cs:=(aB l).set i.toNat (.b u)),aTS,aTS];rfl
   refine⟨⟨R,?_,λz hz=>?_⟩,s0⟩
   ·rw[MX] at s1 ⊢;refine s1.imp (jI.set j (jI.refl _) λF ⟨b,z,vs,q1,q2,q3⟩=>⟨b,z,vs,q1,(e0 _).symm.trans q2,q3⟩)
   ·obtain⟨k,hk⟩:=aHR hz;by_cases hkj:j=k
    ·subst hkj;rw[List.getElem?_set] at hk;simp only[bV] at hk;split at hk
     ·cases hk;trivial
     ·cases hk
    ·exact s2 z (K9 (i:=k) aj)
end
theorem aSF[aL O]{l:List O}{sz:Nat}(hn:aL.n O=sz){F:cV}(h:(pP (s.v l.length) l 0).P w F):l.length<=s.c/\∃F',aL.own w [(s.sub sz (1:Int).toNat).v ((l.take l.length).drop (1:Int).toNat).length] ((l.take l.length).drop (1:Int).toNat) F'/\∀b o,F' b o->F b o:=by
 obtain⟨a,c,b,off,c1,c2,F1,F2,e,h1,h2,hk,rfl,hr,k1,k2,o1,o2,d1,d2,d3,hF⟩:=h;subst hn;obtain⟨sa,sc⟩:=s;simp only[AC.v,Value.slice.injEq] at e;obtain⟨rfl,-,rfl⟩:=e;refine⟨h1,?_⟩;have e1:(l.take l.length).drop (1:Int).toNat=l.drop 1:=ae
 rw[e1];have hlen:(l.drop 1).length=l.length-1:=ae
 by_cases hc:sc=1
 ·have hz:l.drop 1=[]:=xL aa;refine⟨F0,?_,λ_ _ h=>h.elim⟩;subst hc;rw[hz];exact lZ.2 ⟨some ⟨b,off,none⟩,0,rfl,kY _,lX _,.inr ⟨b,off,[],F0,rfl,λo p=>by obtain⟨_,p1,p2⟩:=p;omega,λj v h=>by simp at h,⟨rfl,λ_ _ h=>h⟩,λ_ _ h=>h.elim,λb' o=>by simp[F0,eK]⟩⟩
 ·have hmul:aL.n O+(sc-1)*aL.n O=sc*aL.n O:=by obtain⟨m,rfl⟩:∃m,sc=m+1:=⟨sc-1,aa⟩;rw[nK,Nat.add_sub_cancel];omega
  have e4:AC.v (AC.sub ⟨some ⟨b,off,none⟩,sc⟩ (aL.n O) (1:Int).toNat) (l.drop 1).length=.slice (some ⟨b,off+aL.n O,none⟩) (l.drop 1).length (sc-1):=by show AC.v (AC.sub ⟨some ⟨b,off,none⟩,sc⟩ (aL.n O) 1) _=_;simp[AC.sub,AC.v,hc,Addr.add]
  rw[e4];simp only[aBM,Nat.one_mul] at k2 o2;refine⟨λb' o=>eK b (off+aL.n O) ((sc-1)*aL.n O) b' o\/F2 b' o,JF (λo p=>hr o ?_ ?_) k2 o2 (λb' o p q=>d3 b' o p ?_) aa aa,?_⟩
  ·obtain⟨_,p1,p2⟩:=p;exact⟨rfl,aa,aa⟩
  ·rintro⟨_,q1,q2⟩;obtain⟨_,p1,p2⟩:=p;omega
  ·obtain⟨p0,p1,p2⟩:=q;exact⟨p0,aa,aa⟩
  ·rintro b' o (p|p)
   ·refine(hF b' o).2 (.inl ⟨?_,?_⟩)
    ·obtain⟨p0,p1,p2⟩:=p;exact⟨p0,aa,aa⟩
    ·rintro⟨_,q1,q2⟩;obtain⟨_,p1,p2⟩:=p;omega
   ·exact(hF b' o).2 (.inr (.inr p))
section
variable {P:Program} {T:TT} {hT:FY P T} {n:Nat} {c:Ctx} {B0:Bl} {N:Act->World->Prop} {X:Nat->Act->World->Prop} {Q:Act->World->Prop} {K K':List Fr} {m m':Nat} {e e':SE} {L L':List Ch} {cf cf':uB}
theorem hoT[aL O](j:Nat){sz:Nat}{l:List O}(hn:aL.n O=sz)(hs:T3 (i4 T n K cf m e L)=some (K',cf',m',e',L'))(hj:L'[j]?=some (.o (pP (s.v l.length) l 0)))(hz:fX j cf'.AR=true)
  (k:l.length<=s.c->G (.mk P T hT n c B0 N X Q) K' m' e' (L'.set j (ow (s.sub sz (1:Int).toNat) ((l.take l.length).drop (1:Int).toNat))) cf'):G (.mk P T hT n c B0 N X Q) K m e L cf:=by
 refine go hs (chg (λ_:PLift (l.length<=s.c)=>m') (λ_=>e') (λ_=>L'.set j (ow (s.sub sz (1:Int).toNat) ((l.take l.length).drop (1:Int).toNat))) (λB a' w hm hA hS=>?_) (λ_=>LB hz) (λh=>k h.down));obtain⟨⟨R,s1,s2⟩,s0⟩:=hS;obtain⟨F1,hF1⟩:=s1.chunk (ch:=pP (s.v l.length) l 0) j (by simp[hj,kL]);refine⟨⟨(aSF hn hF1).1⟩,[],aj,aj,⟨⟨R,?_,λz hz=>?_⟩,s0⟩⟩
 ·rw[uA,MX];refine s1.aDO j (by rw[CH,hj];rfl) λF hF=>?_;obtain⟨_,F',h1,h2⟩:=aSF hn hF;exact⟨F',F0,eJ.refl _ _,λ_ _ h=>h.elim,h1,λb o h=>.inl (h2 b o h)⟩
 ·rw[uA];rcases rV hz with hz|hz
  ·grind
  ·subst hz;trivial
end
section
variable {P:Program} {T:TT} {hT:FY P T} {n:Nat} {c:Ctx} {B0:Bl} {N:Act->World->Prop} {X:Nat->Act->World->Prop} {Q:Act->World->Prop} {K K':List Fr} {m m':Nat} {e e':SE} {L L':List Ch} {cf cf1 cf2:uB} {o:Oper}
variable {O J ex:Type} {fo:Option O} {kf:O->Option J} {q:J} {d:Option Nat} {f:FuncId} {xs xs0:List SV} {M:List Ch} {sv:O->ex->SV} {Lr:O->ex->List Ch}
theorem WV(is:List Nat)
  (hs:cpS (i4 T n K cf m e L)=some (o,d,f,xs,cf1,cf2,K',m',e',L')) (hi:aW (λi=>L'[i]?) is=some M) (hx:aW (rnP [] 0) xs=some xs0)
  (hk:(I3 M && (dJ is && is.all λj=>fX j cf1.AR))=true)
  (hc:∀{U:Ctx},HG c U L' is->VS P U f fo xs0 [] M sv Lr)
  (k:∀x,∀y:ex,W (G (.mk P T hT n c B0 N X Q) K' m' (dse d (sv x y) e') (aD6 is 0 L'++Lr x y) cf2) q (kf x)) (hn:∀x y,(I3 (Lr x y) && AQ 0 (sv x y))=true:=by exact λ_ _=>rfl):W (G (.mk P T hT n c B0 N X Q) K m e L cf) q (fo.bind kf):=
 iB is ⟨hs,hi,hx,hk⟩ hc (λx y=>by rw[aYS];exact k x y) hn
end
abbrev VI(x:Int):Value:=.int .i64 x
structure dM where
 b:List UInt8
 i:Int
 h:Int
 deriving DecidableEq,Inhabited
abbrev a1I(d:dM):=(d.b,d.i,d.h)
instance:aL dM:=aL.via a1I
instance:Fits dM:=Fits.via a1I
structure kG where
 Kind:Int
 Key:Int
 eN:Int
 deriving DecidableEq,Inhabited
abbrev a61(d:kG):=(d.Kind,d.Key,d.eN)
instance:aL kG:=aL.via a61
instance:Fits kG:=Fits.via a61
theorem bEF{S:cV}{cs:List Value}{d:kG}(h:aL.rd S w cs d):cs=[VI d.Kind,VI d.Key,VI d.eN]:=by obtain⟨c0,r0,e0,h0,n0⟩:=h;have q0:c0=[_]:=h0;obtain⟨c1,r1,e1,h1,n1⟩:=n0;have q1:c1=[_]:=h1;have q2:r1=[_]:=n1;exact by rw[e0,e1,q0,q1,q2];rfl
instance:Flat kG:=⟨λh=>Flat.own_of (O:=Int×Int×Int) h,λh=>Flat.no (O:=Int×Int×Int) h⟩
theorem bEG(d:kG):OP [VI d.Kind,VI d.Key,VI d.eN] d []:=(show OP _ (a61 d) _ from(eW (c1:=[VI d.Kind]) (A:=[]) (eG rfl) (eW (c1:=[VI d.Key]) (A:=[]) (eG rfl) (eG rfl) rfl) rfl))
structure Batch where
 Collect:Bool
 bD:List kG
 deriving DecidableEq,Inhabited
abbrev aTT(d:Batch):=(d.Collect,d.bD)
instance:aL Batch:=aL.via aTT
instance:Fits Batch:=Fits.via aTT
theorem aWH{S:cV}{cs:List Value}{d:Batch}(h:aL.rd S w cs d):∃v0:Value,cs=[.bool d.Collect,v0]/\aL.rd S w [v0] d.bD:=by obtain⟨c0,r0,e0,h0,n0⟩:=h;have q0:c0=[_]:=h0;obtain⟨u1,q1⟩:=j4 n0;rw[q1] at n0;exact⟨u1,by rw[e0,q0,q1];rfl,n0⟩
theorem aWI(d:Batch):OP [.bool d.Collect,v0] d [fK [v0] d.bD]:=(show OP _ (aTT d) _ from(eW (c1:=[.bool d.Collect]) (A:=[]) (eG rfl) LZ rfl))
structure aN where
 List:List Batch
 deriving DecidableEq,Inhabited
abbrev aMM(d:aN):=(d.List)
instance:aL aN:=aL.via aMM
instance:Fits aN:=Fits.via aMM
theorem a2T{S:cV}{cs:List Value}{d:aN}(h:aL.rd S w cs d):∃v0:Value,cs=[v0]/\aL.rd S w [v0] d.List:=by obtain⟨u0,q0⟩:=j4 h;rw[q0] at h;exact⟨u0,q0,h⟩
theorem a2U(d:aN):OP [v0] d [fK [v0] d.List]:=(show OP _ (aMM d) _ from LZ)
structure pR where
 bK:List aN
 gN:List Int
 deriving DecidableEq,Inhabited
abbrev aSG(d:pR):=(d.bK,d.gN)
instance:aL pR:=aL.via aSG
instance:Fits pR:=Fits.via aSG
structure Heap where
 Bytes:List Int
 Class:List Int
 deriving DecidableEq,Inhabited
abbrev a62(d:Heap):=(d.Bytes,d.Class)
instance:aL Heap:=aL.via a62
instance:Fits Heap:=Fits.via a62
structure aZ where
 aU:List Int
 deriving DecidableEq,Inhabited
abbrev aTU(d:aZ):=(d.aU)
instance:aL aZ:=aL.via aTU
instance:Fits aZ:=Fits.via aTU
theorem a63{S:cV}{cs:List Value}{d:aZ}(h:aL.rd S w cs d):∃v0:Value,cs=[v0]/\aL.rd S w [v0] d.aU:=by obtain⟨u0,q0⟩:=j4 h;rw[q0] at h;exact⟨u0,q0,h⟩
theorem YN(d:aZ):OP [v0] d [fK [v0] d.aU]:=(show OP _ (aTU d) _ from LZ)
structure aD where
 Global:List aZ
 Own:List aZ
 deriving DecidableEq,Inhabited
abbrev a1J(d:aD):=(d.Global,d.Own)
instance:aL aD:=aL.via a1J
instance:Fits aD:=Fits.via a1J
structure Mem where
 Heap:Heap
 aD:aD
 deriving DecidableEq,Inhabited
abbrev bCI(d:Mem):=(d.Heap,d.aD)
instance:aL Mem:=aL.via bCI
instance:Fits Mem:=Fits.via bCI
structure yK where
 On:Bool
 aP:Int
 iV:Bool
 Seen:Int
 deriving DecidableEq,Inhabited
abbrev a64(d:yK):=(d.On,d.aP,d.iV,d.Seen)
instance:aL yK:=aL.via a64
instance:Fits yK:=Fits.via a64
theorem bEH{S:cV}{cs:List Value}{d:yK}(h:aL.rd S w cs d):cs=[.bool d.On,VI d.aP,.bool d.iV,VI d.Seen]:=by obtain⟨c0,r0,e0,h0,n0⟩:=h;have q0:c0=[_]:=h0;obtain⟨c1,r1,e1,h1,n1⟩:=n0;have q1:c1=[_]:=h1;obtain⟨c2,r2,e2,h2,n2⟩:=n1;have q2:c2=[_]:=h2;have q3:r2=[_]:=n2;exact by rw[e0,e1,e2,q0,q1,q2,q3];rfl
theorem bEI{S:cV}(d:yK):aL.rd S w [.bool d.On,VI d.aP,.bool d.iV,VI d.Seen] d:=⟨[.bool d.On],[VI d.aP,.bool d.iV,VI d.Seen],rfl,rfl,⟨[VI d.aP],[.bool d.iV,VI d.Seen],rfl,rfl,⟨[.bool d.iV],[VI d.Seen],rfl,rfl,rfl⟩⟩⟩
instance:Flat yK:=⟨λh=>Flat.own_of (O:=Bool×Int×Bool×Int) h,λh=>Flat.no (O:=Bool×Int×Bool×Int) h⟩
theorem bEJ(d:yK):OP [.bool d.On,VI d.aP,.bool d.iV,VI d.Seen] d []:=(show OP _ (a64 d) _ from(eW (c1:=[.bool d.On]) (A:=[]) (eG rfl) (eW (c1:=[VI d.aP]) (A:=[]) (eG rfl) (eW (c1:=[.bool d.iV]) (A:=[]) (eG rfl) (eG rfl) rfl) rfl) rfl))
structure aJ where
 aP:Int
 b8:List yK
 deriving DecidableEq,Inhabited
abbrev a1K(d:aJ):=(d.aP,d.b8)
instance:aL aJ:=aL.via a1K
instance:Fits aJ:=Fits.via a1K
structure dW where
 Handle:Int
 aP:Int
 deriving DecidableEq,Inhabited
abbrev aYU(d:dW):=(d.Handle,d.aP)
instance:aL dW:=aL.via aYU
instance:Fits dW:=Fits.via aYU
theorem bAY{S:cV}{cs:List Value}{d:dW}(h:aL.rd S w cs d):cs=[VI d.Handle,VI d.aP]:=by obtain⟨c0,r0,e0,h0,n0⟩:=h;have q0:c0=[_]:=h0;have q1:r0=[_]:=n0;exact by rw[e0,q0,q1];rfl
theorem bAZ{S:cV}(d:dW):aL.rd S w [VI d.Handle,VI d.aP] d:=⟨[VI d.Handle],[VI d.aP],rfl,rfl,rfl⟩
instance:Flat dW:=⟨λh=>Flat.own_of (O:=Int×Int) h,λh=>Flat.no (O:=Int×Int) h⟩
theorem bA0(d:dW):OP [VI d.Handle,VI d.aP] d []:=(show OP _ (aYU d) _ from(eW (c1:=[VI d.Handle]) (A:=[]) (eG rfl) (eG rfl) rfl))
structure bM where
 Rows:List dW
 deriving DecidableEq,Inhabited
abbrev aTV(d:bM):=(d.Rows)
instance:aL bM:=aL.via aTV
instance:Fits bM:=Fits.via aTV
theorem a65{S:cV}{cs:List Value}{d:bM}(h:aL.rd S w cs d):∃v0:Value,cs=[v0]/\aL.rd S w [v0] d.Rows:=by obtain⟨u0,q0⟩:=j4 h;rw[q0] at h;exact⟨u0,q0,h⟩
theorem aWJ(d:bM):OP [v0] d [fK [v0] d.Rows]:=(show OP _ (aTV d) _ from LZ)
structure aA where
 Mem:Mem
 aJ:aJ
 aV:List bM
 jJ:List Int
 deriving DecidableEq,Inhabited
abbrev a66(d:aA):=(d.Mem,d.aJ,d.aV,d.jJ)
instance:aL aA:=aL.via a66
instance:Fits aA:=Fits.via a66
structure bZ where
 Head:Int
 dZ:Int
 eA:Int
 deriving DecidableEq,Inhabited
abbrev a67(d:bZ):=(d.Head,d.dZ,d.eA)
instance:aL bZ:=aL.via a67
instance:Fits bZ:=Fits.via a67
theorem bEK{S:cV}{cs:List Value}{d:bZ}(h:aL.rd S w cs d):cs=[VI d.Head,VI d.dZ,VI d.eA]:=by obtain⟨c0,r0,e0,h0,n0⟩:=h;have q0:c0=[_]:=h0;obtain⟨c1,r1,e1,h1,n1⟩:=n0;have q1:c1=[_]:=h1;have q2:r1=[_]:=n1;exact by rw[e0,e1,q0,q1,q2];rfl
theorem bEL{S:cV}(d:bZ):aL.rd S w [VI d.Head,VI d.dZ,VI d.eA] d:=⟨[VI d.Head],[VI d.dZ,VI d.eA],rfl,rfl,⟨[VI d.dZ],[VI d.eA],rfl,rfl,rfl⟩⟩
instance:Flat bZ:=⟨λh=>Flat.own_of (O:=Int×Int×Int) h,λh=>Flat.no (O:=Int×Int×Int) h⟩
theorem bEM(d:bZ):OP [VI d.Head,VI d.dZ,VI d.eA] d []:=(show OP _ (a67 d) _ from(eW (c1:=[VI d.Head]) (A:=[]) (eG rfl) (eW (c1:=[VI d.dZ]) (A:=[]) (eG rfl) (eG rfl) rfl) rfl))
structure eD where
 Key:Int
 eN:Int
 Next:Int
 deriving DecidableEq,Inhabited
abbrev a1L(d:eD):=(d.Key,d.eN,d.Next)
instance:aL eD:=aL.via a1L
instance:Fits eD:=Fits.via a1L
theorem a68{S:cV}{cs:List Value}{d:eD}(h:aL.rd S w cs d):cs=[VI d.Key,VI d.eN,VI d.Next]:=by obtain⟨c0,r0,e0,h0,n0⟩:=h;have q0:c0=[_]:=h0;obtain⟨c1,r1,e1,h1,n1⟩:=n0;have q1:c1=[_]:=h1;have q2:r1=[_]:=n1;exact by rw[e0,e1,q0,q1,q2];rfl
theorem a69{S:cV}(d:eD):aL.rd S w [VI d.Key,VI d.eN,VI d.Next] d:=⟨[VI d.Key],[VI d.eN,VI d.Next],rfl,rfl,⟨[VI d.eN],[VI d.Next],rfl,rfl,rfl⟩⟩
instance:Flat eD:=⟨λh=>Flat.own_of (O:=Int×Int×Int) h,λh=>Flat.no (O:=Int×Int×Int) h⟩
structure Sub where
 Kind:Int
 A:Int
 Pc:Int
 E:Int
 Row:Int
 B:Int
 H:Int
 Out:Int
 Code:Int
 jA:Bool
 deriving DecidableEq,Inhabited
abbrev bCJ(d:Sub):=(d.Kind,d.A,d.Pc,d.E,d.Row,d.B,d.H,d.Out,d.Code,d.jA)
instance:aL Sub:=aL.via bCJ
instance:Fits Sub:=Fits.via bCJ
theorem bEN{S:cV}{cs:List Value}{d:Sub}(h:aL.rd S w cs d):cs=[VI d.Kind,VI d.A,VI d.Pc,VI d.E,VI d.Row,VI d.B,VI d.H,VI d.Out,VI d.Code,.bool d.jA]:=by obtain⟨c0,r0,e0,h0,n0⟩:=h;have q0:c0=[_]:=h0;obtain⟨c1,r1,e1,h1,n1⟩:=n0;have q1:c1=[_]:=h1;obtain⟨c2,r2,e2,h2,n2⟩:=n1;have q2:c2=[_]:=h2;obtain⟨c3,r3,e3,h3,n3⟩:=n2;have q3:c3=[_]:=h3;obtain⟨c4,r4,e4,h4,n4⟩:=n3;have q4:c4=[_]:=h4;obtain⟨c5,r5,e5,h5,n5⟩:=n4;have q5:c5=[_]:=h5;obtain⟨c6,r6,e6,h6,n6⟩:=n5;have q6:c6=[_]:=h6;obtain⟨c7,r7,e7,h7,n7⟩:=n6;have q7:c7=[_]:=h7;obtain⟨c8,r8,e8,h8,n8⟩:=n7;have q8:c8=[_]:=h8;have q9:r8=[_]:=n8;exact by rw[e0,e1,e2,e3,e4,e5,e6,e7,e8,q0,q1,q2,q3,q4,q5,q6,q7,q8,q9];rfl
theorem bEO{S:cV}(d:Sub):aL.rd S w [VI d.Kind,VI d.A,VI d.Pc,VI d.E,VI d.Row,VI d.B,VI d.H,VI d.Out,VI d.Code,.bool d.jA] d:=⟨[VI d.Kind],[VI d.A,VI d.Pc,VI d.E,VI d.Row,VI d.B,VI d.H,VI d.Out,VI d.Code,.bool d.jA],rfl,rfl,⟨[VI d.A],[VI d.Pc,VI d.E,VI d.Row,VI d.B,VI d.H,VI d.Out,VI d.Code,.bool d.jA],rfl,rfl,⟨[VI d.Pc],[VI d.E,VI d.Row,VI d.B,VI d.H,VI d.Out,VI d.Code,.bool d.jA],rfl,rfl,⟨[VI d.E],[VI d.Row,VI d.B,VI d.H,VI d.Out,VI d.Code,.bool d.jA],rfl,rfl,⟨[VI d.Row],[VI d.B,VI d.H,VI d.Out,VI d.Code,.bool d.jA],rfl,rfl,⟨[VI d.B],[VI d.H,VI d.Out,VI d.Code,.bool d.jA],rfl,rfl,⟨[VI d.H],[VI d.Out,VI d.Code,.bool d.jA],rfl,rfl,⟨[VI d.Out],[VI d.Code,.bool d.jA],rfl,rfl,⟨[VI d.Code],[.bool d.jA],rfl,rfl,rfl⟩⟩⟩⟩⟩⟩⟩⟩⟩
instance:Flat Sub:=⟨λh=>Flat.own_of (O:=Int×Int×Int×Int×Int×Int×Int×Int×Int×Bool) h,λh=>Flat.no (O:=Int×Int×Int×Int×Int×Int×Int×Int×Int×Bool) h⟩
structure Seen where
 bZ:Int
 dZ:Int
 deriving DecidableEq,Inhabited
abbrev aYV(d:Seen):=(d.bZ,d.dZ)
instance:aL Seen:=aL.via aYV
instance:Fits Seen:=Fits.via aYV
theorem bA1{S:cV}{cs:List Value}{d:Seen}(h:aL.rd S w cs d):cs=[VI d.bZ,VI d.dZ]:=by obtain⟨c0,r0,e0,h0,n0⟩:=h;have q0:c0=[_]:=h0;have q1:r0=[_]:=n0;exact by rw[e0,q0,q1];rfl
instance:Flat Seen:=⟨λh=>Flat.own_of (O:=Int×Int) h,λh=>Flat.no (O:=Int×Int) h⟩
theorem bA2(d:Seen):OP [VI d.bZ,VI d.dZ] d []:=(show OP _ (aYV d) _ from(eW (c1:=[VI d.bZ]) (A:=[]) (eG rfl) (eG rfl) rfl))
structure aQ where
 Key:Int
 GC:Bool
 eN:Int
 deriving DecidableEq,Inhabited
abbrev aTW(d:aQ):=(d.Key,d.GC,d.eN)
instance:aL aQ:=aL.via aTW
instance:Fits aQ:=Fits.via aTW
theorem a7A{S:cV}{cs:List Value}{d:aQ}(h:aL.rd S w cs d):cs=[VI d.Key,.bool d.GC,VI d.eN]:=by obtain⟨c0,r0,e0,h0,n0⟩:=h;have q0:c0=[_]:=h0;obtain⟨c1,r1,e1,h1,n1⟩:=n0;have q1:c1=[_]:=h1;have q2:r1=[_]:=n1;exact by rw[e0,e1,q0,q1,q2];rfl
theorem a7B{S:cV}(d:aQ):aL.rd S w [VI d.Key,.bool d.GC,VI d.eN] d:=⟨[VI d.Key],[.bool d.GC,VI d.eN],rfl,rfl,⟨[.bool d.GC],[VI d.eN],rfl,rfl,rfl⟩⟩
instance:Flat aQ:=⟨λh=>Flat.own_of (O:=Int×Bool×Int) h,λh=>Flat.no (O:=Int×Bool×Int) h⟩
theorem a7C(d:aQ):OP [VI d.Key,.bool d.GC,VI d.eN] d []:=(show OP _ (aTW d) _ from(eW (c1:=[VI d.Key]) (A:=[]) (eG rfl) (eW (c1:=[.bool d.GC]) (A:=[]) (eG rfl) (eG rfl) rfl) rfl))
structure cJ where
 Is:Bool
 eN:Int
 deriving DecidableEq,Inhabited
abbrev a7D(d:cJ):=(d.Is,d.eN)
instance:aL cJ:=aL.via a7D
instance:Fits cJ:=Fits.via a7D
theorem bEP{S:cV}{cs:List Value}{d:cJ}(h:aL.rd S w cs d):cs=[.bool d.Is,VI d.eN]:=by obtain⟨c0,r0,e0,h0,n0⟩:=h;have q0:c0=[_]:=h0;have q1:r0=[_]:=n0;exact by rw[e0,q0,q1];rfl
instance:Flat cJ:=⟨λh=>Flat.own_of (O:=Bool×Int) h,λh=>Flat.no (O:=Bool×Int) h⟩
theorem bEQ(d:cJ):OP [.bool d.Is,VI d.eN] d []:=(show OP _ (a7D d) _ from(eW (c1:=[.bool d.Is]) (A:=[]) (eG rfl) (eG rfl) rfl))
structure aG where
 kN:Bool
 Batch:Batch
 aI:Int
 Pc:Int
 At:Int
 K:Int
 bZ:Int
 dZ:Int
 H:Int
 gT:Int
 Node:eD
 Found:Bool
 Code:Int
 Sub:Sub
 Reads:List Seen
 aE:List aQ
 cJ:List cJ
 cT:List Int
 aS:List Int
 bE:List Int
 deriving DecidableEq,Inhabited
abbrev aYW(d:aG):=(d.kN,d.Batch,d.aI,d.Pc,d.At,d.K,d.bZ,d.dZ,d.H,d.gT,d.Node,d.Found,d.Code,d.Sub,d.Reads,d.aE,d.cJ,d.cT,d.aS,d.bE)
instance:aL aG:=aL.via aYW
instance:Fits aG:=Fits.via aYW
theorem bA3{S:cV}{cs:List Value}{d:aG}(h:aL.rd S w cs d):∃v0 v1 v2 v3 v4 v5 v6:Value,cs=[.bool d.kN,.bool d.Batch.Collect,v0,VI d.aI,VI d.Pc,VI d.At,VI d.K,VI d.bZ,VI d.dZ,VI d.H,VI d.gT,VI d.Node.Key,VI d.Node.eN,VI d.Node.Next,.bool d.Found,VI d.Code,VI d.Sub.Kind,VI d.Sub.A,VI d.Sub.Pc,VI d.Sub.E,VI d.Sub.Row,VI d.Sub.B,VI d.Sub.H,VI d.Sub.Out,VI d.Sub.Code,.bool d.Sub.jA,v1,v2,v3,v4,v5,v6]/\aL.rd S w [v0] d.Batch.bD/\aL.rd S w [v1] d.Reads/\aL.rd S w [v2] d.aE/\aL.rd S w [v3] d.cJ/\aL.rd S w [v4] d.cT/\aL.rd S w [v5] d.aS/\aL.rd S w [v6] d.bE:=by obtain⟨c0,r0,e0,h0,n0⟩:=h;have q0:c0=[_]:=h0;obtain⟨c1,r1,e1,h1,n1⟩:=n0;obtain⟨u1_0,q1,hq1_0⟩:=aWH h1;obtain⟨c2,r2,e2,h2,n2⟩:=n1;have q2:c2=[_]:=h2;obtain⟨c3,r3,e3,h3,n3⟩:=n2;have q3:c3=[_]:=h3;obtain⟨c4,r4,e4,h4,n4⟩:=n3;have q4:c4=[_]:=h4;obtain⟨c5,r5,e5,h5,n5⟩:=n4;have q5:c5=[_]:=h5;obtain⟨c6,r6,e6,h6,n6⟩:=n5;have q6:c6=[_]:=h6;obtain⟨c7,r7,e7,h7,n7⟩:=n6;have q7:c7=[_]:=h7;obtain⟨c8,r8,e8,h8,n8⟩:=n7;have q8:c8=[_]:=h8;obtain⟨c9,r9,e9,h9,n9⟩:=n8;have q9:c9=[_]:=h9;obtain⟨c10,r10,e10,h10,n10⟩:=n9;have q10:=a68 h10;obtain⟨c11,r11,e11,h11,n11⟩:=n10;have q11:c11=[_]:=h11;obtain⟨c12,r12,e12,h12,n12⟩:=n11;have q12:c12=[_]:=h12;obtain⟨c13,r13,e13,h13,n13⟩:=n12;have q13:=bEN h13;obtain⟨c14,r14,e14,h14,n14⟩:=n13;obtain⟨u14,q14⟩:=j4 h14;rw[q14] at h14;obtain⟨c15,r15,e15,h15,n15⟩:=n14;obtain⟨u15,q15⟩:=j4 h15;rw[q15] at h15;obtain⟨c16,r16,e16,h16,n16⟩:=n15;obtain⟨u16,q16⟩:=j4 h16;rw[q16] at h16;obtain⟨c17,r17,e17,h17,n17⟩:=n16;obtain⟨u17,q17⟩:=j4 h17;rw[q17] at h17;obtain⟨c18,r18,e18,h18,n18⟩:=n17;obtain⟨u18,q18⟩:=j4 h18;rw[q18] at h18;obtain⟨u19,q19⟩:=j4 n18;rw[q19] at n18;exact⟨u1_0,u14,u15,u16,u17,u18,u19,by rw[e0,e1,e2,e3,e4,e5,e6,e7,e8,e9,e10,e11,e12,e13,e14,e15,e16,e17,e18,q0,q1,q2,q3,q4,q5,q6,q7,q8,q9,q10,q11,q12,q13,q14,q15,q16,q17,q18,q19];rfl,hq1_0,h14,h15,h16,h17,h18,n18⟩
theorem a1M(d:aG){v1:Value}{v2:Value}{v3:Value}{v4:Value}{v5:Value}{v6:Value}:OP [.bool d.kN,.bool d.Batch.Collect,v0,VI d.aI,VI d.Pc,VI d.At,VI d.K,VI d.bZ,VI d.dZ,VI d.H,VI d.gT,VI d.Node.Key,VI d.Node.eN,VI d.Node.Next,.bool d.Found,VI d.Code,VI d.Sub.Kind,VI d.Sub.A,VI d.Sub.Pc,VI d.Sub.E,VI d.Sub.Row,VI d.Sub.B,VI d.Sub.H,VI d.Sub.Out,VI d.Sub.Code,.bool d.Sub.jA,v1,v2,v3,v4,v5,v6] d [fK [v0] d.Batch.bD,fK [v1] d.Reads,fK [v2] d.aE,fK [v3] d.cJ,fK [v4] d.cT,fK [v5] d.aS,fK [v6] d.bE]:=(show OP _ (aYW d) _ from(eW (c1:=[.bool d.kN]) (A:=[]) (eG rfl) (eW (c1:=[.bool d.Batch.Collect,v0]) (A:=[fK [v0] d.Batch.bD]) (aWI _) (eW (c1:=[VI d.aI]) (A:=[]) (eG rfl) (eW (c1:=[VI d.Pc]) (A:=[]) (eG rfl) (eW (c1:=[VI d.At]) (A:=[]) (eG rfl) (eW (c1:=[VI d.K]) (A:=[]) (eG rfl) (eW (c1:=[VI d.bZ]) (A:=[]) (eG rfl) (eW (c1:=[VI d.dZ]) (A:=[]) (eG rfl) (eW (c1:=[VI d.H]) (A:=[]) (eG rfl) (eW (c1:=[VI d.gT]) (A:=[]) (eG rfl) (eW (c1:=[VI d.Node.Key,VI d.Node.eN,VI d.Node.Next]) (A:=[]) (eG (a69 _)) (eW (c1:=[.bool d.Found]) (A:=[]) (eG rfl) (eW (c1:=[VI d.Code]) (A:=[]) (eG rfl) (eW (c1:=[VI d.Sub.Kind,VI d.Sub.A,VI d.Sub.Pc,VI d.Sub.E,VI d.Sub.Row,VI d.Sub.B,VI d.Sub.H,VI d.Sub.Out,VI d.Sub.Code,.bool d.Sub.jA]) (A:=[]) (eG (bEO _)) (eW (c1:=[v1]) (A:=[fK [v1] d.Reads]) LZ (eW (c1:=[v2]) (A:=[fK [v2] d.aE]) LZ (eW (c1:=[v3]) (A:=[fK [v3] d.cJ]) LZ (eW (c1:=[v4]) (A:=[fK [v4] d.cT]) LZ (eW (c1:=[v5]) (A:=[fK [v5] d.aS]) LZ LZ rfl) rfl) rfl) rfl) rfl) rfl) rfl) rfl) rfl) rfl) rfl) rfl) rfl) rfl) rfl) rfl) rfl) rfl) rfl))
structure lG where
 Kind:Int
 Who:Int
 aI:Int
 Code:Int
 bD:List kG
 cJ:List cJ
 deriving DecidableEq,Inhabited
abbrev a7E(d:lG):=(d.Kind,d.Who,d.aI,d.Code,d.bD,d.cJ)
instance:aL lG:=aL.via a7E
instance:Fits lG:=Fits.via a7E
theorem bER{S:cV}{cs:List Value}{d:lG}(h:aL.rd S w cs d):∃v0 v1:Value,cs=[VI d.Kind,VI d.Who,VI d.aI,VI d.Code,v0,v1]/\aL.rd S w [v0] d.bD/\aL.rd S w [v1] d.cJ:=by obtain⟨c0,r0,e0,h0,n0⟩:=h;have q0:c0=[_]:=h0;obtain⟨c1,r1,e1,h1,n1⟩:=n0;have q1:c1=[_]:=h1;obtain⟨c2,r2,e2,h2,n2⟩:=n1;have q2:c2=[_]:=h2;obtain⟨c3,r3,e3,h3,n3⟩:=n2;have q3:c3=[_]:=h3;obtain⟨c4,r4,e4,h4,n4⟩:=n3;obtain⟨u4,q4⟩:=j4 h4;rw[q4] at h4;obtain⟨u5,q5⟩:=j4 n4;rw[q5] at n4;exact⟨u4,u5,by rw[e0,e1,e2,e3,e4,q0,q1,q2,q3,q4,q5];rfl,h4,n4⟩
theorem bES(d:lG){v1:Value}:OP [VI d.Kind,VI d.Who,VI d.aI,VI d.Code,v0,v1] d [fK [v0] d.bD,fK [v1] d.cJ]:=(show OP _ (a7E d) _ from(eW (c1:=[VI d.Kind]) (A:=[]) (eG rfl) (eW (c1:=[VI d.Who]) (A:=[]) (eG rfl) (eW (c1:=[VI d.aI]) (A:=[]) (eG rfl) (eW (c1:=[VI d.Code]) (A:=[]) (eG rfl) (eW (c1:=[v0]) (A:=[fK [v0] d.bD]) LZ LZ rfl) rfl) rfl) rfl) rfl))
structure Table where
 aA:aA
 aR:List bZ
 aK:List aG
 bK:List aN
 Log:List lG
 aI:Int
 deriving DecidableEq,Inhabited
abbrev a1N(d:Table):=(d.aA,d.aR,d.aK,d.bK,d.Log,d.aI)
instance:aL Table:=aL.via a1N
instance:Fits Table:=Fits.via a1N
end Go.Gv
end
