import Derived.Test.YtkinioiglogchaaGreatXQB
import Derived.RangeFuncWrites
import Derived.RangeFuncBox
import Derived.RangeFuncLeaves
import Derived.Shelf.Abstract
import Derived.WalkKit
import Derived.OwnWalkIn
import Derived.TacticsInMore
import Derived.LoopNIn
import Derived.LoopIn
import Derived.Shelf.Slices.CompactI
import Derived.Shelf.Spec.SlicesInsertGrow
set_option linter.unusedSectionVars false
noncomputable section
namespace Go.Gv
variable{s:AC}{y:Code}{fn:Func}{i:Int}{rs:List ResultVar}{id mj t:Nat}{C:Prop}{Ta Tb Tc Td Te Tf Tg Th Ti:Sort _}{ex β π ρ σ υ:Type}{w:World}
universe u
theorem Q{O:Sort u}{a:O}:a=a:=Eq.refl a
theorem Q2{a:Ta}{b:Tb}:a=a/\b=b:=⟨rfl,rfl⟩
theorem Q3{a:Ta}{b:Tb}{c:Tc}:a=a/\b=b/\c=c:=⟨rfl,rfl,rfl⟩
theorem Q4{a:Ta}{b:Tb}{c:Tc}{d:Td}:a=a/\b=b/\c=c/\d=d:=⟨rfl,rfl,rfl,rfl⟩
theorem Q5{a:Ta}{b:Tb}{c:Tc}{d:Td}{e:Te}:a=a/\b=b/\c=c/\d=d/\e=e:=⟨rfl,rfl,rfl,rfl,rfl⟩
theorem Q6{a:Ta}{b:Tb}{c:Tc}{d:Td}{e:Te}{f:Tf}:a=a/\b=b/\c=c/\d=d/\e=e/\f=f:=⟨rfl,rfl,rfl,rfl,rfl,rfl⟩
theorem Q7{a:Ta}{b:Tb}{c:Tc}{d:Td}{e:Te}{f:Tf}{g:Tg}:a=a/\b=b/\c=c/\d=d/\e=e/\f=f/\g=g:=⟨rfl,rfl,rfl,rfl,rfl,rfl,rfl⟩
theorem Q8{a:Ta}{b:Tb}{c:Tc}{d:Td}{e:Te}{f:Tf}{g:Tg}{h:Th}:a=a/\b=b/\c=c/\d=d/\e=e/\f=f/\g=g/\h=h:=⟨rfl,rfl,rfl,rfl,rfl,rfl,rfl,rfl⟩
theorem Q9{a:Ta}{b:Tb}{c:Tc}{d:Td}{e:Te}{f:Tf}{g:Tg}{h:Th}{i:Ti}:a=a/\b=b/\c=c/\d=d/\e=e/\f=f/\g=g/\h=h/\i=i:=⟨rfl,rfl,rfl,rfl,rfl,rfl,rfl,rfl,rfl⟩
theorem Q10{a:Ta}{b:Tb}{c:Tc}{d:Td}{e:Te}{f:Tf}{g:Tg}{h:Th}{i:Ti}{Tj:Sort _}{j:Tj}:a=a/\b=b/\c=c/\d=d/\e=e/\f=f/\g=g/\h=h/\i=i/\j=j:=⟨rfl,rfl,rfl,rfl,rfl,rfl,rfl,rfl,rfl,rfl⟩
theorem S6{a:Ta}{b:Tb}{c:Tc}{d:Td}{e:Te}{f:Tf}{g:Tg}{h:Th}{i:Ti}{Tj:Sort _}{j:Tj}{Tk:Sort _}{k:Tk}{Tl:Sort _}{l:Tl}{Tm:Sort _}{m:Tm}:a=a/\b=b/\c=c/\d=d/\e=e/\f=f/\g=g/\h=h/\i=i/\j=j/\k=k/\l=l/\m=m:=⟨rfl,rfl,rfl,rfl,rfl,rfl,rfl,rfl,rfl,rfl,rfl,rfl,rfl⟩
def W{ρ:Type}(C:Prop)(r:ρ)(F:Option ρ):Prop:=F=some r->C
theorem wm{r:ρ}{F F':Option ρ}(h:F'=F)(k:W C r F):W C r F':=h ▸ k
theorem wi{r:ρ}{F:Option ρ}(h:F=some r)(k:W C r F):C:=k h
def VS(P:Program)(c:Ctx)(f:FuncId){ρ ex:Type}(F:Option ρ)(xs:List SV)(B0:Bl)(L0:List Ch)(sv:ρ->ex->SV)(Lf:ρ->ex->List Ch):Prop:=∀r,F=some r->FnS P f c xs B0 L0 sv Lf r
abbrev V0(P:Program)(c:Ctx)(f:FuncId){ρ:Type}(F:Option ρ)(xs:List SV)(sv:ρ->SV):Prop:=VS P c f F xs [] [] (λr (_:Unit)=>sv r) (λ_ _=>[])
theorem VS.r{P:Program}{c:Ctx}{f:FuncId}{F:Option ρ}{xs:List SV}{B0:Bl}{L0:List Ch}{sv:ρ->ex->SV}{Lf:ρ->ex->List Ch}(h:VS P c f F xs B0 L0 sv Lf){r:ρ}(hF:F=some r):FnS P f c xs B0 L0 sv Lf r:=h r hF
def QR(P:Program)(fn:Func){rs:List ResultVar}(_:fn.results=rs.toArray)(c:Ctx)(B0:Bl){ρ ex:Type}(sv:ρ->ex->SV)(Lf:ρ->ex->List Ch)(r:ρ):Act->World->Prop:=QS P fn c B0 sv Lf r
def a7D(T:TT)(rs:List ResultVar)(is:List Nat)(b0:Nat)(L2:List Ch):Stop->Option (SV×List Ch)
 |.ret m e L=>match aQD T e L rs with
  |some x=>match yS b0 (nbS x) with
   |true=>match YO b0 m e L is b0 [] L2 with
    |some ([],L3)=>some (nbS x,L3)
    |_=>none
   |false=>none
  |none=>none
 |_=>none
def a2L(is:List Nat)(b0 mj:Nat)(ej:SE)(Lj:List Ch):Stop->Option (SE×List Ch)
 |.fin m e L=>YO b0 m e L is mj ej Lj
 |_=>none
def exQ(is:List Nat)(id b0 mj:Nat)(ej:SE)(Lj:List Ch):Stop->Option (SE×List Ch)
 |.ex i m e L=>match Nat.beq i id with
  |true=>YO b0 m e L is mj ej Lj
  |false=>none
 |_=>none
def bKX:Stop->Stop
 |.fin m e L=>.ret m e L
 |_=>.stuck
def ixT(T:TT)(t n:Nat):Bool:=match wV T t with
 |some ⟨.sl el,_,_,_⟩=>match wV T el with
  |some ⟨_,_,sz,_⟩=>Nat.beq n sz
  |none=>false
 |_=>false
section
variable {P:Program} {T:TT} {hT:D1 P T} {n:Nat} {c:Ctx} {B0:Bl} {N:Act->World->Prop} {X:Nat->Act->World->Prop} {Q:Act->World->Prop} {K K':List Fr} {m m':Nat} {e e':SE} {L L' Lv:List Ch} {cf cf' cf1 cf2:sY} {o:Oper}
theorem enW(hT:D1 P T){f:FuncId}{fn:Func}{cd:Code}{xs:List SV}{L0:List Ch}{ρ ex:Type}{sv:ρ->ex->SV}{Lf:ρ->ex->List Ch}{F:Option ρ}{rs:List ResultVar}(hc:∀args w,(callFunc f args).run P w=.ok (.enter f args) w)(hf:P.funcs[f]?=some fn)(hr:fn.results=rs.toArray)(q0_:fn.body=some cd/\fn.ntmps=n)
  (k:∀{r},W (G (.mk P T hT n c B0 (QR P fn hr c B0 sv Lf r) (λ_ _ _=>False) (QR P fn hr c B0 sv Lf r)) [] B0.length (aOU 0 xs) L0 (.c cd)) r F) (hl:Nat.ble xs.length n=true:=by exact rfl):VS P c f F xs B0 L0 sv Lf:=
 let ⟨hb,hm⟩:=q0_;λ_ hF=>en n hc hf hT hb hm hl (k hF)
theorem aZ2{is:List Nat}{b0:Nat}{L2 L3:List Ch}{s:SV}{st:Stop}(h:a7D T rs is b0 L2 st=some (s,L3)):∃m' e' L' x,st=.ret m' e' L'/\aQD T e' L' rs=some x/\nbS x=s/\yS b0 s=true/\YO b0 m' e' L' is b0 [] L2=some ([],L3):=by unfold a7D at h;grind
theorem j4{sv:ρ->ex->SV}{Lf:ρ->ex->List Ch}{r r':ρ}{hr:fn.results=rs.toArray}{zz:Option ρ}(y:ex)(is:List Nat)(q0_:zz=some r'/\a7D T rs is B0.length (Lf r' y) (jE T n K cf m e L)=some (sv r' y,Lf r' y)):W (G (.mk P T hT n c B0 N X (QR P fn hr c B0 sv Lf r)) K m e L cf) r zz:=let ⟨hz,h⟩:=q0_;λhF=>by obtain⟨_,_,_,_,h1,h2,h3,h4,h5⟩:=aZ2 h;exact rt y is hF hz h1 hr h2 h3 h4 h5
theorem dQ{sv:ρ->Unit->SV}{Lf:ρ->Unit->List Ch}{r r':ρ}{hr:fn.results=rs.toArray}{zz:Option ρ}(q0_:zz=some r'/\a7D T rs [] B0.length (Lf r' ()) (jE T n K cf m e L)=some (sv r' (),Lf r' ())):W (G (.mk P T hT n c B0 N X (QR P fn hr c B0 sv Lf r)) K m e L cf) r zz:=let ⟨hz,h⟩:=q0_;j4 () [] ⟨hz,h⟩
theorem GY{sv:ρ->ex->SV}{Lf:ρ->ex->List Ch}{r r':ρ}{hr:fn.results=rs.toArray}{zz:Option ρ}(y:ex)(is:List Nat)(hz:zz=some r')(h:a7D T rs is B0.length (Lf r' y) (bKX (jE T n K cf m e L))=some (sv r' y,Lf r' y)):W (G (.mk P T hT n c B0 (QR P fn hr c B0 sv Lf r) X Q) K m e L cf) r zz:=λhF=>by obtain⟨m',e',L',_,h1,h2,h3,h4,h5⟩:=aZ2 h;refine rf y is hF hz (m':=m') (e':=e') (L':=L') ?_ hr h2 h3 h4 h5;unfold bKX at h1;grind
theorem aZ3{is:List Nat}{b0:Nat}{ej e3:SE}{Lj L3:List Ch}{st:Stop}(h:a2L is b0 mj ej Lj st=some (e3,L3)):∃m' e' L',st=.fin m' e' L'/\YO b0 m' e' L' is mj ej Lj=some (e3,L3):=by unfold a2L at h;grind
theorem oP{O:Type}{eq:π->Prop}{ej:π->υ->SE}{Lj:π->υ->List Ch}{p:π}{q:O}{zz:Option O}(u:υ)(is:List Nat)(hz:(zz=some q)=eq p)(h:a2L is B0.length mj (ej p u) (Lj p u) (jE T n K cf m e L)=some (ej p u,Lj p u)):W (G (.mk P T hT n c B0 (JP n c B0 eq mj ej Lj) X Q) K m e L cf) q zz:=λhF=>by obtain⟨_,_,_,h1,h2⟩:=aZ3 h;exact jn u is (hz ▸ hF) h1 h2
theorem cD{O:Type}{eq:π->Prop}{ej:π->Unit->SE}{Lj:π->Unit->List Ch}{p:π}{q:O}{zz:Option O}(is:List Nat)(q0_:(zz=some q)=eq p/\a2L is B0.length mj (ej p ()) (Lj p ()) (jE T n K cf m e L)=some (ej p (),Lj p ())):W (G (.mk P T hT n c B0 (JP n c B0 eq mj ej Lj) X Q) K m e L cf) q zz:=let ⟨hz,h⟩:=q0_;oP () is hz h
theorem nxW{o:Step σ ρ}{el:σ->υ->SE}{Ll:σ->υ->List Ch}{s:σ}(u:υ)(is:List Nat)(h:a2L is B0.length mj (el s u) (Ll s u) (jE T n K cf m e L)=some (el s u,Ll s u)):W (G (.mk P T hT n c B0 (NxP n c B0 o mj el Ll) X Q) K m e L cf) o (some (Step.next s)):=λhF=>by obtain⟨_,_,_,h1,h2⟩:=aZ3 h;exact nx u is hF h1 h2
theorem MQ{o:Step σ ρ}{el:σ->Unit->SE}{Ll:σ->Unit->List Ch}{s:σ}(is:List Nat)(h:a2L is B0.length mj (el s ()) (Ll s ()) (jE T n K cf m e L)=some (el s (),Ll s ())):W (G (.mk P T hT n c B0 (NxP n c B0 o mj el Ll) X Q) K m e L cf) o (some (Step.next s)):=nxW () is h
def BkR(n:Nat)(c:Ctx)(B0:Bl){β ρ σ υ:Type}{o:Step σ ρ}{ro:ρ}(_:∀p,o=.stop p->p=ro)(enc:β->ρ)(m:Nat)(ej:β->υ->SE)(Lj:β->υ->List Ch)(id:Nat)(X:Nat->Act->World->Prop):Nat->Act->World->Prop:=BkP n c B0 ro enc m ej Lj id X
theorem bkW{o:Step σ ρ}{ro:ρ}{enc:β->ρ}{ej:β->υ->SE}{Lj:β->υ->List Ch}{b:β}{hr:∀p,o=.stop p->p=ro}(u:υ)(is:List Nat)(h:exQ is id B0.length mj (ej b u) (Lj b u) (jE T n K cf m e L)=some (ej b u,Lj b u)):W (G (.mk P T hT n c B0 N (BkR n c B0 hr enc mj ej Lj id X) Q) K m e L cf) o (some (Step.stop (enc b))):=λhF=>by
 unfold exQ at h;split at h
 ·rename_i h0;split at h
  ·rename_i hb;rw[o9 hb] at h0;exact bk u is hF hr h0 h
  ·cases h
 ·cases h
theorem J6{o:Step σ ρ}{ro:ρ}{enc:β->ρ}{ej:β->Unit->SE}{Lj:β->Unit->List Ch}{b:β}{hr:∀p,o=.stop p->p=ro}(is:List Nat)(h:exQ is id B0.length mj (ej b ()) (Lj b ()) (jE T n K cf m e L)=some (ej b (),Lj b ())):W (G (.mk P T hT n c B0 N (BkR n c B0 hr enc mj ej Lj id X) Q) K m e L cf) o (some (Step.stop (enc b))):=bkW () is h
theorem RF{O:Type}{o:Step σ ρ}{p ro:ρ}{F:ρ->Option O}{q:O}(hr:∀p,o=.stop p->p=ro)(hF:F ro=some q)(k:W C q (F p)):W C o (some (Step.stop p)):=λh=>k (re h rfl hr hF)
section
variable {b:Bool} {O:Type} {A B':Option O} {q:O}
theorem bY{o:Operand}{x:Code}(ss:List Nat)(q0_:jE T n K cf m e L=.cond o b x y K' m' e' L'/\aT (D0 e') ss=some (ss.map λ_=>SV.b b))
  (k1:W (G (.mk P T hT n c B0 N X Q) K' m' (ovr true e' ss) L' (.c x)) q A) (k2:W (G (.mk P T hT n c B0 N X Q) K' m' (ovr false e' ss) L' (.c y)) q B'):W (G (.mk P T hT n c B0 N X Q) K m e L cf) q (if b=true then A else B'):=let ⟨hs,ho⟩:=q0_;λhF=>cs ss hs ho hF k1 k2
theorem bNI{o:Operand}{x:Code}(ss:List Nat)(hs:jE T n K cf m e L=.cond o b x y K' m' e' L')(ho:aT (D0 e') ss=some (ss.map λ_=>SV.b b))
  (k1:b=true->W (G (.mk P T hT n c B0 N X Q) K' m' (ovr true e' ss) L' (.c x)) q A) (k2:b=false->W (G (.mk P T hT n c B0 N X Q) K' m' (ovr false e' ss) L' (.c y)) q B'):W (G (.mk P T hT n c B0 N X Q) K m e L cf) q (if b=true then A else B'):=λhF=>csK ss hs ho hF k1 k2
theorem gN(ss:List Nat)(q0_:jE T n K cf m e L=.case b cf' K' m' e' L'/\aT (D0 e') ss=some (ss.map λ_=>SV.b b))
  (k1:W (G (.mk P T hT n c B0 N X Q) K' m' (ovr true e' ss) L' cf') q A) (k2:W (G (.mk P T hT n c B0 N X Q) K' m' (ovr false e' ss) L' cf') q B'):W (G (.mk P T hT n c B0 N X Q) K m e L cf) q (if b=true then A else B'):=let ⟨hs,ho⟩:=q0_;λhF=>ca ss hs ho hF k1 k2
end
section
variable {O β:Type} {fo:Option O} {kf:O->Option β} {q:β} {d:Nat} {f:FuncId} {xs:List SV}
theorem c0{sv:O->SV}(hs:jE T n K cf m e L=.call o (some d) f xs cf1 cf2 K' m' e' L')
  (hc:∀{w},HS c w L'->V0 P (eC w) f fo xs sv) (k:∀x,W (G (.mk P T hT n c B0 N X Q) K' m' ((d,sv x)::e') L' cf2) q (kf x)):W (G (.mk P T hT n c B0 N X Q) K m e L cf) q (fo.bind kf):=λhF=>cl0 hs (λh _ hx=>hc h _ hx) hF λx _ h=>k x h
theorem c1{sv:O->ex->SV}{Lf:O->ex->List Ch}(hs:jE T n K cf m e L=.call o (some d) f xs cf1 cf2 K' m' e' L')
  (hc:∀{w},HS c w L'->VS P (eC w) f fo xs [] [] sv Lf) (k:∀x,∀y:ex,W (G (.mk P T hT n c B0 N X Q) K' m' ((d,sv x y)::e') (L'++Lf x y) cf2) q (kf x)) (hn:∀x y,noF (Lf x y)=true:=by exact λ_ _=>rfl):W (G (.mk P T hT n c B0 N X Q) K m e L cf) q (fo.bind kf):=λhF=>cl hs hn (λh _ hx=>hc h _ hx) hF λx _ h y=>k x y h
theorem sO{kf:O->Option β}{q:β}{iR:aL O}(C:DL O){d:Nat}{ls:List O}(hs:jE T n K cf m e L=.idx o d t s ls.length i Lv cf1 cf2 K' m' e' L')(h1:bH c s ls)(ht:ixT T t (aL.n O)=true)
  (k:∀x,∀y:C.ex,C.sub c.S0 c.w0 x y->W (G (.mk P T hT n c B0 N X Q) K' (m'+1) ((d,.p m' 0)::e') (L'++[.ro m' (C.cs x y)]) (cf2.ext [.ro m' (C.cs x y)])) q (kf x)):W (G (.mk P T hT n c B0 N X Q) K m e L cf) q ((idx ls i).bind kf):=λhF=>by
 unfold ixT at ht;split at ht
 ·rename_i h2;split at ht
  ·rename_i h3;exact ix C hs h1 hF h2 h3 (o9 ht) λx _ h y hy=>k x y hy h
  ·cases ht
 ·cases ht
theorem ixI{kf:Int->Option β}{q:β}{d:Nat}{ls:List Int}(hs:jE T n K cf m e L=.idx o d t s ls.length i Lv cf1 cf2 K' m' e' L')(h1:bH c s ls)(ht:ixT T t 1=true)
  (k:∀x,W (G (.mk P T hT n c B0 N X Q) K' (m'+1) ((d,.p m' 0)::e') (L'++[.ro m' [.i .i64 x]]) (cf2.ext [.ro m' [.i .i64 x]])) q (kf x)):W (G (.mk P T hT n c B0 N X Q) K m e L cf) q ((idx ls i).bind kf):=sO cI hs h1 ht λx _ _=>k x
theorem j5(hm:P.follows .mixedOrders=true){ops:Array Oper}{zz:Option β}(is:List Nat)(hs:jE T n K cf m e L=.rgn id ops K' m' e' L')
  (k:∀{B1},W (G (.mk P T hT n c B0 N X Q) K' m' e' L' (.d B1 ops (List.replicate ops.size false) is (kl L' is) (kl L' is))) q zz) (hf:(aS4 ops && (okL m' (kl L' is) && (dJ is && is.all λj=>Nat.blt j L'.length)))=true:=by kernel_rfl):W (G (.mk P T hT n c B0 N X Q) K m e L cf) q zz:=λhF=>dr is hs hm hf λ_=>k hF
theorem eF{zz:Option β}(j mj:Nat)(Fj:π->Option β)(ks:List Nat)(ej:π->υ->SE)(is:List Nat)(Lj:π->υ->List Ch)(hs:PJ (jE T n K cf m e L)=some (K',cf',m',e',L'))
  (k1:W (G (.mk P T hT n c B0 (JP n c B0 (λp=>Fj p=some q) mj (λp u=>ej p u++kp e' ks) (λp u=>Lj p u++kl L' is)) (XK (.mk P T hT n c B0 N X Q) (K'.drop j)) Q) (K'.take j) m' e' L' cf') q zz)
  (k2:∀p u,W (G (.mk P T hT n c B0 N X Q) (K'.drop j) mj (ej p u++kp e' ks) (Lj p u++kl L' is) .n) q (Fj p)):W (G (.mk P T hT n c B0 N X Q) K m e L cf) q zz:=λhF=>cut j mj (λp=>Fj p=some q) ks ej is Lj hs (k1 hF) λp u h=>k2 p u h
theorem gD{zz:Option β}(j mj:Nat)(Fj:Bool->Option β)(ks:List Nat)(v:Nat)(is:List Nat)(hs:PJ (jE T n K cf m e L)=some (K',cf',m',e',L'))
  (k1:W (G (.mk P T hT n c B0 (JP n c B0 (λp=>Fj p=some q) mj (λp (_:Unit)=>[(v,.b p)]++kp e' ks) (λ_ _=>[]++kl L' is)) (XK (.mk P T hT n c B0 N X Q) (K'.drop j)) Q) (K'.take j) m' e' L' cf') q zz)
  (k2:∀p,W (G (.mk P T hT n c B0 N X Q) (K'.drop j) mj ([(v,.b p)]++kp e' ks) ([]++kl L' is) .n) q (Fj p)):W (G (.mk P T hT n c B0 N X Q) K m e L cf) q zz:=eF j mj Fj ks (λp (_:Unit)=>[(v,.b p)]) is (λ_ _=>[]) hs k1 λp _=>k2 p
theorem N0{γ ω:Type}{fb:σ->Option (Step σ ρ)}{s0:σ}{gk:ρ->Option β}(u0:υ)(ks:List Nat)(el:σ->υ->SE)(is0 is:List Nat)(Ll:σ->υ->List Ch)(enc:γ->ρ)(kb:List Nat)(ej:γ->ω->SE)(ib:List Nat)(Lj:γ->ω->List Ch)
  (hs:jE T n K cf m e L=.loop id y K' m' e' L')
  (h0:YO B0.length m' e' L' is0 m' (el s0 u0++kp e' ks) (Ll s0 u0++kl L' is)=some (el s0 u0++kp e' ks,Ll s0 u0++kl L' is))
  (k1:∀{ro o},gk ro=some q->∀s u,(hr:∀p,o=.stop p->p=ro)->W (G (.mk P T hT n c B0 (NxP n c B0 o m' (λs u=>el s u++kp e' ks) (λs u=>Ll s u++kl L' is)) (BkR n c B0 hr enc m' (λb u=>ej b u++kp e' kb) (λb u=>Lj b u++kl L' ib) id (XK (.mk P T hT n c B0 N X Q) K')) Q) [] m' (el s u++kp e' ks) (Ll s u++kl L' is) (.c y)) o (fb s))
  (k2:∀b u,W (G (.mk P T hT n c B0 N X Q) K' m' (ej b u++kp e' kb) (Lj b u++kl L' ib) .n) q (gk (enc b))):W (G (.mk P T hT n c B0 N X Q) K m e L cf) q ((loop fb s0).bind gk):=λhF=>
 lp u0 ks el is0 is Ll enc kb ej ib Lj hs hF h0 (λro h1 s u o h2 h3=>k1 h1 s u h3 h2) λb u h=>k2 b u h
theorem YT{fb:Int->Option (Step Int ρ)}{s0:Int}{gk:ρ->Option β}(v:Nat)(ks:List Nat)(is:List Nat)(enc:Unit->ρ)(kb:List Nat)(ib:List Nat)
  (hs:jE T n K cf m e L=.loop id y K' m' e' L')
  (h0:YO B0.length m' e' L' is m' ([(v,.i .i64 s0)]++kp e' ks) ([]++kl L' is)=some ([(v,.i .i64 s0)]++kp e' ks,[]++kl L' is))
  (k1:∀{ro o},gk ro=some q->∀s,(hr:∀p,o=.stop p->p=ro)->W (G (.mk P T hT n c B0 (NxP n c B0 o m' (λs (_:Unit)=>[(v,.i .i64 s)]++kp e' ks) (λ_ _=>[]++kl L' is)) (BkR n c B0 hr enc m' (λ_ (_:Unit)=>[]++kp e' kb) (λ_ _=>[]++kl L' ib) id (XK (.mk P T hT n c B0 N X Q) K')) Q) [] m' ([(v,.i .i64 s)]++kp e' ks) ([]++kl L' is) (.c y)) o (fb s))
  (k2:W (G (.mk P T hT n c B0 N X Q) K' m' ([]++kp e' kb) ([]++kl L' ib) .n) q (gk (enc ()))):W (G (.mk P T hT n c B0 N X Q) K m e L cf) q ((loop fb s0).bind gk):=
 N0 () ks (λs (_:Unit)=>[(v,.i .i64 s)]) is is (λ_ _=>[]) enc kb (λ_ (_:Unit)=>[]) ib (λ_ _=>[]) hs h0 (λh s _ hr=>k1 h s hr) λ_ _=>k2
theorem lrW{fb:σ->Option (Step σ ρ)}{s0:σ}{gk:ρ->Option β}(u0:υ)(ks:List Nat)(el:σ->υ->SE)(is0 is:List Nat)(Ll:σ->υ->List Ch)
  (hs:jE T n K cf m e L=.loop id y K' m' e' L')
  (h0:YO B0.length m' e' L' is0 m' (el s0 u0++kp e' ks) (Ll s0 u0++kl L' is)=some (el s0 u0++kp e' ks,Ll s0 u0++kl L' is))
  (k1:∀{ro o},gk ro=some q->∀s u,(hr:∀p,o=.stop p->p=ro)->W (G (.mk P T hT n c B0 (NxP n c B0 o m' (λs u=>el s u++kp e' ks) (λs u=>Ll s u++kl L' is)) (BkP n c B0 ro (λb:Empty=>nomatch b) m' (λ(b:Empty) (_:Unit)=>nomatch b) (λb _=>nomatch b) id (XK (.mk P T hT n c B0 N X Q) K')) Q) [] m' (el s u++kp e' ks) (Ll s u++kl L' is) (.c y)) o (fb s)):W (G (.mk P T hT n c B0 N X Q) K m e L cf) q ((loop fb s0).bind gk):=λhF=>
 lr u0 ks el is0 is Ll hs hF h0 λro h1 s u o h2 h3=>k1 h1 s u h3 h2
theorem tD{kf:O->Option β}{q:β}[aL O](E:CO O)(j:Nat){t:TypeId}{ls:List O}(q0_:jE T n K cf m e L=.idx o d t s ls.length i Lv cf1 cf2 K' m' e' L'/\L'[j]?=some (ow s ls)/\fT j cf1.wX=true)
  (k:∀x,idx ls i=some x->∀y:E.ex,Shp s ls.length->W (G (.mk P T hT n c B0 N X Q) K' (m'+1) e' (L'.set j .no++([.o (sN (s.v ls.length) ls i.toNat),.box m' (E.cs x y),wOf O m' s ls.length i.toNat]++E.Lx x y)) (cf1.ext [wOf O m' s ls.length i.toNat])) q (kf x)):W (G (.mk P T hT n c B0 N X Q) K m e L cf) q ((idx ls i).bind kf):=let ⟨hs,hj,hz⟩:=q0_;λhF=>oe E j hs hj hz hF λx h1 h2 y h3=>k x h1 y h3 h2
end
section
variable {O β ex:Type} {fo:Option O} {kf:O->Option β} {q:β} {d:Option Nat} {f:FuncId} {xs xs0:List SV} {M:List Ch} {sv:O->ex->SV} {Lr:O->ex->List Ch}
theorem LB(is:List Nat)
  (q0_:cpS (jE T n K cf m e L)=some (o,d,f,xs,cf1,cf2,K',m',e',L')/\aT (λi=>L'[i]?) is=some M/\aT (rnP [] 0) xs=some xs0/\(I8 M && (dJ is && is.all λj=>fT j cf1.wX))=true)
  (hc:∀{U:Ctx},HG c U L' is->VS P U f fo xs0 [] M sv Lr)
  (k:∀x,∀y:ex,W (G (.mk P T hT n c B0 N X Q) K' m' (dse d (sv x y) e') (HI L' is++Lr x y) cf2) q (kf x)) (hn:∀x y,(I8 (Lr x y) && yS 0 (sv x y))=true:=by exact λ_ _=>rfl):W (G (.mk P T hT n c B0 N X Q) K m e L cf) q (fo.bind kf):=let ⟨hs,hi,hx,hk⟩:=q0_;λhF=>
 cw0 is hs hi hx hk hn (λh _ hx=>hc h _ hx) hF λx _ h y=>k x y h
theorem fE{c1:List SV}{a1:O->ex->List SV}(i1 n1 o1 k1:Nat)(is:List Nat)
  (q0_:cpS (jE T n K cf m e L)=some (o,d,f,xs,cf1,cf2,K',m',e',L')/\aJS L' [(i1,n1,o1,k1)]=some [c1]/\aT (λi=>L'[i]?) is=some M/\aT (rnP [(i1,n1,o1,k1)] 0) xs=some xs0/\(I8 M && ([c1].all (yS.okC 0) && (dJ (i1::is) && (i1::is).all λj=>fT j cf1.wX)))=true)
  (hc:∀{U:Ctx},HG c U L' (i1::is)->∀{b1:Nat×Nat},VS P U f fo xs0 [b1] (.box 0 c1::M) sv (λx y=>.box 0 (a1 x y)::Lr x y))
  (k:∀x,∀y:ex,W (G (.mk P T hT n c B0 N X Q) K' m' (dse d (sv x y) e') (NZ L' (HI L' (i1::is)++Lr x y) [(i1,n1,o1,k1)] [a1 x y]) cf2) q (kf x)) (hn:∀x y,(aB5 [(i1,n1,o1,k1)] [a1 x y] && ([a1 x y].all (yS.okC 0) && (I8 (Lr x y) && yS 0 (sv x y))))=true:=by exact λ_ _=>rfl):W (G (.mk P T hT n c B0 N X Q) K m e L cf) q (fo.bind kf):=let ⟨hs,hb,hi,hx,hk⟩:=q0_;λhF=>
 cw1 i1 n1 o1 k1 is hs hb hi hx hk hn (λh _ _ hx=>hc h _ hx) hF λx _ h y=>k x y h
theorem aQT{c1 c2:List SV}{a1 a2:O->ex->List SV}(i1 n1 o1 k1:Nat)(i2 n2 o2 k2:Nat)(is:List Nat)
  (hs:cpS (jE T n K cf m e L)=some (o,d,f,xs,cf1,cf2,K',m',e',L')) (hb:aJS L' [(i1,n1,o1,k1),(i2,n2,o2,k2)]=some [c1,c2]) (hi:aT (λi=>L'[i]?) is=some M) (hx:aT (rnP [(i1,n1,o1,k1),(i2,n2,o2,k2)] 0) xs=some xs0)
  (hk:(I8 M && ([c1,c2].all (yS.okC 0) && (dJ (i1::i2::is) && (i1::i2::is).all λj=>fT j cf1.wX)))=true)
  (hc:∀{U:Ctx},HG c U L' (i1::i2::is)->∀{b1 b2:Nat×Nat},VS P U f fo xs0 [b1,b2] (.box 0 c1::.box 1 c2::M) sv (λx y=>.box 0 (a1 x y)::.box 1 (a2 x y)::Lr x y))
  (k:∀x,∀y:ex,W (G (.mk P T hT n c B0 N X Q) K' m' (dse d (sv x y) e') (NZ L' (HI L' (i1::i2::is)++Lr x y) [(i1,n1,o1,k1),(i2,n2,o2,k2)] [a1 x y,a2 x y]) cf2) q (kf x)) (hn:∀x y,(aB5 [(i1,n1,o1,k1),(i2,n2,o2,k2)] [a1 x y,a2 x y] && ([a1 x y,a2 x y].all (yS.okC 0) && (I8 (Lr x y) && yS 0 (sv x y))))=true:=by exact λ_ _=>rfl):W (G (.mk P T hT n c B0 N X Q) K m e L cf) q (fo.bind kf):=λhF=>
 cw2 i1 n1 o1 k1 i2 n2 o2 k2 is hs hb hi hx hk hn (λh _ _ _ hx=>hc h _ hx) hF λx _ h y=>k x y h
theorem bNJ{c1 c2 c3:List SV}{a1 a2 a3:O->ex->List SV}(i1 n1 o1 k1:Nat)(i2 n2 o2 k2:Nat)(i3 n3 o3 k3:Nat)(is:List Nat)
  (hs:cpS (jE T n K cf m e L)=some (o,d,f,xs,cf1,cf2,K',m',e',L')) (hb:aJS L' [(i1,n1,o1,k1),(i2,n2,o2,k2),(i3,n3,o3,k3)]=some [c1,c2,c3]) (hi:aT (λi=>L'[i]?) is=some M) (hx:aT (rnP [(i1,n1,o1,k1),(i2,n2,o2,k2),(i3,n3,o3,k3)] 0) xs=some xs0)
  (hk:(I8 M && ([c1,c2,c3].all (yS.okC 0) && (dJ (i1::i2::i3::is) && (i1::i2::i3::is).all λj=>fT j cf1.wX)))=true)
  (hc:∀{U:Ctx},HG c U L' (i1::i2::i3::is)->∀{b1 b2 b3:Nat×Nat},VS P U f fo xs0 [b1,b2,b3] (.box 0 c1::.box 1 c2::.box 2 c3::M) sv (λx y=>.box 0 (a1 x y)::.box 1 (a2 x y)::.box 2 (a3 x y)::Lr x y))
  (k:∀x,∀y:ex,W (G (.mk P T hT n c B0 N X Q) K' m' (dse d (sv x y) e') (NZ L' (HI L' (i1::i2::i3::is)++Lr x y) [(i1,n1,o1,k1),(i2,n2,o2,k2),(i3,n3,o3,k3)] [a1 x y,a2 x y,a3 x y]) cf2) q (kf x)) (hn:∀x y,(aB5 [(i1,n1,o1,k1),(i2,n2,o2,k2),(i3,n3,o3,k3)] [a1 x y,a2 x y,a3 x y] && ([a1 x y,a2 x y,a3 x y].all (yS.okC 0) && (I8 (Lr x y) && yS 0 (sv x y))))=true:=by exact λ_ _=>rfl):W (G (.mk P T hT n c B0 N X Q) K m e L cf) q (fo.bind kf):=λhF=>
 cw3 i1 n1 o1 k1 i2 n2 o2 k2 i3 n3 o3 k3 is hs hb hi hx hk hn (λh _ _ _ _ hx=>hc h _ hx) hF λx _ h y=>k x y h
end
theorem aAO{O:Type}{iR:aL O}{C:DL O}{sr:β->SV}{g:FuncId}{p:O->Option β}(hc:∀args w,(callFunc g args).run P w=.ok (.enter g args) w)(hn:∀{U:Ctx} {x y},C.sub U.S0 U.w0 x y->V0 P U g (p x) [C.sv x y] sr):WD P (eC w) C sr g [] p:=fu1 hc (by intro U x y h q hq;exact hn h _ hq)
theorem aJW{O:Type}{iR:aL O}{C:DL O}{sr:β->SV}{g:FuncId}{Bs:Bl}{cs:List (Nat×List SV)}{p:O->Option β}(hc:∀args w,(callFunc g args).run P w=.ok (.enter g args) w)(hB:∀w1,eI F0 w w1->lF (eC w1) w1 Bs (roL 0 cs))(hl:aT (fI Bs) (a6P 0 cs)=some (RD Bs))(hn:∀{w1 x y},eI F0 w w1->C.sub (YL w1) w1 x y->VS P (eC w1) g (p x) (C.sv x y::a6P 0 cs) Bs (roL 0 cs) (λr (_:Unit)=>sr r) (λ_ _=>[]))(hz:∀q,yS 0 (sr q)=true:=by exact λ_=>rfl):WD P (eC w) C sr g (RD Bs) p:=fk1 hc hB hl hz (by intro w1 x y h h' q hq;exact hn h h' _ hq)
section
variable {O β:Type} {fo:Option O} {kf:O->Option β} {q:β} {d:Nat} {f g:FuncId} {xs:List SV} {sv:O->SV}
theorem aJX{n1:Nat}{c1:List SV}(is:List Nat)(hs:jE T n K cf m e L=.callp o (some d) f xs cf1 cf2 K' m' e' L')(hk:kl L' is=[.ro n1 c1])(ho:(aTA [(n1,c1)] && okA xs.dropLast)=true)(hx:xs=xs.dropLast++[.f g [n1]])
  (hc:∀{w},HS c w L'->∀{b1:Nat×Nat},(∀w1,eI F0 w w1->lF (eC w1) w1 [b1] [.ro 0 c1])->V0 P (eC w) f fo (xs.dropLast++[.k (.func (.func g) #[] (RD [b1]).toArray)]) sv)
  (k:∀x,W (G (.mk P T hT n c B0 N X Q) K' m' ((d,sv x)::e') L' cf2) q (kf x)):W (G (.mk P T hT n c B0 N X Q) K m e L cf) q (fo.bind kf):=λhF=>
 bM9 is hs hk ho hx (λh _ h2 _ hx=>hc h h2 _ hx) hF λx _ h=>k x h
end
end
def pV(y:Nat×Nat):Value:=.pointer (some ⟨y.1,y.2,none⟩)
section
variable {P:Program} {T:TT} {hT:D1 P T} {n:Nat} {c:Ctx} {B0:Bl} {N:Act->World->Prop} {X:Nat->Act->World->Prop} {Q:Act->World->Prop} {K K':List Fr} {m m':Nat} {e e':SE} {L L':List Ch} {cf cf1 cf2:sY} {o:Oper}
abbrev VP(P:Program)(c:Ctx)(f:FuncId){ρ:Type}(F:Option ρ)(xs:List SV)(cs:ρ->List SV):Prop:=VS P c f F xs [] [] (λ_ (y:Nat×Nat)=>.k (pV y)) (λr y=>[.o (SW [y] 0 (cs r))])
theorem rtP{r r':ρ}{hr:fn.results=[ResultVar.tmp t].toArray}{zz:Option ρ}{cs:ρ->List SV}(is:List Nat)(hz:zz=some r')(hs:jE T n K cf m e L=.ret m' e' L')(hL:YO 0 m' e' L' is 1 [(t,.p 0 0)] [.box 0 (cs r')]=some ([(t,.p 0 0)],[.box 0 (cs r')]))(ho:yS.okC 0 (cs r')=true):W (G (.mk P T hT n c [] N X (QR P fn hr c [] (λ_ (y:Nat×Nat)=>.k (pV y)) (λr y=>[.o (SW [y] 0 (cs r))]) r)) K m e L cf) r zz:=λhF=>by
 subst hz;cases hF;refine gW (g:=.mk P T hT n c [] N X _) ?_;rw[hs];intro a w hr';obtain⟨B,hm,hA,hS⟩:=pC.YO hr' is hL;have hB:∃y,B=[y]:=by
  cases B with
  |nil=>simp at hm
  |cons y B=>grind
 obtain⟨y,rfl⟩:=hB;have hS:lF c w [y] [.box 0 (cs r)]:=hS;have hA:gU n [y] [(t,.p 0 0)] a:=hA;have hv:aQD T [(t,.p 0 0)] [.box 0 (cs r)] [ResultVar.tmp t]=some (.p 0 0):=by simp[aQD,a52,D0]
 obtain⟨v,h1,h2⟩:=aID hr hT hA hS hv;have hv':v=pV y:=by simp only[fI,gV,bN,List.getElem?_cons_zero] at h1;cases h1;rfl
 subst hv';refine⟨hA.d,_,h2,y,by grind[fI,gV,bN,Value.oneCell'],?_⟩;obtain⟨⟨R,s1,s2⟩,s0⟩:=hS;exact⟨⟨R,s1.imp (.cons (λF h=>h) .nil),λx hx=>by rcases j6.1 hx with rfl|hx<;>first|trivial|simp at hx⟩,s0⟩
theorem cP{O:Type}{fo:Option O}{kf:O->Option β}{q:β}{d:Nat}{f:FuncId}{xs:List SV}{cs:O->List SV}(hs:jE T n K cf m e L=.call o (some d) f xs cf1 cf2 K' m' e' L')
  (hc:∀{w},HS c w L'->VP P (eC w) f fo xs cs) (k:∀x,W (G (.mk P T hT n c B0 N X Q) K' (m'+1) ((d,.p m' 0)::e') (L'++[.box m' (cs x)]) cf2) q (kf x)) (hk:∀x,yS.okC 0 (cs x)=true:=by exact λ_=>rfl):W (G (.mk P T hT n c B0 N X Q) K m e L cf) q (fo.bind kf):=λhF=>by
 refine gW (g:=.mk P T hT n c B0 N X Q) ?_;rw[hs];intro fo' args ats ho hd hf ⟨ys,hys,hxs⟩ hA0 hdn hE;subst hxs;cases hfo:fo with
 |none=>grind
 |some x=>
  rw[hfo] at hF;refine hE Unit (λ_=>m'+1) (λ_=>(d,.p m' 0)::e') (λ_=>L'++[.box m' (cs x)]) (λ_=>tC _) (λB a w next Q' hm hA hS hnext=>?_) (λ_=>k x hF);obtain⟨hcall,hrun⟩:=hc ⟨_,hS⟩ x hfo;obtain⟨vs,h1,h2⟩:=ZV hA hys;obtain⟨v,h3,h4⟩:=eJ hA hf;simp[fI,aT] at h3;subst h3;have h5:=hrun vs (aB4 hA0 (by rw[OE];exact h1)) (aQK w);have h6:=RC (w:=w) hcall ho h4 h2;unfold Oper.wp;rw[h6 _ a hA.env,Oper.upon_enter];refine Calls.mono h5 λen w' ⟨v,hv,y,g1,g2⟩=>?_;subst hv;rw[hd];have hv':v=pV y:=by grind[fI,gV,bN]
  subst hv';have hb:∀{F:cB},(SW [y] 0 (cs x)).P w' F->(SW ((WB (.mk P T hT n c B0 N X Q) cf1++B)++[y]) m' (cs x)).P w' F:=λ⟨b,z,us,k1,k2,k3⟩=>by
   simp only[List.getElem?_cons_zero,Option.some.injEq] at k1;refine⟨y.1,y.2,us,?_,?_,ak⟩
   ·grind
   ·simpa using eY (λx v h=>by simpa using gC (B:=[]) (WB (.mk P T hT n c B0 N X Q) cf1++B++[y]) h) (BT (hk x) k2)
  have g3:fI ((WB (.mk P T hT n c B0 N X Q) cf1++B)++[y]) (.p m' 0)=some (pV y):=by grind[fI,gV,bN,pV]
  refine hnext () _ _ ⟨[y],ak,hA.ext g3 (hA.env.put (by grind[qT,vZ]) _),?_⟩;obtain⟨⟨R,s1,s2⟩,s0⟩:=(hS.after (L2:=[.o (SW [y] 0 (cs x))]) rfl g2).app [y];refine⟨⟨R,s1.imp ?_,λz hz=>?_⟩,s0⟩
  ·rw[o7,o7];exact jS.append (jS.refl _) (.cons (λF h=>hb h) .nil)
  ·rcases dD.1 hz with hz|hz
   ·grind
   ·rcases j6.1 hz with rfl|hz<;>first|trivial|simp at hz
def bHY(b:Bool)(off sz:Nat)(cs:List SV):Option SV:=match b with
 |true=>some (.g ((cs.drop off).take sz))
 |false=>match cs[off]? with
  |some x=>match x with
   |.g _=>none
   |.t _=>none
   |.f _ _=>none
   |.u=>none
   |y=>some y
  |none=>none
theorem bNK{O:Type}{F0:Option O}{q:O}{ix sz d:Nat}{b:Bool}{k:TK}{z cs:List SV}{Fs:Array Field}{F:Field}{x:Operand}{r:SV}{Lv:List Ch}(hu:P.underlying t=some (.struct Fs))(hf:Fs[ix]?=some F)(hl:wV T F.type=some ⟨k,b,sz,z⟩)(hs:opS (jE T n K cf m e L)=some (o,Lv,cf1,cf2,K',m',e',L'))(ho:(o.op,o.dst)=(.field t x ix,some d))(hx:iM e' x=some (.g cs))(hr:bHY b F.offset sz cs=some r)(hz:(!b || Nat.ble (F.offset+sz) cs.length)=true)
  (kk:W (G (.mk P T hT n c B0 N X Q) K' m' ((d,r)::e') L' cf2) q F0):W (G (.mk P T hT n c B0 N X Q) K m e L cf) q F0:=λhF=>
 pu hs (b8 Prod.snd ho) (λB a w hA _=>by
  obtain⟨v,h1,h2⟩:=eJ hA hx;simp only[fI,gV] at h1;split at h1
  case h_2=>cases h1
  rename_i vs hv;cases h1;have hlen:=lO hv;have h0:o.op=.field t x ix:=b8 Prod.fst ho;have hag:=hT.agg _ _ hl;have hsz:=hT.size _ _ hl;cases b with
  |true=>
   have hz':=QU (by simpa using hz);simp only[bHY] at hr;cases hr;refine⟨.agg ((vs.drop F.offset).take sz).toArray,by grind[fI,gV,Q1,Q0],λ_ a hA=>?_⟩;have e:vs.toArray.extract F.offset (F.offset+sz)=((vs.drop F.offset).take sz).toArray:=ae
   simp[execOp,h0,hA.eval h2,Instr.field,run_underlying hu,hf,part,asAgg,hag,hsz,e]
  |false=>
   simp only[bHY] at hr;split at hr
   case h_2=>cases hr
   rename_i y hy;obtain⟨u,h4,h5⟩:=QZ hv hy;have hr':r=y:=ak
   subst hr';refine⟨u,aZA h4,λ_ a hA=>?_⟩;simp[execOp,h0,hA.eval h2,Instr.field,run_underlying hu,hf,part,asAgg,hag,h5]) (kk hF)
end
section
variable {n:Nat} {c:Ctx} {B0:Bl} {m:Nat} {e:SE} {L:List Ch}
def kf(L xs:List Ch)(k:Nat):List Nat->List Ch
 |[]=>[]
 |i::is=>match Nat.blt i k with
  |true=>match L[i]? with
   |some x=>x::kf L xs k is
   |none=>kf L xs k is
  |false=>match xs[i-k]? with
   |some x=>x::kf L xs k is
   |none=>kf L xs k is
end
open Go Go.RowKit
theorem aTN{W:World}{B j:Nat}{v:Value}{cs:Array Value}{t:TypeId}{f:Nat×Nat}(h:W.heap[B]?=some (.cells cs t f)):W.setCell ⟨B,j,none⟩ v=W.putObj B (.cells (cs.setIfInBounds j v) t f):=by unfold World.setCell World.putObj;obtain⟨hlt,he⟩:=aF6.1 h;congr 1;grind
theorem aM9{w':World}(h:Below w.heap.size w w'):eI F0 w w' where
 os:=h.os
 tape:=h.tape
 output:=h.output
 size:=h.size
 block:=λb hb _=>h.block b hb
 cell:=λb o hb _=>World.cell?_of_block (h.block b hb)
 wX:=λb o hb=>World.frozen?_of_block (h.block b hb)
 stay:=λb o hs=>by rw[World.cell?_of_block (a:=⟨b,o,none⟩) (h.block b (jL hs))];exact hs
end Go.Gv
end
noncomputable section
namespace Go.Gv
variable{U:Ctx}{g:FuncId}{c3 xs:List SV}{vs:List Value}{n1 n2 n3:Nat}{P:Program}{β:Type}{w:World}{F:cB}
section
variable {P:Program} {T:TT} {hT:D1 P T} {n:Nat} {c:Ctx} {B0:Bl} {N:Act->World->Prop} {X:Nat->Act->World->Prop} {Q:Act->World->Prop} {K K':List Fr} {m m':Nat} {e e':SE} {L L' Lv:List Ch} {cf cf' cf1 cf2:sY} {o:Oper}
theorem aTO{O β:Type}{f:O->Option β}:∀{xs ys:List O} {vs:List β},aT f (xs++ys)=some vs->∃v1 v2,aT f xs=some v1/\aT f ys=some v2/\vs=v1++v2
 |[],ys,vs,h=>⟨[],vs,rfl,h,rfl⟩
 |x::xs,ys,vs,h=>by
  simp only[D5,aT] at h;split at h
  ·cases h
  ·rename_i h1;split at h
   ·cases h
   ·rename_i h2;cases h;obtain⟨v1,v2,q1,q2,rfl⟩:=aTO h2;grind[aT]
theorem aTP{O β:Type}{f:O->Option β}:∀{xs ys:List O} {v1 v2:List β},aT f xs=some v1->aT f ys=some v2->aT f (xs++ys)=some (v1++v2)
 |[],ys,v1,v2,h1,h2=>by cases h1;exact h2
 |x::xs,ys,v1,v2,h1,h2=>by
  simp only[aT] at h1;split at h1
  ·cases h1
  ·rename_i g1;split at h1
   ·cases h1
   ·rename_i g2;cases h1;simp[aT,g1,aTP g2 h2]
theorem bKY{O:Type}{iR:aL O}{C:DL O}{sr:β->SV}{b1:Nat×Nat}{c1:List SV}{p:O->Option β}(hc:∀args w,(callFunc g args).run P w=.ok (.enter g args) w)(hB:∀w1,eI U.W U.w0 w1->lF (eC w1) w1 [b1] [.ro 0 c1])
  (hn:∀{w1 x y},C.sub (YL w1) w1 x y->VS P (eC w1) g (p x) [C.sv x y,.p 0 0] [b1] [.ro 0 c1] (λr (_:Unit)=>sr r) (λ_ _=>[])) (hz:∀q,yS 0 (sr q)=true:=by exact λ_=>rfl):WD P U C sr g (RD [b1]) p:=
 ⟨hc,λw1 hk x y hy q hq v hv=>by
  have hv':fI [b1] (C.sv x y)=some v:=by simpa using wB (B:=[]) [b1] hv
  have hl:fI [b1] (.p 0 0)=some (.pointer (some ⟨b1.1,b1.2,none⟩)):=by simp[fI,gV,bN]
  refine Calls.mono ((hn hy _ hq).run (v::RD [b1]) (by grind[aT,RD]) (hB w1 hk)) λen w' ⟨v',h1,y',h2,h3⟩=>⟨v',h1,?_,?_⟩
  ·grind[aOW]
  ·simpa using aB1 (m:=0) h3 rfl⟩
theorem bKZ{O ex:Type}{fo:Option O}{kf:O->Option β}{q:β}{d:Option Nat}{f:FuncId}{xs0:List SV}{M:List Ch}{sv:O->ex->SV}{Lr:O->ex->List Ch}{c1:List SV}(jc:Nat)(is:List Nat)
  (hs:cpS (jE T n K cf m e L)=some (o,d,f,xs,cf1,cf2,K',m',e',L')) (hro:L'[jc]?=some (.ro n1 c1)) (hi:aT (λi=>L'[i]?) is=some M) (hxl:xs=xs.dropLast++[.f g [n1]]) (hx:aT (rnP [] 0) xs.dropLast=some xs0)
  (hk:(yS.okC 0 c1 && (I8 M && (dJ is && is.all λj=>fT j cf1.wX)))=true)
  (hc:∀{U:Ctx},HG c U L' is->∀{b1:Nat×Nat},(∀w1,eI U.W U.w0 w1->lF (eC w1) w1 [b1] [.ro 0 c1])->VS P U f fo (xs0++[.k (.func (.func g) #[] (RD [b1]).toArray)]) [] M sv Lr)
  (k:∀x,∀y:ex,W (G (.mk P T hT n c B0 N X Q) K' m' (dse d (sv x y) e') (HI L' is++Lr x y) cf2) q (kf x)) (hn:∀x y,(I8 (Lr x y) && yS 0 (sv x y))=true:=by exact λ_ _=>rfl):W (G (.mk P T hT n c B0 N X Q) K m e L cf) q (fo.bind kf):=λhF=>by
 refine gW (g:=.mk P T hT n c B0 N X Q) (a6Z hs ?_);intro fo' args ats ho hd hf ⟨ys,hys,hxs⟩ hdn hE;simp only[yQ] at hk hn;obtain⟨hk1,hkM,hka,hkz⟩:=hk;cases hfo:fo with
 |none=>grind
 |some x=>
  rw[hfo] at hF;refine hE ex (λ_=>m') (λy=>dse d (sv x y) e') (λy=>HI L' is++Lr x y) (λy=>S3 _ hkz) (λB a w next Q' hm hA hS hnext=>?_) (λy=>k x y hF);generalize hBB:WB (.mk P T hT n c B0 N X Q) cf1++B=BB at hm hA hS hnext;obtain⟨⟨R,s1,s2⟩,s0⟩:=hS;have f1:=s1.front is hka;rw[OG hi] at f1;obtain⟨U,k1,k2,k3,k4,k5,k6,k7⟩:=f1.bFX s0;subst k1;have hHG:HG c U L' is:=by
   refine⟨λ{O} _ {s d} h=>k4 (fRd [s.v d.length] d) h,λ{O} _ {s d} i hi hj=>?_,λ{O} _ {s d} i hi=>k5 _ (s2 _ (D7 hi))⟩;have:(blank (L'.map (lE BB)) is)[i]?=some (eM [s.v d.length] d):=by rw[aD3 (aEB hj),zU,hi];rfl
   exact k6 _ (D7 this) (fRd [s.v d.length] d) λw F h=>aL.own_rd h
  obtain⟨b,z,vs1,g1,g2,g3⟩:=s2 _ (D7 hro);have hc0:=BT hk1 g2;rw[List.take_zero] at hc0;have hB:∀w1,eI U.W U.w0 w1->lF (eC w1) w1 [(b,z)] [.ro 0 c1]:=λw1 hkp=>by have h1:=k5 _ g3;have h2:(fAt b z vs1).P U.S0 w1:=(fAt b z vs1).agree h1 λb' o' hS=>hkp.cell b' o' (k2 b' o' hS) λhw=>k3.apart b' o' hw hS;have h3:(fAt b z vs1).P (YL w1) w1:=(fAt b z vs1).mono h2 λb' o' hS=>D9 (k2 b' o' hS) hkp.size;have h4:St (eC w1) w1 [] [fAt b z vs1]:=St.enter ak;refine⟨⟨[fAt b z vs1],St.more (ch:=LA) h4 (eI.refl _ _) ⟨F0,λ_ _ h=>h,λ_ _ h=>h.elim⟩,λx hx=>?_⟩,λ_ _ h=>h⟩;simp at hx;subst hx;exact⟨b,z,vs1,ae,eY (λx v h=>by simpa using gC (B:=[]) _ h) hc0,ae⟩
  obtain⟨hcall,hrun⟩:=hc hHG hB x hfo;obtain⟨vs,h1,h2⟩:=ZV hA hys;obtain⟨v,h3,h4⟩:=eJ hA hf;simp[fI,aT] at h3;subst h3;have h1':aT (fI BB) xs=some vs:=by grind[OE]
  have hvs:aT (fI []) (xs0++[.k (.func (.func g) #[] (RD [(b,z)]).toArray)])=some vs:=by rw[hxl] at h1';obtain⟨va,vb,q1,q2,rfl⟩:=aTO h1';have q3:=aQR (Bs:=[]) (ps:=[]) (ds:=[]) (pv:=[]) (L:=L') (B:=BB) trivial (λi=>by simp[blP]) hx q1;simp only[aT,fI,gV,VU,g1] at q2;cases q2;exact aTP q3 (by simp[aT,fI,gV,bN,RD];rfl)
  have hst:lF U U.w0 [] M:=by
   refine⟨⟨[],?_,λx hx=>?_⟩,k2⟩
   ·rw[WE (B':=BB) hkM];exact k3
   ·exact WG hkM x hx
  have h5:=hrun vs hvs hst;have h6:=RC (w:=U.w0) hcall ho h4 h2;unfold Oper.wp;rw[h6 _ a hA.env,Oper.upon_enter];refine Calls.mono h5 λen w' ⟨v,hv,y,g1,g2⟩=>?_;subst hv;obtain⟨n3,n4⟩:=hn x y;have g3:=wB BB (aOW n4 g1);rw[QT] at g3;obtain⟨⟨R',t1,t2⟩,t0⟩:=g2;have t3:St U w' ((Lr x y).map (lE BB)) R':=by grind[WE]
  have t4:=k7 w' _ R' t3;have t6:lF c w' BB (HI L' is++Lr x y):=by
   refine⟨⟨R,?_,λz hz=>?_⟩,s0⟩
   ·rw[o7,H7];exact t4.rot
   ·rcases dD.1 hz with hz|hz
    ·rcases OF _ _ hz with hz|hz
     ·grind
     ·subst hz;trivial
    grind[WG]
  rw[hd];cases d with
  |none=>exact hnext y _ _ ⟨[],ak,by grind[dse,Act.put],ak⟩
  |some d=>exact hnext y _ _ ⟨[],ak,by simpa[dse] using hA.of g3 (hA.env.put (by grind[qT,vZ]) v),ak⟩
end
def D2(l:List Int):List Int:=l.foldl (λa x=>if a.getLast?=some x then a else a++[x]) []
theorem aEE(l:List Int)(x:Int):D2 (l++[x])=if(D2 l).getLast?=some x then D2 l else D2 l++[x]:=by grind[D2]
theorem a2M:∀(l:List Int),(D2 l).getLast?=l.getLast?:=by
 intro l;rcases ZQ l with rfl|⟨l,x,rfl⟩
 ·rfl
 grind[aEE]
theorem bCT(l:List Int):(D2 l).length<=l.length:=by
 suffices h:∀(l a:List Int),(l.foldl (λa x=>if a.getLast?=some x then a else a++[x]) a).length<=a.length+l.length by have:=h l [];rw[List.length_nil,aBT] at this;exact this
 intro l;induction l with
 |nil=>simp
 |cons x l ih=>
  grind
def slices_Compact_int(s:List Int):Option (List Int):=some (D2 s)
theorem aZ4(l:List Int):Lib.compact l=D2 l:=by
 have h:∀m,m<=l.length->Lib.compactUpTo l.toArray m=D2 (l.take m):=by
  intro m;induction m with
  |zero=>intro _;rfl
  |succ m ih=>
   intro hm;have hm':m<l.length:=hm;rw[Lib.compactUpTo_succ,ih aa,I6 hm',aEE,a2M];have e1:l.toArray[m]! = l[m]:=by simp[hm']
   have key:(Lib.keeps l.toArray m=true)↔¬(l.take m).getLast?=some l[m]:=by
    cases m with
    |zero=>simp[Lib.keeps]
    |succ k=>
     have e2:l.toArray[k]! = l[k]:=ak
     rw[I6 (by omega:k<l.length),List.getLast?_concat];simp only[Lib.keeps,decide_eq_true_eq,e1,Nat.add_sub_cancel,e2];grind
   grind
 have:=h l.length (iU _);rw[List.take_length] at this;exact this
open Go.Sort in
theorem aTQ{b off q:Nat}{d0 d:Array Int}(h0:Holds (Value.int .i64) w b off d0)(hs:d.size=d0.size):eI (eP b off d.size) w (putRow (Value.int .i64) (Sort.ahead w q) b off d):=by
 have hc:∀b' o,b'<w.heap.size->¬eP b off d.size b' o->(putRow (Value.int .i64) (Sort.ahead w q) b off d).cell? ⟨b',o,none⟩=w.cell? ⟨b',o,none⟩:=λb' o _ hn=>by
  rw[cell?_putRow_other _ _ _ _ _ _ (by
   by_cases e:b'=b
   ·right;by_cases h1:o<off
    ·grind
    ·right;by_cases h2:o<off+d.size
     ·exact absurd ⟨e,aa,h2⟩ hn
     grind
   grind)]
  rfl
 refine⟨rfl,rfl,rfl,ae,λb' hb hn=>?_,hc,λb' o _=>ae,λb' o h=>?_⟩
 ·show(w.heap.modify b _)[b']? = _;rw[Array.getElem?_modify];split
  ·rename_i e;subst e;have hz:d.size=0:=by
    rcases Nat.eq_zero_or_pos d.size with h|h
    ·exact h
    ·exact absurd ⟨rfl,iU _,aa⟩ (hn off)
   cases hh:w.heap[b]? with
   |none=>rfl
   |some o=>
    cases o with
    |cells c e fr=>
     simp only[Option.map_some,onCells];have:putCells (Value.int .i64) off d c=c:=by apply Array.ext_getElem?;intro k;simp only[putCells,Array.getElem?_mapIdx,hz];grind
     rw[this]
    |_=>rfl
  ·rfl
 ·by_cases hn:eP b off d.size b' o
  ·obtain⟨rfl,h1,h2⟩:=hn;have:=cell?_putRow (Value.int .i64) (Sort.ahead w q) b' off d0 d h0 hs (o-off) aa;grind
  grind[jL]
open Go.Proofs in
theorem bNL{ρ:_}(Ly:Lays2.n20 P ρ)(hcall:∀args w,(callFunc (ρ.f 20) args).run P w=.ok (.enter (ρ.f 20) args) w){s:List Int}{s1:AC}:VS P U (ρ.f 20) (slices_Compact_int s) [.h s1 s.length] [] [ow s1 s] (λr (y:AC)=>.h y r.length) (λr y=>[ow y r]):=λr hr=>by
 cases hr;refine⟨hcall,λvs hv hS=>?_⟩;simp[aT,fI,gV,bN] at hv;subst hv;obtain⟨⟨R,h1,h2⟩,h0⟩:=hS;have h1:St U U.w0 [eM [s1.v s.length] s] R:=by grind[lE]
 obtain⟨F,hF⟩:=h1.chunk 0 rfl;have hF:aL.own U.w0 [s1.v s.length] s F:=hF;obtain⟨a,cp,he,hl1,hl2,hrest⟩:=(show AV U.w0 _ s F from hF);obtain⟨sa,sc⟩:=s1;simp only[AC.v,List.cons.injEq,Value.slice.injEq,and_true,true_and] at he;obtain⟨rfl,rfl⟩:=he;rcases hrest with ⟨rfl,rfl,hno⟩|⟨b,off,Fs,rfl,hrow,hel,hdj,hdr,hFF⟩
 ·have hs:s=[]:=uI aa;subst hs;refine(Any.slices_Compact_int_empty Ly none 0 U.w0).mono ?_;rintro e w' ⟨rfl,rfl⟩;exact⟨_,rfl,⟨none,0⟩,by grind[fI,gV,bN,D2],⟨R,by grind[D2],λx hx=>by simp at hx;subst hx;trivial⟩,h0⟩
 ·have hn:aL.n Int=1:=rfl;have hH:Sort.Holds (Value.int .i64) U.w0 b off s.toArray:=λj hj=>by
   have hj':j<s.length:=aa
   obtain⟨ec,c1,c2⟩:=hel j hj';have c3:ec=[Value.int .i64 s[j]]:=(show _=_/\_ from c2).1;have:=c1 0 (.int .i64 s[j]) (by rw[c3];rfl);rw[hn,Nat.mul_one,UO] at this;refine⟨ak,(hrow (off+j) ⟨rfl,aa,ak⟩).2⟩
  have hlen:(Lib.compact s).length<=s.length:=by grind[aZ4,bCT]
  refine(Any.slices_Compact_int Ly b off sc s U.w0 hH (lX hl1 (lX hl2 ai)) hl1).mono ?_;rintro e w' ⟨rfl,q,rfl⟩;rw[aZ4] at hlen ⊢;have hsz:(D2 s++List.replicate (s.length-(D2 s).length) 0).toArray.size=s.toArray.size:=ah
  have hsa:s.toArray.size=s.length:=ae
  have hK:=aTQ (q:=q) hH hsz;refine⟨_,rfl,⟨some ⟨b,off,none⟩,sc⟩,by grind[fI,gV,bN],⟨R,?_,by simp[roF]⟩,h0⟩;have:=h1.aD1 (w':=Sort.putRow (Value.int .i64) (Sort.ahead U.w0 q) b off (D2 s++List.replicate (s.length-(D2 s).length) 0).toArray) (ch':=eM [(⟨some ⟨b,off,none⟩,sc⟩ : AC).v (D2 s).length] (D2 s)) 0 rfl λF2 hF2=>by
   have hF2:aL.own U.w0 [_] s F2:=hF2;obtain⟨a',cp',he',_,_,hrest'⟩:=(show AV U.w0 _ s F2 from hF2);simp only[AC.v,List.cons.injEq,Value.slice.injEq,and_true,true_and] at he';obtain⟨rfl,rfl⟩:=he';rcases hrest' with ⟨h,_⟩|⟨b',off',Fs',h,hrow',hel',hdj',hdr',hFF'⟩
   ·cases h
   ·cases h;have hemp:∀i (hi:i<s.length) b' o,¬Fs' i b' o:=λi hi b' o h=>by obtain⟨ec,_,c2⟩:=hel' i hi;exact(show _/\∀b o,¬Fs' i b o from c2).2 b' o h
    refine⟨eP b off (sc*1),eP b off (D2 s++List.replicate (s.length-(D2 s).length) 0).toArray.size,hK,λb' o h=>(hFF' b' o).2 (.inl ?_),?_,λb' o h=>.inl ((hFF' b' o).2 (.inl h))⟩
    ·obtain⟨h3,h4,h5⟩:=h;exact⟨h3,h4,ak⟩
    ·refine⟨_,sc,rfl,aa,hl2,.inr ⟨b,off,λ_=>F0,rfl,λo ho=>?_,λi hi=>?_,λ_ _ _ _ _ _ _ h _=>h,λ_ _ _ _ h _=>h,λb' o=>by simp[F0,hn]⟩⟩
     ·have:=hrow' o ho;exact⟨hK.stay b o this.1,(hK.wX b o (jL this.1)).trans this.2⟩
     ·refine⟨[.int .i64 (D2 s)[i]],λj v hj=>?_,rfl,λ_ _ h=>h⟩;have hj0:j=0:=ak
      subst hj0;simp at hj;subst hj;rw[hn,Nat.mul_one,UO];have:=Sort.cell?_putRow (Value.int .i64) (Sort.ahead U.w0 q) b off s.toArray (D2 s++List.replicate (s.length-(D2 s).length) 0).toArray hH hsz i aa;grind
  grind[lE]
theorem fkP{O:Type}{iR:aL O}{C:DL O}{sr:β->SV}{Bs:Bl}{L0:List Ch}{cap:List Value}{p:O->Option β}(hc:∀args w,(callFunc g args).run P w=.ok (.enter g args) w)(hB:∀w1,eI F0 w w1->lF (eC w1) w1 Bs L0)(hl:aT (fI Bs) xs=some cap)
  (hn:∀{w1 x y},eI F0 w w1->C.sub (YL w1) w1 x y->VS P (eC w1) g (p x) (C.sv x y::xs) Bs L0 (λr (_:Unit)=>sr r) (λ_ _=>[])) (hz:∀q,yS 0 (sr q)=true:=by exact λ_=>rfl):WD P (eC w) C sr g cap p:=
 ⟨hc,λw1 hk x y hy q hq v hv=>by
  have hv':fI Bs (C.sv x y)=some v:=by simpa using wB (B:=[]) Bs hv
  refine Calls.mono ((hn hk hy q hq).run (v::cap) (by grind[aT]) (hB w1 hk)) λen w' ⟨v',h1,y',h2,h3⟩=>⟨v',h1,?_,?_⟩
  ·grind[aOW]
  ·simpa using aB1 (m:=0) h3 rfl⟩
theorem bCU{c:Ctx}{B:Bl}{L:List Ch}{c1:List SV}{b1 b2:Nat×Nat}(hS:lF c w B L)(h1:Ch.ro n1 c1∈L)(h2:Ch.ro n2 [.p n3 0]∈L)(h3:Ch.ro n3 c3∈L)(o1:yS.okC 0 c1=true)(o3:yS.okC 0 c3=true)(g1:B[n1]?=some b1)(g2:B[n2]?=some b2) :
  ∃b3:Nat×Nat,∀w1,eI F0 w w1->lF (eC w1) w1 [b1,b2,b3] [.ro 0 c1,.ro 1 [.p 2 0],.ro 2 c3]:=by
 obtain⟨⟨R,s1,s2⟩,s0⟩:=hS;obtain⟨p1,z1,v1,e1,m1,f1⟩:=s2 _ h1;obtain⟨p2,z2,v2,e2,m2,f2⟩:=s2 _ h2;obtain⟨p3,z3,v3,e3,m3,f3⟩:=s2 _ h3;rw[g1] at e1;cases e1;rw[g2] at e2;cases e2;simp only[aT,bN,e3] at m2;cases m2;have q1:=BT o1 m1;have q3:=BT o3 m3;rw[List.take_zero] at q1 q3;refine⟨(p3,z3),λw1 hkp=>?_⟩;have fct:∀f∈R,f.P (YL w1) w1:=λf hf=>by obtain⟨i,hi⟩:=aFK hf;exact bFN (s1.fact i hi) hkp
 refine⟨⟨[fAt p1 z1 v1,fAt p2 z2 [.pointer (some ⟨p3,z3+0,none⟩)],fAt p3 z3 v3],?_,?_⟩,λ_ _ h=>h⟩
 ·have h4:St (eC w1) w1 [] [fAt p1 z1 v1,fAt p2 z2 [.pointer (some ⟨p3,z3+0,none⟩)],fAt p3 z3 v3]:=St.enter (by
   grind)
  have more:∀{M:List Chunk} {R:List Fact},St (eC w1) w1 M R->St (eC w1) w1 (M++[LA]) R:=λh=>St.more (ch:=LA) h (eI.refl _ _) ⟨F0,λ_ _ h=>h,λ_ _ h=>h.elim⟩;exact more (more (more h4))
 ·intro x hx;simp only[j6,aYX,or_false] at hx;rcases hx with rfl|rfl|rfl
  ·exact⟨p1,z1,v1,rfl,eY (λx v h=>by simpa using gC (B:=[]) [(p1,z1),(p2,z2),(p3,z3)] h) q1,ae⟩
  ·exact⟨p2,z2,_,rfl,rfl,ae⟩
  ·exact⟨p3,z3,v3,rfl,eY (λx v h=>by simpa using gC (B:=[]) [(p1,z1),(p2,z2),(p3,z3)] h) q3,ae⟩
section
variable {P:Program} {T:TT} {hT:D1 P T} {n:Nat} {c:Ctx} {B0:Bl} {N:Act->World->Prop} {X:Nat->Act->World->Prop} {Q:Act->World->Prop} {K K':List Fr} {m m':Nat} {e e':SE} {L L':List Ch} {cf cf1 cf2:sY} {o:Oper} {Lv:List Ch} {d:Nat}
theorem bNM{O:Type}{fo:Option O}{kf:O->Option β}{q:β}{f:FuncId}{sv:O->SV}{c1:List SV}(is:List Nat)(hs:jE T n K cf m e L=.callp o (some d) f xs cf1 cf2 K' m' e' L')(hk:kl (shr [n3] L') is=[.ro n1 c1,.ro n2 [.p n3 0],.ro n3 c3])(ho:((yS.okC 0 c1 && yS.okC 0 c3) && okA xs.dropLast)=true)(hx:xs=xs.dropLast++[.f g [n1,n2]])
  (hc:∀{w},HS c w L'->∀{b1 b2 b3:Nat×Nat},(∀w1,eI F0 w w1->lF (eC w1) w1 [b1,b2,b3] [.ro 0 c1,.ro 1 [.p 2 0],.ro 2 c3])->∀{x},fo=some x->Fn0 P f (eC w) (xs.dropLast++[.k (.func (.func g) #[] (RD [b1,b2]).toArray)]) sv x) (hF:fo.bind kf=some q)
  (k:∀x,fo=some x->kf x=some q->G (.mk P T hT n c B0 N X Q) K' m' ((d,sv x)::e') L' cf2):G (.mk P T hT n c B0 N X Q) K m e L cf:=by
 refine gW (g:=.mk P T hT n c B0 N X Q) ?_;rw[hs];intro fo' args ats ho' hd hf ⟨ys,hys,hxs⟩ hdn hE;rw[yQ] at ho;cases hfo:fo with
 |none=>grind
 |some x=>
  rw[hfo] at hF;refine hE Unit (λ_=>m') (λ_=>(d,sv x)::e') (λ_=>L') (λ_=>by simpa using tC (L:=L') []) (λB a w next Q' hm hA hS hnext=>?_) (λ_=>k x hfo hF);obtain⟨vs,h1,h2⟩:=ZV hA hys;obtain⟨v,h3,h4⟩:=eJ hA hf;simp[fI,aT] at h3;subst h3;rw[<-OE,hxs] at h1;rw[hx] at h1;have split:∀{qs:List SV} {b:SV} {vs:List Value} {B:Bl},aT (fI B) (qs++[b])=some vs->∃us v,aT (fI B) qs=some us/\fI B b=some v/\vs=us++[v]:=by
   intro qs;induction qs with
   |nil=>
    grind[aT]
   |cons a qs ih=>
    intro b vs B h;simp only[D5,aT] at h;grind[aT]
  obtain⟨us,fv,g1,g2,rfl⟩:=split h1;simp only[fI] at g2;split at g2
  ·rename_i cap hcap;cases g2;obtain⟨Bs,b1,b2,b3⟩:=a6Q (cs:=[(n1,c1),(n2,[.p n3 0])]) hcap;subst b1;obtain⟨d1,d2,rfl⟩:∃d1 d2,Bs=[d1,d2]:=by
    match Bs,b2 with
    |[d1,d2],_=>simp
   have hmem:∀x∈[Ch.ro n1 c1,.ro n2 [.p n3 0],.ro n3 c3],x∈shr [n3] L':=λx hx=>aJN (is:=is) ak;rw[yQ] at ho;obtain⟨q1,y1,y2⟩:=b3 0 n1 c1 rfl;obtain⟨q2,y3,y4⟩:=b3 1 n2 _ rfl;simp at y1 y3;subst y1 y3;obtain⟨d3,hst⟩:=bCU (n3:=n3) (c1:=c1) (c3:=c3) (aQM [n3] [] L' hS) (hmem (.ro n1 c1) ae) (hmem (.ro n2 [.p n3 0]) ae) (hmem (.ro n3 c3) ae) ho.1.1 ho.1.2 y2 y4;obtain⟨hcall,hrun⟩:=hc ⟨_,hS⟩ hst hfo;have join:∀{qs:List SV} {us:List Value} {b:SV} {v:Value},aT (fI []) qs=some us->fI [] b=some v->aT (fI []) (qs++[b])=some (us++[v]):=by
    intro qs;induction qs with
    |nil=>grind[aT]
    |cons a qs ih=>
     intro us b v h hb;simp only[aT] at h;split at h
     ·cases h
     ·rename_i u hu;split at h
      ·cases h
      ·rename_i us' hus;cases h;simp[aT,hu,ih hus hb]
   have h5:=hrun (us++[.func (.func g) #[] (RD [d1,d2]).toArray]) (join (aB4 ho.2 g1) (by simp[fI,gV,bN,Value.oneCell'])) (aQK w);have h6:=RC (w:=w) hcall ho' h4 h2;unfold Oper.wp;rw[h6 _ a hA.env,Oper.upon_enter];refine Calls.mono h5 λen w' ⟨v,hv,y,e1,e2⟩=>?_;subst hv;rw[hd];have g3:=wB (WB (.mk P T hT n c B0 N X Q) cf1++B) e1;exact hnext () _ _ ⟨[],ak,by simpa using hA.of ak (hA.env.put (by grind[qT,vZ]) v),by simpa using hS.after (L2:=[]) rfl e2⟩
  ·cases g2
theorem clP{O:Type}{fo:Option O}{kf:O->Option β}{q:β}{f:FuncId}{sv:O->SV}{c1:List SV}(is:List Nat)(hs:jE T n K cf m e L=.callp o (some d) f xs cf1 cf2 K' m' e' L')(hk:kl (shr [n3] L') is=[.ro n1 c1,.ro n2 [.p n3 0],.ro n3 c3])(ho:((yS.okC 0 c1 && yS.okC 0 c3) && okA xs.dropLast)=true)(hx:xs=xs.dropLast++[.f g [n1,n2]])
  (hc:∀{w},HS c w L'->∀{b1 b2 b3:Nat×Nat},(∀w1,eI F0 w w1->lF (eC w1) w1 [b1,b2,b3] [.ro 0 c1,.ro 1 [.p 2 0],.ro 2 c3])->V0 P (eC w) f fo (xs.dropLast++[.k (.func (.func g) #[] (RD [b1,b2]).toArray)]) sv)
  (k:∀x,W (G (.mk P T hT n c B0 N X Q) K' m' ((d,sv x)::e') L' cf2) q (kf x)):W (G (.mk P T hT n c B0 N X Q) K m e L cf) q (fo.bind kf):=λhF=>
 bNM is hs hk ho hx (λh _ _ _ h2 _ hx=>hc h h2 _ hx) hF λx _ h=>k x h
def noD:sY->Bool
 |.d _ _ _ _ _ _=>false
 |.o _ _ _ _ _ _ _=>false
 |_=>true
theorem shS(ns:List Nat){cf':sY}(hs:PJ (jE T n K cf m e L)=some (K',cf',m',e',L'))(hf:noD cf'=true)(k:G (.mk P T hT n c B0 N X Q) K' m' e' (shr ns L') cf'):G (.mk P T hT n c B0 N X Q) K m e L cf:=by
 refine go hs (chg (λ_:Unit=>m') (λ_=>e') (λ_=>shr ns L') (λB a w hm hA hS=>⟨(),[],ak,ak,by simpa using aQM ns [] L' hS⟩) (λ_=>?_) (λ_=>k));cases cf' with
 |d _ _ _ _ _ _=>cases hf
 |o _ _ _ _ _ _ _=>cases hf
 |_=>trivial
end
abbrev R2:=Raw×Raw
variable{us:List R2}
def prs:List Value->List R2
 |a::b::r=>(⟨a⟩,⟨b⟩)::prs r
 |_=>[]
theorem S7:∀{n:Nat} {cs:List Value},cs.length=n*2->(prs cs).length=n
 |0,cs,h=>by have:cs=[]:=uI aa;rw[this];rfl
 |n + 1,cs,h=>by
  match cs,h with
  |a::b::r,h=>simp only[prs,G5] at *;rw[S7 (n:=n) aa]
  |[_],h=>grind
  |[],h=>simp at h
theorem aII:∀{n:Nat} {cs ds:List Value},cs.length=n*2->prs (cs++ds)=prs cs++prs ds
 |0,cs,ds,h=>by have:cs=[]:=uI aa;rw[this];rfl
 |n + 1,cs,ds,h=>by
  match cs,h with
  |a::b::r,h=>simp only[prs,D5,G5] at *;rw[aII (n:=n) aa]
  |[_],h=>grind
  |[],h=>simp at h
theorem aZ5{a b:Value}(ha:a.oneCell'=true)(hb:b.oneCell'=true):aL.own w [a,b] ((⟨a⟩,⟨b⟩):R2) F0:=
 ⟨[a],[b],F0,F0,rfl,⟨⟨rfl,ha⟩,λ_ _ h=>h⟩,⟨⟨rfl,hb⟩,λ_ _ h=>h⟩,λ_ _ h=>h.elim,λ_ _=>by simp[F0]⟩
theorem bCV{cs:List Value}{u:R2}(h:aL.own w cs u F):cs=[u.1.v,u.2.v]/\∀b o,¬F b o:=by obtain⟨c1,c2,F1,F2,e,h1,h2,_,hF⟩:=h;refine⟨by rw[e,h1.1.1,h2.1.1];rfl,λb o p=>((hF b o).1 p).elim (h1.2 b o) (h2.2 b o)⟩
section
variable {O:Type} [aL O] (hn:aL.n O=2) {w:World}
include hn
theorem aZ6:∀{l:List O} {cs:List Value} {F:cB},cN w cs l F->cN w cs (prs cs) F0
 |[],cs,F,h=>by rw[h.1];exact⟨rfl,λ_ _ h=>h⟩
 |x::r,cs,F,⟨c1,c2,F1,F2,e,h1,h2,hd,hF⟩=>by
  have a:=aL.lN (aL.own_rd h1);have o:=aL.rd_one (aL.own_rd h1);rw[hn] at a
  match c1,a,o with
  |[u,v],_,o=>
   subst e;exact⟨[u,v],c2,F0,F0,rfl,aZ5 (o u ae) (o v ae),aZ6 h2,λ_ _ h=>h.elim,λ_ _=>by simp[F0]⟩
theorem aQU{l:List O}{cs:List Value}(h:cN w cs l F):cs.length=l.length*2:=by rw[h.length,hn]
omit hn in
theorem aOX:∀{us:List R2} {cs:List Value} {F:cB},cN w cs us F->us=prs cs/\∀b o,¬F b o
 |[],cs,F,h=>by rw[h.1];exact⟨rfl,h.2⟩
 |u::r,cs,F,⟨c1,c2,F1,F2,e,h1,h2,hd,hF⟩=>by obtain⟨e1,f1⟩:=bCV h1;obtain⟨e2,f2⟩:=aOX h2;simp_all[prs]
theorem a7E{s:Value}{l:List O}{cs:List Value}{G Fe:cB}(h:aL.own w [s] us G)(ho:cN w cs l Fe)(hu:us=prs cs)(hd:G.DZ Fe):aL.own w [s] l (λb o=>G b o\/Fe b o):=by
 have hcl:=aQU hn ho;have hp:=S7 hcl;rw[<-hu] at hp;obtain⟨a,c,e,h1,h2,h3⟩:=mW.1 h;refine mW.2 ⟨a,c,by rw[e,hp],aa,h2,?_⟩;rcases h3 with ⟨rfl,rfl,k⟩|⟨b,off,cc,Ge,rfl,hr,hc,ho',hdj,hFF⟩
 ·have hl:l=[]:=uI aa;subst hl;exact .inl ⟨rfl,rfl,λb o p=>p.elim (k b o) (ho.2 b o)⟩
 ·obtain⟨q1,q2⟩:=aOX ho';have hcc:cc.length=us.length*2:=ho'.length;have e2:cc=cs:=by
   have hj:∀{n:Nat} {x y:List Value},x.length=n*2->y.length=n*2->prs x=prs y->x=y:=by
    intro n;induction n with
    |zero=>simp
    |succ n ih=>
     intro x y hx hy hxy
     match x,y,hx,hy,hxy with
     |a::b::r,a'::b'::r',hx,hy,hxy=>
      grind[prs]
     |[],_,hx,_,_=>simp at hx
     |[_],_,hx,_,_=>grind
     |_::_::_,[],_,hy,_=>simp at hy
     |_::_::_,[_],_,hy,_=>grind
   grind
  subst e2;have hG:∀b' o,G b' o↔eP b off (c*2) b' o:=λb' o=>by rw[hFF];exact⟨λq=>q.elim id λq=>(q2 b' o q).elim,.inl⟩
  refine .inr ⟨b,off,cc,Fe,rfl,by rw[hn];exact hr,hc,ho,λb' o p q=>hd b' o ((hG b' o).2 ak) p,λb' o=>by rw[hG,hn]⟩
def cIn(cs:List Value)(l:List O):Chunk:=⟨λw F=>cN w cs l F,λh hk hd=>cN.keep hk h hd,λh hf=>cN.lt h hf⟩
end
def bK0{O:Type}(l:List O)(i j:Int):Option (List O):=need (0<=i/\i<=j/\j<=(l.length:Int)) (some (l.take i.toNat++l.drop j.toNat))
def zR2:R2:=(⟨.bool false⟩,⟨.slice none 0 0⟩)
theorem bHZ:aL.rd F0 w [.bool false,.slice none 0 0] zR2:=⟨[_],[_],rfl,⟨rfl,rfl⟩,⟨rfl,rfl⟩⟩
theorem bCW{O:Type}{l:List O}{a b:Nat}(hab:a<=b)(hb:b<=l.length):((cT l a (l.drop b)).take (a+(l.length-b))).drop 0=l.take a++l.drop b:=by
 have h1:(l.take a).length=a:=ak
 have h2:(l.drop b).length=l.length-b:=ae
 unfold cT;rw[UM,aFO (l:=l.drop b) aa,<-o6,show a+(l.length-b)=(l.take a++l.drop b).length by grind];grind
theorem aTR{O:Type}{p:Prop}[Decidable p]{k:Option O}(h:p):need p k=k:=aO h
def a7F(s:List R2)(i j:Int):Option (List R2):=
 need (0<=(i:Int)/\(i:Int)<=(j:Int)/\(j:Int)<=((s.length:Int):Int)/\((s.length:Int):Int)<=(s.length:Int)) ((if i == j then some s else need (0<=(i:Int)/\(i:Int)<=(s.length:Int)) (need (0<=(j:Int)/\(j:Int)<=(s.length:Int)) (need (i.toNat<=j.toNat) (need (0<=(((((cT s i.toNat (s.drop j.toNat)).take (i.toNat+(s.length-j.toNat))).drop 0).length:Int):Int)/\(((((cT s i.toNat (s.drop j.toNat)).take (i.toNat+(s.length-j.toNat))).drop 0).length:Int):Int)<=((s.length:Int):Int)/\((s.length:Int):Int)<=((cT s i.toNat (s.drop j.toNat)).length:Int)) (some (((cT s i.toNat (s.drop j.toNat)).take (i.toNat+(s.length-j.toNat))).drop 0)))))))
theorem bCX{i j:Int}(h:0<=i/\i<=j/\j<=(us.length:Int)):a7F us i j=some (us.take i.toNat++us.drop j.toNat):=by
 unfold a7F;rw[aTR aa];by_cases e:i=j
 ·simp_all
 ·rw[aP ak,aTR aa,aTR aa,aTR aa,bCW aa aa,aTR];grind[eX]
theorem a7G{O:Type}[aL O](hn:aL.n O=2){s:Value}{l:List O}{ec:List Value}(hl:ec.length=2)(ho:∀v∈ec,v.oneCell'=true)(h:Sep w [sN s l 0,V4 (VT s) (UQ (aL.n O) 0 s) ec] F) :
  ∃c2,c2.length=(l.drop 1).length*2/\l.length=(l.drop 1).length+1/\∀F,Sep w [sN s l 0,V4 (VT s) (UQ (aL.n O) 0 s) ec] F->∃G Fe,aL.own w [s] (prs (ec++c2)) G/\cN w c2 (l.drop 1) Fe/\G.DZ Fe/\∀b o,F b o↔G b o\/Fe b o:=by
 obtain⟨G1,G2,⟨a,c,b,off,c1,c2,F1,F3,e,h1,h2,hk,rfl,hr,k1,k3,o1,o3,d1,d2,d3,hG1⟩,_,_,_⟩:=h;have hc2:=aQU hn o3;have hdl:(l.drop 1).length=l.length-1:=ae
 have hdl':(l.drop (0+1)).length=l.length-1:=ae
 refine⟨c2,hc2,aa,λF h=>?_⟩;obtain⟨G1',G2',⟨a',c',b',off',c1',c2',F1',F3',e',h1',h2',hk',e3,hr',k1',k3',o1',o3',d1',d2',d3',hG1'⟩,hAt,dG,hF⟩:=h;rw[e] at e';cases e';cases e3;have hcc:c2'=c2:=aAI k3' k3 (by grind[aQU]);subst hcc;have hAt:(V4 (VT s) (UQ (aL.n O) 0 s) ec).P w G2':=Sep.one.1 hAt;obtain⟨k2,hz,hH⟩:=hAt;subst e;simp only[VT,UQ,Nat.zero_mul,UO,hl] at k2 hz hH;have hF1:∀b o,¬F1' b o:=by have:l.take 0=[]:=rfl;rw[this] at o1';exact o1'.2
 rw[hn] at hr' k3' d3' hG1';have hp:(prs (ec++c2')).length=l.length:=by rw[aII (n:=1) aa,D6,S7 (n:=1) aa,S7 hc2];omega
 have hraw:cN w (ec++c2') (prs (ec++c2')) F0:=by
  match ec,hl,ho with
  |[u,v],_,ho=>exact⟨[u,v],c2',F0,F0,rfl,aZ5 (ho u ae) (ho v ae),aZ6 hn o3',λ_ _ h=>h.elim,λ_ _=>by simp[F0]⟩
 refine⟨eP b off (c*2),F3',mW.2 ⟨_,c,by rw[hp],aa,h2',.inr ⟨b,off,ec++c2',F0,rfl,λo p=>?_,?_,hraw,λ_ _ h=>h.elim,λ_ _=>?_⟩⟩,o3',λb o p q=>d3' b o q p,λb' o=>?_⟩
 ·by_cases q:eP b off 2 b o
  ·refine⟨?_,hz o q⟩;obtain⟨_,q1,q2⟩:=q;have:=k2 (o-off) _ (iT aa);simp_all
  ·exact hr' o p aa
 ·grind[SS]
 ·exact⟨.inl,λq=>q.elim id λq=>q.elim⟩
 grind[eP]
theorem aOY{B:Bl}:∀{cs:List SV} {vs:List Value},aT (bN B) cs=some vs->∀v∈vs,v.oneCell'=true
 |[],vs,h,v,hv=>by cases h;simp at hv
 |x::r,vs,h,v,hv=>by
  simp only[aT] at h;split at h
  ·cases h
  ·rename_i y hy;split at h
   ·cases h
   ·rename_i ys hys;cases h;rcases j6.1 hv with rfl|hv
    ·exact aJJ hy
    ·exact aOY hys v hv
section
variable {P:Program} {T:TT} {hT:D1 P T} {n:Nat} {c:Ctx} {B0:Bl} {N:Act->World->Prop} {X:Nat->Act->World->Prop} {Q:Act->World->Prop} {K K':List Fr} {m m':Nat} {e e':SE} {L L':List Ch} {cf cf' cf1 cf2:sY} {o:Oper} {Lv:List Ch} {d:Nat}
theorem hzR{O:Type}[aL O](hn:aL.n O=2){s:AC}{l:List O}{nb n0:Nat}{cs:List SV}(h h2 hv:Nat)(hs:PJ (jE T n K cf m e L)=some (K',cf',m',e',L'))(hh:L'[h]?=some (.o (sN (s.v l.length) l 0)))(hb:L'[h2]?=some (.box nb cs))(hw:L'[hv]?=some (wOf O nb s n0 0))(hl:cs.length=2)(ha:dJ [h,h2]=true)(hz:([h,h2].all λj=>fT j cf'.wX)=true)
  (k:∀(us:List R2) (c2:List Value),us.length=l.length->us.drop 1=prs c2->l.length=(l.drop 1).length+1->G (.mk P T hT n c B0 N X Q) K' m' e' (HI L' [h,h2]++[ow s us,.o (cIn c2 (l.drop 1))]) cf'):G (.mk P T hT n c B0 N X Q) K m e L cf:=by
 refine go hs (chg (ι:={p:List R2×List Value // p.1.length=l.length/\p.1.drop 1=prs p.2/\l.length=(l.drop 1).length+1}) (λ_=>m') (λ_=>e') (λp=>HI L' [h,h2]++[ow s p.1.1,.o (cIn p.1.2 (l.drop 1))]) (λB a w hm hA hS=>?_) (λ_=>S3 _ hz) (λp=>k p.1.1 p.1.2 p.2.1 p.2.2.1 p.2.2.2));obtain⟨⟨R,s1,s2⟩,s0⟩:=hS;have f1:=s1.front [h,h2] ha;rw[OG (M:=[.o (sN (s.v l.length) l 0),.box nb cs]) (by grind[aT])] at f1;obtain⟨F,S,hsep,_⟩:=f1.sep;obtain⟨Fa,Fb,hab,_⟩:=Sep.append.1 hsep;have hB:=s2 _ (D7 hw);simp only[roF] at hB;obtain⟨G1,G2,g1,g2,g3,g4⟩:=hab;have g2:(SW B nb cs).P w G2:=Sep.one.1 g2;obtain⟨b,z,vs,q1,q2,q3⟩:=g2;rw[hB] at q1;cases q1;have hlv:vs.length=2:=by grind[lO]
 have e1:VT (s.v n0)=VT (s.v l.length):=bF0 s _ _;have e2:UQ (aL.n O) 0 (s.v n0)=UQ (aL.n O) 0 (s.v l.length):=bF1 s _ _ _ _;rw[e1,e2] at q3;obtain⟨c2,z1,z2,z3⟩:=a7G hn hlv (aOY q2) (F:=Fa) ⟨G1,G2,g1,Sep.one.2 q3,g3,g4⟩;have hpl:(prs (vs++c2)).length=l.length:=by rw[aII (n:=1) aa,D6,S7 (n:=1) aa,S7 z1];omega
 have hpd:(prs (vs++c2)).drop 1=prs c2:=by rw[aII (n:=1) aa];exact List.drop_left' (S7 (n:=1) aa)
 refine⟨⟨(prs (vs++c2),c2),hpl,hpd,z2⟩,[],ak,ak,⟨⟨R,?_,λx hx=>?_⟩,s0⟩⟩
 ·rw[rC,o7,H7];have:=s1.shift [h,h2] ha (A':=[eM [s.v (prs (vs++c2)).length] (prs (vs++c2)),cIn c2 (l.drop 1)]) (λF hF=>by
   rw[OG (M:=[.o (sN (s.v l.length) l 0),.box nb cs]) (by grind[aT])] at hF;obtain⟨G1,G2,g1,g2,g3,g4⟩:=hF;have g2:(SW B nb cs).P w G2:=Sep.one.1 g2;obtain⟨b',z',vs',q1',q2',q3'⟩:=g2;rw[hB] at q1';cases q1';rw[q2] at q2';cases q2';rw[e1,e2] at q3';obtain⟨G,Fe,a1,a2,a3,a4⟩:=z3 F ⟨G1,G2,g1,Sep.one.2 q3',g3,g4⟩;rw[hpl];exact⟨G,Fe,a1,Sep.one.2 a2,a3,a4⟩)
  exact this
 ·rw[rC];rcases dD.1 hx with hx|hx
  ·rcases OF _ _ hx with hx|hx
   ·grind
   ·subst hx;trivial
  ·simp only[j6,aYX,or_false] at hx;rcases hx with rfl|rfl<;>trivial
theorem joR{O:Type}[aL O](hn:aL.n O=2){s:AC}{l:List O}{cs:List Value}(i j:Nat)(hi:L[i]?=some (ow s us))(hj:L[j]?=some (.o (cIn cs l)))(hu:us=prs cs)(ha:dJ [i,j]=true)(hz:([i,j].all λj=>fT j cf.wX)=true)(hl:us.length=l.length)
  (k:G (.mk P T hT n c B0 N X Q) K m e (HI L [i,j]++[ow s l]) cf):G (.mk P T hT n c B0 N X Q) K m e L cf:=by
 refine chg (λ_:Unit=>m) (λ_=>e) (λ_=>HI L [i,j]++[ow s l]) (λB a w hm hA hS=>?_) (λ_=>S3 _ hz) (λ_=>k);obtain⟨⟨R,s1,s2⟩,s0⟩:=hS;refine⟨(),[],ak,ak,⟨⟨R,?_,λx hx=>?_⟩,s0⟩⟩
 ·rw[rC,o7,H7];exact s1.shift [i,j] ha (A':=[eM [s.v l.length] l]) (λF hF=>by
   rw[OG (M:=[ow s us,.o (cIn cs l)]) (by grind[aT])] at hF;obtain⟨G1,G2,g1,g2,g3,g4⟩:=hF;have g2:cN w cs l G2:=Sep.one.1 g2;have g1:aL.own w [s.v us.length] us G1:=g1;rw[hl] at g1;have:=a7E hn g1 g2 hu g3;exact Sep.one.2 (by
    have e:F=λb o=>G1 b o\/G2 b o:=ak
    rw[e];exact this))
 ·rw[rC];rcases dD.1 hx with hx|hx
  ·rcases OF _ _ hx with hx|hx
   ·grind
   ·subst hx;trivial
  ·simp only[j6,aYX,or_false] at hx;subst hx;trivial
theorem dlW{O:Type}[aL O](hn:aL.n O=2){f:FuncId}{kf:List O->Option β}{q:β}{s:AC}{l:List O}{c2:List Value}(i j:Nat)
  (hs:cpS (jE T n K cf m e L)=some (o,some d,f,[.h s l.length,.i .i64 0,.i .i64 1],cf1,cf2,K',m',e',L')) (hi:L'[i]?=some (ow s us)) (hj:(HI L' [i]++[ow s us])[j]?=some (.o (cIn c2 (l.drop 1)))) (hz:fT i cf1.wX=true) (ha:dJ [L'.length,j]=true) (hz2:([L'.length,j].all λj=>fT j cf2.wX)=true)
  (hu:us.length=l.length) (hd:us.drop 1=prs c2) (hl:l.length=(l.drop 1).length+1)
  (H:∀{U:Ctx} {us:List R2},VS P U f (a7F us 0 1) [.h s us.length,.i .i64 0,.i .i64 1] [] [ow s us] (λ(r:List R2) (y:AC)=>.h y r.length) (λr y=>[ow y r]))
  (k:∀y:AC,W (G (.mk P T hT n c B0 N X Q) K' m' ((d,.h y (l.drop 1).length)::e') (HI (HI L' [i]++[ow y (us.drop 1)]) [L'.length,j]++[ow y (l.drop 1)]) cf2) q (kf (l.drop 1))):W (G (.mk P T hT n c B0 N X Q) K m e L cf) q ((bK0 l 0 1).bind kf):=λhF=>by
 have hlen:(HI L' [i]).length=L'.length:=by simp[HI]
 have hdl:∀{x},bK0 l 0 1=some x->x=l.drop 1:=λh=>by obtain⟨_,h⟩:=lY h;grind
 refine cw0 (sv:=λ(r:List O) (y:AC)=>.h y r.length) (Lr:=λ_ y=>[ow y (us.drop 1)]) (M:=[ow s us]) (xs0:=[.h s l.length,.i .i64 0,.i .i64 1]) [i] hs (by simp[aT,hi]) rfl (by grind[I8,dJ]) (λ_ _=>rfl) (λ{U} _ {x} hx=>?_) hF (λx h1 h2 y=>?_)
 ·have hr:a7F us 0 1=some (us.drop 1):=by grind[bCX]
  have h:=H (U:=U) (us:=us) _ hr;rw[hu] at h;refine⟨h.call,λvs hvs hst=>Calls.mono (h.run vs hvs hst) λen w' hE=>?_⟩;grind
 ·obtain rfl:=hdl h1;refine joR hn L'.length j ak ?_ hd ha hz2 (by simp[hu]) (k y h2);have hjl:j<L'.length:=by
   have h3:j<(HI L' [i]++[ow s us]).length:=(AT.1 hj).1;have h4:j≠L'.length:=by intro e;subst e;simp[dJ,fT] at ha
   grind
  grind
end
open Go.Lib Go.Proofs
theorem wY(w:World)(dT sT ty elem:TypeId)(k b o dLen dCap:Nat)(a:Addr)(sLen sCap m:Nat)(cs:List Value)
  (hu:P.underlying dT=some (.slice elem)) (hs:(P.info? elem).map (·.size)=some k) (hm:Nat.min sLen dLen=m) (hn:cs.length=m*k)
  (hsrc:∀j v,cs[j]?=some v->w.cell? (a.add j)=some v) (hc:∀j,j<cs.length->(w.cell? ⟨b,o+j,none⟩).isSome=true) (hf:∀j,j<cs.length->w.frozen? ⟨b,o+j,none⟩=false) (h1:∀v∈cs,v.oneCell'=true) :
  (Builtin.copy_ #[dT,sT] ty #[.slice (some ⟨b,o,none⟩) dLen dCap,.slice (some a) sLen sCap]).run P w=.ok (goInt m) (w.setCells b o cs):=by
 have hl:=run_loadCells_list (P:=P) w a cs hsrc;have hst:=run_storeCells_cells (P:=P) b o cs 0 w aa aa h1;subst hm;cases hq:P.info? elem with
 |none=>grind
 |some i=>
  simp_all[Builtin.copy_,run_underlying,Builtin.lenOf,Builtin.firstCells,sizeOf,typeInfo]
theorem AX(b o0 m:Nat):∀(vs:List Value) (o:Nat) (w:World),o0<=o->o+vs.length<=o0+m->eI (eP b o0 m) w (w.setCells b o vs)
 |[],_,w,_,_=>eI.refl _ _
 |v::r,o,w,h1,h2=>by simp only[G5] at h2;rw[World.setCells];exact(eI.setCell _ w ⟨b,o,none⟩ v ⟨rfl,h1,ak⟩ rfl).trans (AX b o0 m r (o+1) _ aa aa) λ_ _ _ h=>h
theorem aFU{w1:World}(b:Nat)(hb:w.heap.size<=b){o:Nat}(h:eI F0 w w1):eI F0 w (w1.setCells b o vs):=
 h.trans ((AX b o vs.length vs o w1 (iU _) (iU _)).mono (G:=eP b o vs.length) λ_ _ _ h=>h) (F:=F0) λb' o' hlt hr=>by obtain⟨rfl,_⟩:=hr;omega
theorem EB{b o:Nat}(h:∀j,j<vs.length->(w.cell? ⟨b,o+j,none⟩).isSome=true):aZ (w.setCells b o vs) b o vs:=λj v hj=>by grind[World.cell?_setCells_in]
theorem vJ{b o o':Nat}{cs:List Value}(h:aZ w b o' cs)(hd:o'+cs.length<=o\/o+vs.length<=o'):aZ (w.setCells b o vs) b o' cs:=λj v hj=>by have hl:=(AT.1 hj).1;rw[World.cell?_setCells_out b vs o w ⟨b,o'+j,none⟩ (λ_ _=>ak)];exact h j v hj
theorem RG{b o:Nat}{cs ds:List Value}(h:aZ w b o cs)(k:aZ w b (o+cs.length) ds):aZ w b o (cs++ds):=λj v hj=>by
 by_cases hl:j<cs.length
 ·rw[List.getElem?_append_left hl] at hj;exact h j v hj
 ·rw[aOH aa] at hj;have:=k _ v hj;grind
theorem aWX{b o n:Nat}{cs:List Value}(h:aZ w b o cs):aZ w b o (cs.take n):=λj v hj=>by
 rw[aBO] at hj;split at hj
 ·exact h j v hj
 ·cases hj
theorem aB7{b o n o':Nat}(h:Row w b o n)(ho:o<=o'/\o'+vs.length<=o+n):Row (w.setCells b o' vs) b o n:=λq hq=>by obtain⟨_,h2,h3⟩:=hq;refine⟨Go.Proofs.isSome_setCells b vs o' w (λj hj=>(h (o'+j) ⟨rfl,aa,aa⟩).1) q (h q ⟨rfl,h2,h3⟩).1,?_⟩;rw[World.frozen?_setCells];exact(h q ⟨rfl,h2,h3⟩).2
def bNN(w:World)(k n:Nat)(ad:Option Addr)(c:Nat)(ccs:List Value)(e:Ending)(w':World):Prop:=
 ∃b o c',e=.returned (.slice (some ⟨b,o,none⟩) (n+1) c')/\n+1<=c'/\c'<=maxLen/\aZ w' b o ccs/\Row w' b o (c'*k) /\
  ((ad=some ⟨b,o,none⟩/\c'=c/\eI (eP b o (c*k)) w w')\/(w.heap.size<=b/\eI F0 w w'))
def bNO(P:Program)(f k:Nat):Prop:=∀(b off n c i vb:Nat) (cs vs:List Value) (w:World),i<n->n+1<=c->c<=9223372036854775807->vb≠b->cs.length=n*k->vs.length=k ->
  aZ w b off cs->(∀j,j<c*k->(w.cell? ⟨b,off+j,none⟩).isSome=true)->(∀j,j<c*k->w.frozen? ⟨b,off+j,none⟩=false) ->
  aZ w vb 0 vs->(∀v∈cs,v.oneCell'=true)->(∀v∈vs,v.oneCell'=true) ->
  ∀(tA tB:TypeId) (kA kB:Nat),w.shape? vb=some (tA,kA)->w.shape? b=some (tB,kB)->kB≠0->w.frozen? ⟨vb,0,none⟩=false->w.frozen? ⟨vb,kA,none⟩=false ->
  Calls P f #[.slice (some ⟨b,off,none⟩) n c,.int .i64 i,.slice (some ⟨vb,0,none⟩) 1 1] w λe w'=>
   e=.returned (.slice (some ⟨b,off,none⟩) (n+1) c)/\w'=(w.drew.setCells b (off+(i+1)*k) (cs.drop (i*k))).setCells b (off+i*k) vs
def bNP(P:Program)(f k:Nat):Prop:=∀(b off n c vb:Nat) (vs:List Value) (w:World),n+1<=c->c<=9223372036854775807->vs.length=k ->
  (∀j,j<c*k->(w.cell? ⟨b,off+j,none⟩).isSome=true)->(∀j,j<c*k->w.frozen? ⟨b,off+j,none⟩=false)->aZ w vb 0 vs->(∀v∈vs,v.oneCell'=true) ->
  Calls P f #[.slice (some ⟨b,off,none⟩) n c,.int .i64 n,.slice (some ⟨vb,0,none⟩) 1 1] w λe w'=>
   e=.returned (.slice (some ⟨b,off,none⟩) (n+1) c)/\w'=w.setCells b (off+n*k) vs
def bNQ(P:Program)(f k el:Nat)(z:Value):Prop:=∀(base:Option Addr) (n c vb:Nat) (cs vs:List Value) (w:World),n<=c->c<n+1->n+1<=1073741824->cs.length=n*k->vs.length=k->(base=none->n=0) ->
  (∀a,base=some a->∀j v,cs[j]?=some v->w.cell? (a.add j)=some v)->aZ w vb 0 vs->(∀v∈vs,v.oneCell'=true) ->
  Calls P f #[.slice base n c,.int .i64 n,.slice (some ⟨vb,0,none⟩) 1 1] w λe w'=>
   e=.returned (.slice (some ⟨w.heap.size,0,none⟩) (n+1) (grownCap w (n+1) c el)) /\
   w'=w.drew.alloc (.cells ((cs++vs).toArray++Builtin.zeroCells z.cells (grownCap w (n+1) c el-(n+1))) el)
def bNR(P:Program)(f k el:Nat)(z:Value):Prop:=∀(b off n c i vb:Nat) (cs vs:List Value) (w:World),i<n->n<=c->c<n+1->n+1<=1073741824->cs.length=n*k->vs.length=k ->
  aZ w b off cs->aZ w vb 0 vs->(∀v∈cs,v.oneCell'=true)->(∀v∈vs,v.oneCell'=true) ->
  Calls P f #[.slice (some ⟨b,off,none⟩) n c,.int .i64 i,.slice (some ⟨vb,0,none⟩) 1 1] w λe w'=>
   e=.returned (.slice (some ⟨w.heap.size,0,none⟩) (n+1) (grownCap w (n+1) c el)) /\
   w'=(((w.alloc (.cells ((cs.take (i*k)).toArray++Builtin.zeroCells z.cells (n+1-i)++Builtin.zeroCells z.cells (grownCap w (n+1) c el-(n+1))) el)).drew.setCells w.heap.size (i*k) vs).drew).setCells w.heap.size ((i+1)*k) (cs.drop (i*k))
def bK1(P:Program)(f k:Nat):Prop:=∀(ad:Option Addr) (n c i vb:Nat) (cs vs:List Value) (w:World),i<=n->n<=c->c<=maxLen->n+1<=1073741824->cs.length=n*k->vs.length=k ->
  aZ w vb 0 vs->(∀v∈cs,v.oneCell'=true)->(∀v∈vs,v.oneCell'=true)->(∀o,w.frozen? ⟨vb,o,none⟩=false) ->
  ((ad=none/\c=0)\/∃b off,ad=some ⟨b,off,none⟩/\Row w b off (c*k)/\aZ w b off cs/\(0<c->vb≠b)) ->
  Calls P f #[.slice ad n c,.int .i64 i,.slice (some ⟨vb,0,none⟩) 1 1] w (bNN w k n ad c (cs.take (i*k)++vs++cs.drop (i*k)))
theorem aTS{b o:Nat}(h:(w.cell? ⟨b,o,none⟩).isSome=true):∃t k,w.shape? b=some (t,k)/\k≠0:=by grind[World.cell?,World.shape?]
theorem aZ7{f k el:Nat}{z:Value}(hk:0<k)(hz:z.cells.size=k)(hS:bNO P f k)(hR:bNP P f k)(hE:bNQ P f k el z)(hG:bNR P f k el z):bK1 P f k:=by
 intro ad n c i vb cs vs w hi hnc hcm hb hcl hvl hvs h1c h1v hfz hrow;have hgc:n+1<=grownCap w (n+1) c el:=grownCap_ge _ _ _ _;have hgm:grownCap w (n+1) c el<=maxLen:=grownCap_le_maxLen w (n+1) c el (by grind[maxLen]);have hnk:(n+1)*k=n*k+k:=ak
 by_cases hin:i=n
 ·subst hin;have e1:cs.take (i*k)=cs:=ak
  have e2:cs.drop (i*k)=[]:=ak
  rw[e1,e2,rC];by_cases hroom:i+1<=c
  ·rcases hrow with ⟨_,h0⟩|⟨b,off,rfl,hr,hc,_⟩
   ·omega
   have hck:(i+1)*k<=c*k:=uJ _ hroom;refine(hR b off i c vb vs w hroom hcm hvl (λj hj=>(hr _ ⟨rfl,aa,aa⟩).1) (λj hj=>(hr _ ⟨rfl,aa,aa⟩).2) hvs h1v).mono ?_;rintro e w' ⟨rfl,rfl⟩;refine⟨b,off,c,rfl,hroom,hcm,RG (vJ hc (.inl aa)) (by rw[hcl];exact EB λj hj=>(hr _ ⟨rfl,aa,aa⟩).1),aB7 hr ⟨aa,aa⟩,.inl ⟨rfl,rfl,AX b off _ vs _ w aa aa⟩⟩
  ·refine(hE ad i c vb cs vs w hnc aa hb hcl hvl (λh=>?_) (λa ha=>?_) hvs h1v).mono ?_
   ·grind
   ·rcases hrow with ⟨h0,_⟩|⟨b,off,h1,hr,hc,_⟩
    ·grind
    ·rw[ha] at h1;cases h1;intro j v hj;rw[Addr.add_lit];exact hc j v hj
   rintro e w' ⟨rfl,rfl⟩;have hsz:((cs++vs).toArray++Builtin.zeroCells z.cells (grownCap w (i+1) c el-(i+1))).size=grownCap w (i+1) c el*k:=by rw[Array.size_append,size_zeroCells,hz,aJA,D6,hcl,hvl,Nat.sub_mul,hnk];have:(i+1)*k<=grownCap w (i+1) c el*k:=uJ _ hgc;omega
   refine⟨w.heap.size,0,_,rfl,hgc,hgm,λj v hj=>?_,λo ho=>⟨?_,World.frozen?_alloc_at (w:=w.drew) _ _ w.heap.size o rfl⟩,.inr ⟨iU _,(eI.drew F0 w).trans (eI.alloc _ _ _) λ_ _ _ h=>h⟩⟩
   ·rw[aBT,World.cell?_alloc_at (w:=w.drew) _ _ w.heap.size j rfl];grind
   ·obtain⟨_,_,h3⟩:=ho;rw[World.cell?_alloc_at (w:=w.drew) _ _ w.heap.size o rfl,Array.getElem?_eq_getElem aa];rfl
 ·have hlt:i<n:=aa
  have hik:(i+1)*k=i*k+k:=ak
  have hink:(i+1)*k<=n*k:=uJ _ hlt;have htl:(cs.take (i*k)).length=i*k:=ak
  have hdl:(cs.drop (i*k)).length=n*k-i*k:=ak
  rcases hrow with ⟨_,h0⟩|⟨b,off,rfl,hr,hc,hne⟩
  ·omega
  have hsv:=aTS (w:=w) (b:=vb) (o:=0) (by rw[show(0:Nat)=0+0 from rfl,hvs 0 _ (iT aa)];rfl);obtain⟨tA,kA,hsa,_⟩:=hsv;by_cases hroom:n+1<=c
  ·have hck:(n+1)*k<=c*k:=uJ _ hroom;obtain⟨tB,kB,hsb,hkB⟩:=aTS (w:=w) (b:=b) (o:=off) (hr off ⟨rfl,aa,aa⟩).1;refine(hS b off n c i vb cs vs w hlt hroom hcm (hne aa) hcl hvl hc (λj hj=>(hr _ ⟨rfl,aa,aa⟩).1) (λj hj=>(hr _ ⟨rfl,aa,aa⟩).2) hvs h1c h1v tA tB kA kB hsa hsb hkB (hfz _) (hfz _)).mono ?_;rintro e w' ⟨rfl,rfl⟩;have hc':aZ w.drew b off cs:=hc;have hr':Row w.drew b off (c*k):=hr;have hr1:=aB7 (o':=off+(i+1)*k) (vs:=cs.drop (i*k)) hr' ⟨aa,aa⟩;refine⟨b,off,c,rfl,hroom,hcm,?_,aB7 hr1 ⟨aa,aa⟩,.inl ⟨rfl,rfl,((eI.drew _ w).trans (AX b off _ _ _ _ aa aa) λ_ _ _ h=>h).trans (AX b off _ vs _ _ aa aa) λ_ _ _ h=>h⟩⟩;refine RG (RG ?_ ?_) ?_
   ·grind[vJ,aWX]
   ·rw[htl];exact EB λj hj=>(hr1 _ ⟨rfl,aa,aa⟩).1
   ·rw[D6,htl,hvl,<-hik];exact vJ (EB λj hj=>(hr' _ ⟨rfl,aa,aa⟩).1) (.inr aa)
  ·refine(hG b off n c i vb cs vs w hlt hnc aa hb hcl hvl hc hvs h1c h1v).mono ?_;rintro e w' ⟨rfl,rfl⟩;obtain⟨ROW,hROW⟩:∃ROW:Array Value,ROW=(cs.take (i*k)).toArray++Builtin.zeroCells z.cells (n+1-i)++Builtin.zeroCells z.cells (grownCap w (n+1) c el-(n+1)):=⟨_,rfl⟩;rw[<-hROW];have hsz:ROW.size=grownCap w (n+1) c el*k:=by rw[hROW,Array.size_append,Array.size_append,size_zeroCells,size_zeroCells,hz,aJA,htl,<-oB,<-oB];grind
   have hgk:(n+1)*k<=grownCap w (n+1) c el*k:=uJ _ hgc;have hcN:∀j,(w.alloc (.cells ROW el)).cell? ⟨w.heap.size,j,none⟩=ROW[j]?:=λj=>World.cell?_alloc_at (w:=w) ROW _ w.heap.size j rfl;have hr0:Row (w.alloc (.cells ROW el)).drew w.heap.size 0 (grownCap w (n+1) c el*k):=λo ho=>by obtain⟨_,_,h3⟩:=ho;simp_all
   have hc0:aZ (w.alloc (.cells ROW el)).drew w.heap.size 0 (cs.take (i*k)):=λj v hj=>by show(w.alloc (.cells ROW el)).cell? _=_;grind
   have hr1:=aB7 (o':=i*k) (vs:=vs) hr0 ⟨aa,aa⟩;have hr1':Row ((w.alloc (.cells ROW el)).drew.setCells w.heap.size (i*k) vs).drew w.heap.size 0 (grownCap w (n+1) c el*k):=hr1;refine⟨w.heap.size,0,_,rfl,hgc,hgm,?_,aB7 hr1' ⟨aa,aa⟩,.inr ⟨iU _,aFU _ (iU _) ((aFU _ (iU _) ((eI.alloc _ _ _).trans (eI.drew _ _) λ_ _ _ h=>h)).trans (eI.drew _ _) λ_ _ _ h=>h)⟩⟩;refine RG (RG ?_ ?_) ?_
   ·exact vJ (show aZ _ _ _ _ from vJ hc0 (.inl aa)) (.inl aa)
   ·rw[htl,aBT];refine vJ (show aZ _ _ _ _ from EB λj hj=>?_) (.inl aa)
    (simp_all;omega)
   ·rw[D6,htl,hvl,<-hik,aBT];exact EB λj hj=>(hr1' _ ⟨rfl,aa,aa⟩).1
def bH0{O:Type}[aL O](s:AC)(x:O):Chunk where
 P w F:=∃b cs,s=⟨some ⟨b,0,none⟩,1⟩/\b<w.heap.size/\(∀o,w.frozen? ⟨b,o,none⟩=false)/\aZ w b 0 cs/\(∀w,aL.own w cs x F0)/\∀b' o,F b' o↔b'=b
 keep:=λ⟨b,cs,h1,h2,h3,h4,h5,h6⟩ hk hd=>⟨b,cs,h1,D9 h2 hk.size,λo=>(hk.wX b o h2).trans (h3 o),λj v hj=>(hk.cell b _ h2 λhg=>hd b _ ((h6 b _).2 rfl) hg).trans (h4 j v hj),h5,h6⟩
 lt:=λ⟨b,cs,h1,h2,h3,h4,h5,h6⟩ hF=>ak
def cLs{O:Type}[aL O](s:AC)(v:List O):Chunk where
 P w F:=∃x,v=[x]/\(bH0 s x).P w F
 keep:=λ⟨x,h1,h2⟩ hk hd=>⟨x,h1,(bH0 s x).keep h2 hk hd⟩
 lt:=λ⟨x,_,h2⟩ hF=>(bH0 s x).lt h2 hF
def bK2{O:Type}(l:List O)(i:Int)(v:List O):Option (List O):=need (0<=i/\i<=(l.length:Int)/\l.length+v.length<=1073741824) (some (l.take i.toNat++v++l.drop i.toNat))
theorem a7H{O:Type}[aL O]{cs:List Value}{x:O}(h:aL.own w cs x F0):cN w cs [x] F0:=⟨cs,[],F0,F0,(rC _).symm,h,⟨rfl,λ_ _ h=>h⟩,λ_ _ h=>h.elim,λ_ _=>by simp[F0]⟩
theorem aB8{O:Type}[aL O][Flat O]{w w':World}:∀{l:List O} {cs:List Value} {F:cB},cN w cs l F->cN w' cs l F0
 |[],cs,F,h=>⟨h.1,λ_ _ h=>h⟩
 |x::r,cs,F,⟨c1,c2,F1,F2,e,h1,h2,hd,hF⟩=>⟨c1,c2,F0,F0,e,a5A h1,aB8 h2,λ_ _ h=>h.elim,λ_ _=>by simp[F0]⟩
theorem aZ8{O:Type}[aL O]{w:World}:∀{l:List O} {cs:List Value} {F:cB},cN w cs l F->∀v∈cs,v.oneCell'=true
 |[],cs,F,h,v,hv=>by rw[h.1] at hv;cases hv
 |x::r,cs,F,⟨c1,c2,F1,F2,e,h1,h2,hd,hF⟩,v,hv=>by rw[e] at hv;exact(dD.1 hv).elim (aL.rd_one (aL.own_rd h1) v) (aZ8 h2 v)
theorem bK3{f:FuncId}{O:Type}[aL O][Flat O]{k:Nat}(hn:aL.n O=k)(hk:0<k)(hC:bK1 P f k)(hcall:∀args w,(callFunc f args).run P w=.ok (.enter f args) w){s v:List O}{i:Int}{s1 s2:AC} :
  VS P U f (bK2 s i v) [.h s1 s.length,.i .i64 i,.h s2 v.length] [] [ow s1 s,.o (cLs s2 v)] (λr (y:AC)=>.h y r.length) (λr y=>[ow y r]):=λr hr=>by
 unfold bK2 at hr;obtain⟨⟨hi0,hi1,hb⟩,hr⟩:=lY hr;obtain⟨j,rfl⟩:∃j:Nat,i=j:=⟨i.toNat,aa⟩;rw[MM] at hr;cases hr;refine⟨hcall,λvs hv hS=>?_⟩;simp[aT,fI,gV,bN] at hv;subst hv;obtain⟨⟨R,h1,h2⟩,h0⟩:=hS;have h1:St U U.w0 [eM [s1.v s.length] s,cLs s2 v] R:=by grind[lE]
 obtain⟨F,S,⟨F1,F2,hs1,⟨F3,F4,hs2,_,_,hF34⟩,hdj,_⟩,_⟩:=h1.sep;obtain⟨x,rfl,vb,cv,rfl,hvb,hvf,hvc,hvo,hvF⟩:=hs2;have hs1:aL.own U.w0 [s1.v s.length] s F1:=hs1;obtain⟨a,c,he,hl1,hl2,hrest⟩:=mW.1 hs1;obtain⟨sa,sc⟩:=s1;simp only[AC.v,Value.slice.injEq,true_and] at he;obtain⟨rfl,rfl⟩:=he;have hvl:cv.length=k:=by rw[<-hn];exact aL.lN (aL.own_rd (hvo U.w0))
 have hv1:∀v∈cv,v.oneCell'=true:=aL.rd_one (aL.own_rd (hvo U.w0));obtain⟨cs,hcl,hc1,hrow,hall⟩:∃cs,cs.length=s.length*k/\(∀v∈cs,v.oneCell'=true)/\((sa=none/\sc=0)\/∃b off,sa=some ⟨b,off,none⟩/\Row U.w0 b off (sc*k)/\aZ U.w0 b off cs/\(0<sc->vb≠b))/\∀w,cN w cs s F0:=by
  rcases hrest with ⟨rfl,rfl,_⟩|⟨b,off,cc,Fe,rfl,hr,hc,ho,_,hF⟩
  ·have hsn:s=[]:=uI aa;subst hsn;exact⟨[],ae,ae,.inl ⟨rfl,rfl⟩,λ_=>⟨rfl,λ_ _ h=>h⟩⟩
  ·rw[hn] at hr hF;refine⟨cc,by rw[<-hn];exact ho.length,aZ8 ho,.inr ⟨b,off,rfl,hr,hc,λh0 e=>?_⟩,λ_=>aB8 ho⟩;subst e;have hk:0<sc*k:=Nat.mul_pos h0 hk;exact hdj vb off ((hF vb off).2 (.inl ⟨rfl,iU _,aa⟩)) ((hF34 vb off).2 (.inl ((hvF vb off).2 rfl)))
 refine(hC sa s.length sc j vb cs cv U.w0 aa hl1 hl2 hb hcl hvl hvc hc1 hv1 hvf hrow).mono ?_;rintro e w' ⟨b,o,c',rfl,hlc,hcm,hcc,hrw,hkk⟩;have hlen:(s.take j++[x]++s.drop j).length=s.length+1:=ak
 refine⟨_,rfl,⟨some ⟨b,o,none⟩,c'⟩,by grind[fI,gV,bN],⟨R,?_,by simp[roF]⟩,h0⟩;have hcs:∀w,cN w (cs.take (j*k)++cv++cs.drop (j*k)) (s.take j++[x]++s.drop j) F0:=λw=>by
  have h:=hall w;rw[<-ZU j s] at h;obtain⟨c1,c2,G1,G2,e,k1,k2,_,_⟩:=cN.split h;have hl:c1.length=j*k:=by rw[k1.length,hn,ZS];grind
  rw[e,List.take_left' hl,List.drop_left' hl,o6,o6];exact cN.app (aB8 k1) (show cN w (cv++c2) ([x]++s.drop j) F0 from cN.app (a7H (hvo w)) (aB8 k2) (λ_ _ h=>h.elim) λ_ _=>by simp[F0]) (λ_ _ h=>h.elim) λ_ _=>by simp[F0]
 have:=h1.a5E (w':=w') [0,1] rfl (A':=[eM [(⟨some ⟨b,o,none⟩,c'⟩:AC).v (s.take j++[x]++s.drop j).length] (s.take j++[x]++s.drop j)]) (λF hF=>by
  obtain⟨F1',F2',q1,q2,q3,q4⟩:=hF;have q1:aL.own U.w0 [_] s F1':=q1;have hown:aL.own w' [(⟨some ⟨b,o,none⟩,c'⟩:AC).v (s.take j++[x]++s.drop j).length] (s.take j++[x]++s.drop j) (eP b o (c'*k)):=
   mW.2 ⟨_,c',rfl,aa,hcm,.inr ⟨b,o,_,F0,rfl,ak,hcc,hcs w',λ_ _ h=>h.elim,λb' o'=>by grind[F0]⟩⟩
  rcases hkk with ⟨rfl,rfl,hK⟩|⟨hnew,hK⟩
  ·obtain⟨a',c'',he',_,_,hr'⟩:=mW.1 q1;simp only[AC.v,Value.slice.injEq,true_and] at he';obtain⟨rfl,rfl⟩:=he';rcases hr' with ⟨h,_⟩|⟨b2,o2,cc2,Fe2,h,_,_,_,_,hF2⟩
   ·cases h
   ·cases h;rw[hn] at hF2;exact⟨_,_,hK,λb' o' g=>(q4 b' o').2 (.inl ((hF2 b' o').2 (.inl g))),Sep.one.2 hown,λb' o' g=>.inl ((q4 b' o').2 (.inl ((hF2 b' o').2 (.inl g))))⟩
  ·exact⟨_,F0,hK,λ_ _ h=>h.elim,Sep.one.2 hown,λb' o' g=>.inr (by obtain⟨rfl,_⟩:=g;exact hnew)⟩)
 exact this.sel [2] rfl
section
variable {P:Program} {T:TT} {hT:D1 P T} {n:Nat} {c:Ctx} {B0:Bl} {N:Act->World->Prop} {X:Nat->Act->World->Prop} {Q:Act->World->Prop} {K K':List Fr} {m m':Nat} {e e':SE} {L L' Lv:List Ch} {cf cf' cf1 cf2:sY} {o:Oper} {d:Nat}
variable {x:Operand} {t t2 el sz:Nat} {b1 b2 b3:Bool} {n1 n2 n3:Nat} {z1 z2 z3:List SV}
theorem ltL{O:Type}[aL O][Flat O](E:CO O)(y:E.ex)(q:O){zv:Value}(hinf:UR P el sz zv)(hs:jE T n K cf m e L=.op o Lv cf1 cf2 K' m' e' L')(ho:(o.op,o.dst)=(.buildSlice t 1 #[(0,x)],some d))(ht:wV T t=some ⟨.sl el,b1,n1,z1⟩)(hn:aL.n O=sz)(hm:Nat.ble 1 sz=true)(hsm:Nat.ble (1*sz) 16777216=true)(hev:aT (λp=>(iM e' p.2).map λv=>nbL (oE v)) [((0:Nat),x)]=some ([q].map λq=>E.cs q y))(hec:([q].all λq=>Nat.beq (E.cs q y).length sz && (aT (bN []) (E.cs q y)).isSome)=true)(hL:∀q,E.Lx q y=[])
  (k:∀s':AC,G (.mk P T hT n c B0 N X Q) K' m' ((d,.h s' [q].length)::e') (L'++[.o (cLs s' [q])]) cf2):G (.mk P T hT n c B0 N X Q) K m e L cf:=by
 refine aQP (l:=[q]) (λs'=>L'++[.o (cLs s' [q])]) hs (b8 Prod.snd ho) (λ_=>tC _) (λB a w hA hS=>?_) k;obtain⟨⟨R,s1,s2⟩,s0⟩:=hS;obtain⟨vs,cells,g1,g2,g3,g4,g5⟩:=lits E y (sz:=sz) hA hL hev hec;obtain⟨v,rfl⟩:∃v,vs=[v]:=by
  match vs,g2 with
  |[v],_=>simp
 obtain⟨ti,hi,hz,hsz,hby⟩:=hinf;obtain⟨h1,h2⟩:=g5.get hn;have hcl:cells.length=sz:=ak
 have hc:=aJH (len:=1) (m:=sz) (vs:=[v]) (ps:=[(0,x)]) (F:=λi=>(if 1*sz=0 then #[] else zv.cells)[i % (if 1*sz=0 then #[] else zv.cells).size]!) rfl rfl g3 g4;have hu:=EA ht hT;have hm0:¬1*sz=0:=by(simp_all;omega)
 have hsm':¬1*sz > 2 ^ 24:=by simp_all
 refine⟨⟨some ⟨w.heap.size,0,none⟩,1⟩,w.alloc (.cells cells.toArray el),λ_ a hA'=>?_,⟨R,?_,λz hz=>?_⟩,s0⟩
 ·have hps:a.eval x=v:=by have:=SR hA' g1;grind
  have ho':=b8 Prod.fst ho;simp only at ho';simp only[hm0,bS] at hc;have hm1:¬sz=0:=aa
  have hs1:¬sz > 16777216:=aa
  simp only[Nat.one_mul,hm1,bS] at hc;simp[execOp,ho',Instr.buildSlice,run_underlying hu,sizeOf,typeInfo,zeroValue,hi,hz,hsz,hps,hm1,hs1,AC.v];simp_all[newRow]
 ·have:=s1.more (eI.alloc F0 w (.cells cells.toArray el)) (ch:=cLs ⟨some ⟨w.heap.size,0,none⟩,1⟩ [q]) ⟨λb _=>b=w.heap.size,⟨q,rfl,w.heap.size,cells,rfl,ae,λo=>World.frozen?_alloc_at (w:=w) _ _ w.heap.size o rfl,λj v hj=>?_,λw'=>?_,λ_ _=>Iff.rfl⟩,λb o hb=>UP hb.symm⟩
  ·grind[lE]
  ·simp_all
  ·have:=h2 0 q rfl;rw[show J5 cells sz 0=cells by unfold J5;grind] at this;grind[Flat.own_of]
 ·rcases dD.1 hz with hz|hz
  ·grind
  ·simp at hz;subst hz;trivial
end
end Go.Gv
end
noncomputable section
namespace Go.Gv
variable{s:AC}{c:Ctx}{i z:Nat}{A W' w:World}
def aTT(k:Nat):List Nat->Bool
 |[]=>false
 |a::r=>match Nat.beq k a with
  |true=>true
  |false=>aTT k r
def aEG(is:List Nat):Nat->List Ch->List Ch
 |_,[]=>[]
 |k,x::r=>match aTT k is with
  |true=>.no::aEG is (k+1) r
  |false=>x::aEG is (k+1) r
theorem aTU:∀(L:List Ch) (k:Nat),aEG [] k L=L
 |[],_=>rfl
 |x::L,k=>by simp only[aEG,aTT,aTU L]
theorem aZ9{k:Nat}(r:List Nat)(h:k≠i):aTT k (i::r)=aTT k r:=by grind[o9,aTT]
theorem bCY(i:Nat)(r:List Nat):aTT i (i::r)=true:=by simp only[aTT,Nat.beq_refl]
theorem a0A(i:Nat)(r:List Nat):∀(L:List Ch) (k:Nat),i<k->aEG (i::r) k L=aEG r k L
 |[],_,_=>rfl
 |x::L,k,h=>by simp only[aEG,aZ9 r (show k≠i by omega),a0A i r L (k+1) aa]
theorem aTV(i:Nat)(r:List Nat):∀(L:List Ch) (k:Nat),k<=i->aEG (i::r) k L=aEG r k (L.set (i-k) .no)
 |[],_,_=>rfl
 |x::L,k,h=>by
  by_cases e:k=i
  ·subst e;rw[Nat.sub_self];grind[aEG,bCY,a0A]
  ·obtain⟨d,hd⟩:∃d,i-k=d+1:=⟨i-k-1,aa⟩;have h2:i-(k+1)=d:=aa
   rw[hd];simp only[List.set,aEG,aZ9 r e,aTV i r L (k+1) aa,h2]
theorem a7I:∀(is:List Nat) (L:List Ch),HI L is=aEG is 0 L
 |[],L=>(aTU L 0).symm
 |i::r,L=>by rw[aTV i r L 0 (jK _),Nat.sub_zero];exact a7I r _
section
variable {P:Program} {T:TT} {hT:D1 P T} {n:Nat} {c:Ctx} {B0:Bl} {N:Act->World->Prop} {X:Nat->Act->World->Prop} {Q:Act->World->Prop} {K K':List Fr} {m m':Nat} {e e':SE} {L L' Lv:List Ch} {cf cf' cf1 cf2:sY} {o:Oper}
variable {O β ex:Type} {fo:Option O} {kf:O->Option β} {q:β} {d:Option Nat} {f:FuncId} {xs xs0:List SV} {M:List Ch} {sv:O->ex->SV} {Lr:O->ex->List Ch}
theorem bK4{c1 c2 c3:List SV}{a1 a2 a3:O->ex->List SV}(i1 n1 o1 k1:Nat)(i2 n2 o2 k2:Nat)(i3 n3 o3 k3:Nat)(is:List Nat)
  (hs:cpS (jE T n K cf m e L)=some (o,d,f,xs,cf1,cf2,K',m',e',L')) (hb:aJS L' [(i1,n1,o1,k1),(i2,n2,o2,k2),(i3,n3,o3,k3)]=some [c1,c2,c3]) (hi:aT (λi=>L'[i]?) is=some M) (hx:aT (rnP [(i1,n1,o1,k1),(i2,n2,o2,k2),(i3,n3,o3,k3)] 0) xs=some xs0)
  (hk:(I8 M && ([c1,c2,c3].all (yS.okC 0) && (dJ (i1::i2::i3::is) && (i1::i2::i3::is).all λj=>fT j cf1.wX)))=true)
  (hc:∀{U:Ctx},HG c U L' (i1::i2::i3::is)->∀{b1 b2 b3:Nat×Nat},VS P U f fo xs0 [b1,b2,b3] (.box 0 c1::.box 1 c2::.box 2 c3::M) sv (λx y=>.box 0 (a1 x y)::.box 1 (a2 x y)::.box 2 (a3 x y)::Lr x y))
  (k:∀x,∀y:ex,W (G (.mk P T hT n c B0 N X Q) K' m' (dse d (sv x y) e') (NZ L' (aEG (i1::i2::i3::is) 0 L'++Lr x y) [(i1,n1,o1,k1),(i2,n2,o2,k2),(i3,n3,o3,k3)] [a1 x y,a2 x y,a3 x y]) cf2) q (kf x)) (hn:∀x y,(aB5 [(i1,n1,o1,k1),(i2,n2,o2,k2),(i3,n3,o3,k3)] [a1 x y,a2 x y,a3 x y] && ([a1 x y,a2 x y,a3 x y].all (yS.okC 0) && (I8 (Lr x y) && yS 0 (sv x y))))=true:=by exact λ_ _=>rfl):W (G (.mk P T hT n c B0 N X Q) K m e L cf) q (fo.bind kf):=
 bNJ i1 n1 o1 k1 i2 n2 o2 k2 i3 n3 o3 k3 is hs hb hi hx hk hc (λx y=>by grind[a7I]) hn
end
section
variable {P:Program} {T:TT} {hT:D1 P T} {n:Nat} {c:Ctx} {B0:Bl} {N:Act->World->Prop} {X:Nat->Act->World->Prop} {Q:Act->World->Prop} {K K':List Fr} {m m':Nat} {e e':SE} {L L' Lv:List Ch} {cf cf' cf1 cf2:sY} {o:Oper}
variable {O:Type} {fo:Option O} {d:Nat} {f:FuncId} {xs:List SV} {v:O}
theorem HJ{sv:O->SV}(hA:fo=some v)(hs:jE T n K cf m e L=.call o (some d) f xs cf1 cf2 K' m' e' L')
  (hc:∀{w},HS c w L'->V0 P (eC w) f fo xs sv) (k:G (.mk P T hT n c B0 N X Q) K' m' ((d,sv v)::e') L' cf2):G (.mk P T hT n c B0 N X Q) K m e L cf:=
 c0 (kf:=some) (q:=v) hs hc (λx hx=>ak) (rb hA)
theorem MR{ex:Type}{sv:O->ex->SV}{Lf:O->ex->List Ch}(hA:fo=some v)(hs:jE T n K cf m e L=.call o (some d) f xs cf1 cf2 K' m' e' L')
  (hc:∀{w},HS c w L'->VS P (eC w) f fo xs [] [] sv Lf) (k:∀y:ex,G (.mk P T hT n c B0 N X Q) K' m' ((d,sv v y)::e') (L'++Lf v y) cf2) (hn:∀x y,noF (Lf x y)=true:=by exact λ_ _=>rfl):G (.mk P T hT n c B0 N X Q) K m e L cf:=
 c1 (kf:=some) (q:=v) hs hc (λx y hx=>ak) hn (rb hA)
end
def oL{O:Type}[aL O]:CO (List O):=cL.o (λx y=>[ow y x]) (λh=>by cases h;exact HH) (λ_ _=>rfl) (λ_ _ _=>rfl)
structure AH where
 s:AC
 n:Nat
instance:aL AH:=aL.flat (λx=>x.s.v x.n) λ_=>rfl
instance:Flat AH:=⟨λh=>⟨h,λ_ _ h=>h⟩,λh=>h.2⟩
def cAH:DL AH:=⟨Unit,λx _=>[.h x.s x.n],λ_ _ _ _=>True,λh=>⟨(),by cases h;rfl,trivial⟩,λx _=>.h x.s x.n,λ_ _ _=>trivial⟩
def oAH:CO AH:=cAH.o (λ_ _=>[]) (λh=>by cases h;exact dZ rfl) (λ_ _=>rfl) (λ_ _ _=>rfl)
def cBr(U:Ctx){O:Type}[aL O](s:AC)(d:List O):Chunk where
 P w F:=(∀b o,F b o->b<w.heap.size)/\∀w',(∀b o,F b o->w'.cell? ⟨b,o,none⟩=w.cell? ⟨b,o,none⟩)->(∀b o,U.S0 b o->w'.cell? ⟨b,o,none⟩=U.w0.cell? ⟨b,o,none⟩)->aL.rd (λb o=>U.S0 b o\/F b o) w' [s.v d.length] d
 keep:=by rintro w w' F G ⟨h1,h2⟩ hk hd;exact⟨λb o hF=>D9 (h1 b o hF) hk.size,λw2 g2 g3=>h2 w2 (λb o hF=>(g2 b o hF).trans (hk.cell b o (h1 b o hF) λhg=>hd b o hF hg)) g3⟩
 lt h hF:=h.1 _ _ hF
def AHs(c:Ctx){O:Type}[aL O]:List AH->List (List O)->Prop
 |[],[]=>True
 |q::qs,d::ds=>(q.n=d.length/\bH c q.s d)/\AHs c qs ds
 |_,_=>False
theorem AHs.get{O:Type}[aL O]:∀{qs:List AH} {ds:List (List O)},AHs c qs ds->qs.length=ds.length/\∀(i:Nat) (h1:i<qs.length) (h2:i<ds.length),qs[i].n=ds[i].length/\bH c qs[i].s ds[i]
 |[],[],_=>⟨rfl,λi h=>by simp at h⟩
 |q::qs,d::ds,h=>by
  obtain⟨a,b⟩:=h.2.get;refine⟨by simp[a],λi h1 h2=>?_⟩;cases i with
  |zero=>exact h.1
  |succ i=>grind
theorem bK5{U:Ctx}{O:Type}[aL O]{qs:List AH}{ds:List (List O)}{F:cB}(h:(eM [s.v qs.length] qs).P w F)(ha:AHs U qs ds):(cBr U s ds).P w F:=by
 refine⟨λ_ _ hF=>(eM [s.v qs.length] qs).lt h hF,λw' h2 h3=>?_⟩;obtain⟨hl,hg⟩:=ha.get;obtain⟨ad,c,e,g1,g2,g3⟩:=(show mU F w' [s.v qs.length] qs from aL.rd_agree (aL.own_rd h) h2);refine⟨ad,c,ak,hl ▸ g1,g2,?_⟩;rcases g3 with g3|⟨b,off,rfl,g3⟩
 ·grind
 ·refine .inr ⟨b,off,rfl,λi hi=>?_⟩;obtain⟨ec,q1,q2,q3⟩:=g3 i aa;obtain⟨p1,p2⟩:=hg i aa hi;have q3:ec=[(qs[i]' aa).s.v (qs[i]' aa).n]:=q3;refine⟨ec,q1,λo ho=>.inr (q2 o ho),?_⟩;rw[q3,p1];exact aL.rd_mono (aL.rd_agree p2 h3) λ_ _ h=>.inl h
theorem HS.b{L:List Ch}{O:Type}[aL O]{d:List O}(h:HS c w L)(i:Nat)(hi:L[i]?=some (.o (cBr c s d))):bH (eC w) s d:=by obtain⟨B,hS⟩:=h.ex;obtain⟨⟨R,s1,_⟩,s0⟩:=id hS;obtain⟨F,hF⟩:=s1.chunk i (ch:=cBr c s d) (by rw[zU,hi];rfl);have:=hF.2 w (λ_ _ _=>rfl) (λb o hb=>s1.keep.cell b o (s0 b o hb) λhw=>s1.apart b o hw hb);exact aL.rd_mono this λb o h=>h.elim (aWL hS b o) (hF.1 b o)
section
variable {P:Program} {T:TT} {hT:D1 P T} {n:Nat} {c:Ctx} {B0:Bl} {N:Act->World->Prop} {X:Nat->Act->World->Prop} {Q:Act->World->Prop} {K K':List Fr} {m m':Nat} {e e':SE} {L L':List Ch} {cf cf' cf1 cf2:sY} {o:Oper}
theorem chI(j:Nat){x y:Chunk}(hs:PJ (jE T n K cf m e L)=some (K',cf',m',e',L'))(hj:L'[j]?=some (.o x))(hz:fT j cf'.wX=true)(h:∀w F,x.P w F->y.P w F)
  (k:G (.mk P T hT n c B0 N X Q) K' m' e' (L'.set j (.o y)) cf'):G (.mk P T hT n c B0 N X Q) K m e L cf:=by
 refine go hs (chg (λ_:Unit=>m') (λ_=>e') (λ_=>L'.set j (.o y)) (λB a w hm hA hS=>?_) (λ_=>I7 hz) (λ_=>k));obtain⟨⟨R,s1,s2⟩,s0⟩:=hS;refine⟨(),[],ak,ak,⟨⟨R,?_,λz hz=>?_⟩,s0⟩⟩
 ·rw[rC,G6];exact s1.imp (jS.put j (by rw[zU,hj];rfl) λF hF=>h w F hF)
 ·rw[rC];rcases o8 hz with hz|hz
  ·grind
  ·subst hz;trivial
theorem brL{O:Type}[aL O](j:Nat){qs:List AH}{ds:List (List O)}(ha:AHs c qs ds)(hs:PJ (jE T n K cf m e L)=some (K',cf',m',e',L'))(hj:L'[j]?=some (ow s qs))(hz:fT j cf'.wX=true)
  (k:G (.mk P T hT n c B0 N X Q) K' m' e' (L'.set j (.o (cBr c s ds))) cf'):G (.mk P T hT n c B0 N X Q) K m e L cf:=chI j hs hj hz (λ_ _ h=>bK5 h ha) k
end
section
variable {P:Program} {T:TT} {hT:D1 P T} {n:Nat} {c c':Ctx} {B0:Bl} {N N':Act->World->Prop} {X:Nat->Act->World->Prop} {Q Q':Act->World->Prop} {K K':List Fr} {m m':Nat} {e e':SE} {L L':List Ch} {cf:sY}
theorem aIJ(hN:∀a w,N' a w->N a w)(hQ:∀a w,Q' a w->Q a w):∀K:List Fr,(∀a w,NK (.mk P T hT n c' B0 N' X Q') K a w->NK (.mk P T hT n c B0 N X Q) K a w)/\∀i a w,XK (.mk P T hT n c' B0 N' X Q') K i a w->XK (.mk P T hT n c B0 N X Q) K i a w
 |[]=>⟨hN,λ_ _ _ h=>h⟩
 |.s y::K=>by obtain⟨h1,h2⟩:=aIJ hN hQ K;exact⟨λa w h=>CW.mono h h1 h2 hQ,h2⟩
 |.k j::K=>by obtain⟨h1,h2⟩:=aIJ hN hQ K;refine⟨h1,λi a w h=>?_⟩;simp only[XK,aOL] at h ⊢;grind
theorem lkC{O β ρ ex γ:Type}[aL O][aL β]{fn:Func}{rs:List ResultVar}{hr:fn.results=rs.toArray}{sv:ρ->ex->SV}{Lf:ρ->ex->List Ch}{r:ρ}{q:γ}{zz:Option γ}{x:Code}(j:Nat){us:List O}{d:List β}
  (hx:∀S w,(∀b o,c.S0 b o->S b o)->(∀b o,c.S0 b o->w.cell? ⟨b,o,none⟩=c.w0.cell? ⟨b,o,none⟩)->aL.rd S w [s.v us.length] us->aL.rd S w [s.v d.length] d)
  (hs:PJ (jE T n K cf m e L)=some (K',.c x,m',e',L')) (hj:L'[j]?=some (ow s us))
  (k:∀{c':Ctx},(∀{O:Type} [aL O] {s:AC} {d:List O},bH c s d->bH c' s d)->bH c' s d->W (G (.mk P T hT n c' B0 (QR P fn hr c' B0 sv Lf r) (λ_ _ _=>False) (QR P fn hr c' B0 sv Lf r)) K' m' e' (L'.set j .no) (.c x)) q zz)
  (hn:∀r y,noF (Lf r y)=true:=by exact λ_ _=>rfl):W (G (.mk P T hT n c B0 (QR P fn hr c B0 sv Lf r) (λ_ _ _=>False) (QR P fn hr c B0 sv Lf r)) K m e L cf) q zz:=λhF=>by
 refine go hs λa w ⟨B,hm,hA,hS⟩=>?_;obtain⟨⟨R,s1,s2⟩,s0⟩:=id hS;obtain⟨F,S,a1,a2,a3,a4,a5,a6⟩:=s1.sep;obtain⟨Fj,Fr,b1,b2,b3,b4⟩:=(Sep.take (c:=eM [s.v us.length] us) (i:=j) (by rw[zU,hj];rfl)).1 a1;have hdS:∀b o,F b o->¬c.S0 b o:=λb o hf h0=>(a3 b o hf).elim (λh=>s1.apart b o h h0) λh=>ak
 let c2:Ctx:=⟨w,Fr,λb o=>c.S0 b o\/Fj b o\/S b o⟩
 have hlt:∀b o,c2.S0 b o->b<w.heap.size:=λb o h=>h.elim (λh=>D9 (s0 b o h) s1.keep.size) λh=>h.elim (λh=>(eM [s.v us.length] us).lt b1 h) (a5 b o);have hag:∀b o,c.S0 b o->w.cell? ⟨b,o,none⟩=c.w0.cell? ⟨b,o,none⟩:=λb o h=>s1.keep.cell b o (s0 b o h) λhw=>s1.apart b o hw h;have ap:c2.W.DZ c2.S0:=λb o h1 h2=>h2.elim (λh=>hdS b o ((b4 b o).2 (.inr h1)) h) λh=>h.elim (λh=>b3 b o h h1) λh=>a2 b o ((b4 b o).2 (.inr h1)) h;have st2:lF c2 w (B0++B) (L'.set j .no):=by
  refine⟨⟨R,⟨eI.refl _ _,⟨Fr,S,?_,λb o h1 h2=>a2 b o ((b4 b o).2 (.inr h1)) h2,λb o h=>.inl h,λb o h=>.inl (.inr (.inr h)),a5,a6⟩,ap⟩,λz hz=>?_⟩,hlt⟩
  ·rw[G6];exact b2
  ·rcases o8 hz with hz|hz
   ·grind
   ·subst hz;trivial
 have rdc:∀{O:Type} [aL O] {s:AC} {d:List O},bH c s d->bH c2 s d:=λh=>aL.rd_mono (aL.rd_agree h hag) λ_ _ h=>.inl h;have rdj:bH c2 s d:=hx _ _ (λ_ _ h=>.inl h) hag (aL.rd_mono (aL.own_rd b1) λ_ _ h=>.inr (.inl h));have out:∀a w,QR P fn hr c2 B0 sv Lf r a w->QR P fn hr c B0 sv Lf r a w:=λa w2 ⟨hd,v,hv,y,h1,h2⟩=>by
  obtain⟨⟨R2,t1,_⟩,_⟩:=h2;obtain⟨F2,S2,e1,e2,e3,e4,e5,e6⟩:=t1.sep;refine⟨hd,v,hv,y,h1,⟨⟨[],⟨s1.keep.trans t1.keep λb o hb h=>?_,⟨F2,F0,e1,λ_ _ _ h=>h,λb o h=>?_,λ_ _ h=>h.elim,λ_ _ h=>h.elim,λf hf=>by cases hf⟩,s1.apart⟩,aD9 (hn r y)⟩,s0⟩⟩
  ·grind
  ·rcases e3 b o h with h|h
   ·grind
   ·exact .inr (lX s1.keep.size h)
 obtain⟨m1,m2⟩:=aIJ (P:=P) (T:=T) (hT:=hT) (n:=n) (c:=c) (c':=c2) (B0:=B0) (X:=λ_ _ _=>False) out out K';exact CW.mono (k rdc rdj hF a w ⟨B,hm,hA,st2⟩) m1 m2 out
end
theorem bH2{O:Type}[aL O](h1:aL.n O=1){us:List Raw}{d:List O}(hr:V9 c.S0 c.w0 us d):∀S w,(∀b o,c.S0 b o->S b o)->(∀b o,c.S0 b o->w.cell? ⟨b,o,none⟩=c.w0.cell? ⟨b,o,none⟩)->aL.rd S w [s.v us.length] us->aL.rd S w [s.v d.length] d:=λS w hS ha h=>by rw[<-hr.1];exact a5P h1 h ⟨hr.1,λi u x hu hx=>aL.rd_mono (aL.rd_agree (hr.2 i u x hu hx) ha) hS⟩
section
variable {P:Program} {T:TT} {hT:D1 P T} {n:Nat} {c:Ctx} {B0:Bl} {N:Act->World->Prop} {X:Nat->Act->World->Prop} {Q:Act->World->Prop} {K K':List Fr} {m m':Nat} {e e':SE} {L L' Lv:List Ch} {cf cf1 cf2:sY} {o:Oper} {d:Nat}
variable {x y z:Operand} {t t2 el sz:Nat} {zv:Value} {b1 b2:Bool} {n1 n2:Nat} {z1 z2:List SV} {kt:TK} {k2:IntKind}
theorem qcn(hs:opS (jE T n K cf m e L)=some (o,Lv,cf1,cf2,K',m',e',L'))(ho:(o.op,o.dst)=(.call {callee:=.builtin .cap,args:=#[x],argTypes:=#[t]},some d))(hx:iM e' x=some (.h ⟨none,0⟩ 0))(ht:wV T t=some ⟨.sl el,b1,n1,z1⟩)
  (kk:G (.mk P T hT n c B0 N X Q) K' m' ((d,.i .i64 0)::e') L' cf2):G (.mk P T hT n c B0 N X Q) K m e L cf:=
 pu hs (b8 Prod.snd ho) (λB a w hA _=>by
  obtain⟨v,h1,h2⟩:=eJ hA hx;cases h1;exact⟨.int .i64 0,rfl,a2D (EA ht hT) (b8 Prod.fst ho) h2⟩) kk
theorem qn0(hs:opS (jE T n K cf m e L)=some (o,Lv,cf1,cf2,K',m',e',L'))(ho:(o.op,o.dst)=(.slice t x none (some z) none,some d))(hx:iM e' x=some (.h ⟨none,0⟩ 0))(hz:(iM e' z).bind rE=some (k2,0))(ht:wV T t=some ⟨.sl el,b1,n1,z1⟩)(he:wV T el=some ⟨kt,b2,sz,z2⟩)
  (kk:G (.mk P T hT n c B0 N X Q) K' m' ((d,.h ⟨none,0⟩ 0)::e') L' cf2):G (.mk P T hT n c B0 N X Q) K m e L cf:=
 pu hs (b8 Prod.snd ho) (λB a w hA _=>by
  obtain⟨v,h1,h2⟩:=eJ hA hx;cases h1;exact⟨.slice none 0 0,rfl,aY6 (n:=sz) ⟨_,_,_,rfl⟩ (EA ht hT) (hT.size _ _ he) (b8 Prod.fst ho) h2 (wP hA hz)⟩) kk
theorem apZ{i:Int}(hb:1<=i/\i<=1073741824)(hinf:UR P el sz zv)(hs:jE T n K cf m e L=.op o Lv cf1 cf2 K' m' e' L')(ho:(o.op,o.dst)=(.call {callee:=.builtin .append,args:=#[x,y],argTypes:=#[t,t2]},some d))(ht:wV T t=some ⟨.sl el,b1,n1,z1⟩)(ht2:wV T t2=some ⟨.i k2,b2,n2,z2⟩)(hzs:zv.cells.size=sz)(hm:Nat.ble 1 sz=true)(hx:iM e' x=some (.h ⟨none,0⟩ 0))(hy:(iM e' y).bind rE=some (.i64,i))
  (k:∀s':AC,G (.mk P T hT n c B0 N X Q) K' m' ((d,.h s' (List.replicate i.toNat (0:Int)).length)::e') (L'++[.o (a5Q (s'.v (List.replicate i.toNat (0:Int)).length) sz)]) cf2):G (.mk P T hT n c B0 N X Q) K m e L cf:=by
 refine aQP (l:=List.replicate i.toNat (0:Int)) (λs'=>L'++[.o (a5Q (s'.v (List.replicate i.toNat (0:Int)).length) sz)]) hs (b8 Prod.snd ho) (λ_=>tC _) (λB a w hA hS=>?_) k;obtain⟨⟨R,s1,s2⟩,s0⟩:=hS;obtain⟨v,h1,h2⟩:=eJ hA hx;cases h1;obtain⟨u,g1,g2⟩:=hT.und _ _ ht2;subst g2;obtain⟨v,w',k1,k2,ad,cp,rfl⟩:=bB0 (e:=vE B e') (o:=o) s1 (EA ht hT) g1 hinf hzs hm hb (b8 Prod.fst ho) h2 (wP hA hy);refine⟨⟨ad,cp⟩,w',ak,⟨⟨R,by grind[lE],λz hz=>?_⟩,s0⟩⟩;rcases dD.1 hz with hz|hz
 ·grind
 ·simp at hz;subst hz;trivial
theorem rn0(O:Type)[aL O](j:Nat){kk:Nat}(hn:aL.n O=sz)(hs:jE T n K cf m e L=.op o Lv cf1 cf2 K' m' e' L')(ho:(o.op,o.dst)=(.slice t x none (some z) none,some d))(hx:iM e' x=some (.h s kk))(hz:(iM e' z).bind rE=some (k2,0))(ht:wV T t=some ⟨.sl el,b1,n1,z1⟩)(he:wV T el=some ⟨kt,b2,sz,z2⟩)(hj:L'[j]?=some (.o (a5Q (s.v kk) sz)))(hfz:fT j cf1.wX=true)
  (k:∀s':AC,G (.mk P T hT n c B0 N X Q) K' m' ((d,.h s' ([]:List O).length)::e') (L'.set j (ow s' ([]:List O))) cf2):G (.mk P T hT n c B0 N X Q) K m e L cf:=by
 refine aQP (l:=([]:List O)) (λs'=>L'.set j (ow s' ([]:List O))) hs (b8 Prod.snd ho) (λ_=>I7 hfz) (λB a w hA hS=>?_) k;obtain⟨⟨R,s1,s2⟩,s0⟩:=hS;obtain⟨v,h1,h2⟩:=eJ hA hx;cases h1;have k2:=s1.bHC (O:=O) j (by rw[zU,hj];rfl) hn;refine⟨s.sub sz 0,w,aY6 (n:=sz) ⟨_,_,_,rfl⟩ (EA ht hT) (hT.size _ _ he) (b8 Prod.fst ho) h2 (wP hA hz),⟨⟨R,?_,λz hz=>?_⟩,s0⟩⟩
 ·rw[G6];exact k2
 ·rcases o8 hz with hz|hz
  ·grind
  ·subst hz;trivial
end
theorem ah2{O:Type}[aL O]{q1 q2:AH}{d1 d2:List O}(h1:q1.n=d1.length/\bH c q1.s d1)(h2:q2.n=d2.length/\bH c q2.s d2):AHs c [q1,q2] [d1,d2]:=And.intro h1 (And.intro h2 trivial)
theorem rwX{C:Prop}{O:Type}[aL O](hn:aL.n O=1){d:List O}(h:bH c s d)(k:∀us:List Raw,bH c s us->V9 c.S0 c.w0 us d->C):C:=by obtain⟨us,h1,h2⟩:=bHB hn h;refine k us ?_ h2;unfold bH;rw[h2.1];exact h1
theorem bK6{n:Int}(hn:0<=n/\n<=1073741824)(hb:decide (0<bB (n-bB (0-0)))=true):1<=bB (n-bB (0-0))/\bB (n-bB (0-0))<=1073741824:=by grind[PH]
theorem aTW{O:Type}:∀l:List O,frc l=some l
 |[]=>rfl
 |x::l=>by simp only[frc,aTW l]
theorem aQV(x:SV):∀(cs:List SV) (i:Nat),nbL (cs.set i x)=(nbL cs).set i (nb1 x)
 |[],_=>rfl
 |y::cs,0=>rfl
 |y::cs,i+1=>by simp only[List.set_cons_succ,nbL,aQV x cs i]
def aB(l:List Bool):List SV:=[.b (l.getD 0 false),.b (l.getD 1 false),.b (l.getD 2 false),.b (l.getD 3 false),.b (l.getD 4 false),.b (l.getD 5 false),.b (l.getD 6 false),.b (l.getD 7 false),.b (l.getD 8 false),.b (l.getD 9 false),.b (l.getD 10 false),.b (l.getD 11 false),.b (l.getD 12 false),.b (l.getD 13 false),.b (l.getD 14 false),.b (l.getD 15 false),.b (l.getD 16 false),.b (l.getD 17 false),.b (l.getD 18 false),.b (l.getD 19 false),.b (l.getD 20 false),.b (l.getD 21 false),.b (l.getD 22 false),.b (l.getD 23 false)]
theorem aWY{l:List Bool}(h:i<24):(aB l)[i]?=some (.b (l.getD i false)):=by have:(aB l).length=24:=rfl;rcases i with _|_|_|_|_|_|_|_|_|_|_|_|_|_|_|_|_|_|_|_|_|_|_|_|i<;>first|rfl|omega
theorem bH3{l:List Bool}(h:i<24)(hl:i<l.length)(u:Bool):(aB l).set i (.b u)=aB (l.set i u):=by
 refine ZR λk=>?_;have e:(aB l).length=24:=rfl;by_cases hk:k<24
 ·rw[aWY hk,List.getElem?_set];by_cases q:i=k
  ·grind
  ·rw[aP q,aWY hk];grind
 simp_all[aB]
section
variable {P:Program} {T:TT} {hT:D1 P T} {n:Nat} {c:Ctx} {B0:Bl} {N:Act->World->Prop} {X:Nat->Act->World->Prop} {Q:Act->World->Prop} {K K':List Fr} {m m':Nat} {e e':SE} {L L':List Ch} {cf cf1 cf2:sY} {o:Oper} {Lv:List Ch} {d:Nat}
variable {x y:Operand} {t el:TypeId} {k:IntKind} {i:Int} {β:Type} {A:Option β} {kf:Bool->Option β} {q:β} {n1 b0:Nat} {l:List Bool}
theorem elP{B:Bl}{b i:Nat}(hw:B[b0]?=some (b,z)):fI B (.p b0 i)=fI B (.e ⟨some ⟨b,z,none⟩,0⟩ 1 i 0):=by simp[fI,gV,bN,hw,VT,UQ]
theorem qia(hu:P.underlying t=some (.array 24 el))(hz:∀w,(sizeOf el).run P w=.ok 1 w)(hs:jE T n K cf m e L=.op o Lv cf1 cf2 K' m' e' L')(ho:(o.op,o.dst)=(.indexAddr t x y,some d))(hx:iM e' x=some (.p b0 0))(hy:(iM e' y).bind rE=some (k,i))(hF:need (0<=i/\i<24) A=some q)
  (kk:0<=i/\i<24->A=some q->∀b z:Nat,G (.mk P T hT n c B0 N X Q) K' m' ((d,.e ⟨some ⟨b,z,none⟩,0⟩ 1 i.toNat 0)::e') (L'++[.w b0 b z]) cf2):G (.mk P T hT n c B0 N X Q) K m e L cf:=by
 have hb:=(lY hF).1;have hd:o.dst=some d:=b8 Prod.snd ho;refine gW (g:=.mk P T hT n c B0 N X Q) ?_;rw[hs];intro hdn _ hE;refine hE (Nat×Nat) (λ_=>m') (λs=>(d,.e ⟨some ⟨s.1,s.2,none⟩,0⟩ 1 i.toNat 0)::e') (λs=>L'++[.w b0 s.1 s.2]) (λ_=>tC _) (λB a w next Q' hm hA hS hnext=>?_) (λs=>kk hb (lY hF).2 s.1 s.2);obtain⟨v,h1,h2⟩:=eJ hA hx;have h3:=wP hA hy;simp only[fI,gV,bN] at h1;split at h1
 ·rename_i b z hbz;cases h1;have hw:(WB (.mk P T hT n c B0 N X Q) cf1++B)[b0]?=some (b,z):=hbz;have hrun:eS P o (vE (WB (.mk P T hT n c B0 N X Q) cf1++B) e') w (.pointer (some ⟨b,z+i.toNat,none⟩)) w:=λ_ a' hA'=>by
   have ho':o.op=.indexAddr t x y:=b8 Prod.fst ho;have h5:(⟨b,z,none⟩:Addr).add i.toNat=⟨b,z+i.toNat,none⟩:=by grind[Addr.add]
   simp[execOp,ho',Instr.indexAt,hA'.eval h2,hA'.eval h3,asIntOf,run_underlying hu,Instr.sureAddr,hb.1,hb.2,hz,h5]
  unfold Oper.wp;rw[hrun _ a hA.env,Oper.upon_value,hd];obtain⟨⟨R,s1,s2⟩,s0⟩:=hS;refine hnext (b,z) _ _ ⟨[],ak,by simpa using hA.of (by simp[fI,gV,bN,VT,UQ]) (hA.env.put (by grind[qT,vZ]) _),?_⟩;rw[rC];refine⟨⟨R,by rw[o7];exact aTC s1,λz hz=>?_⟩,s0⟩;rcases dD.1 hz with hz|hz
  ·grind
  ·simp at hz;subst hz;exact hw
 ·cases h1
theorem qal{tk:TK}{zz:Nat}{z1:List SV}{b:Nat}(p:Nat)(h24:0<=i/\i<24)(hs:opS (jE T n K cf m e L)=some (o,Lv,cf1,cf2,K',m',e',L'))(ho:(o.op,o.dst)=(.load t x,some d))(hx:iM e' x=some (.e ⟨some ⟨b,z,none⟩,0⟩ 1 i.toNat 0))(hp:Lv[p]?=some (.w b0 b z))(hb:G7 b0 Lv=some (aB l))(ht:wV T t=some ⟨tk,false,zz,z1⟩)(hF:(idx l i).bind kf=some q)
  (kk:∀u,kf u=some q->G (.mk P T hT n c B0 N X Q) K' m' ((d,.b u)::e') L' cf2):G (.mk P T hT n c B0 N X Q) K m e L cf:=by
 cases hi:idx l i with
 |none=>grind
 |some u=>
  rw[hi] at hF;refine pu hs (b8 Prod.snd ho) (λB a w hA hS=>?_) (kk u hF);obtain⟨v,h1,h2⟩:=eJ hA hx;have hw:B[b0]?=some (b,z):=by obtain⟨⟨R,_,s2⟩,_⟩:=id hS;exact s2 _ (D7 hp)
  refine aS6 (a:=.p b0 i.toNat) (r:=.b u) hT hS (b8 Prod.fst ho) h2 ((elP hw).trans h1) ?_;simp only[aOO,hb,ht];rw[aWY aa,I4,(AW hi).2.2];rfl
theorem bK7{v:SV}{y:Operand}(h:iM [] y=some v)(e:SE):iM e y=some v:=by cases y<;>first|exact h|grind[iM,D0]
theorem qas{tk:TK}{ag:Bool}{z1:List SV}{u:Bool}{b k0:Nat}(p:Nat)(h24:0<=i/\i<24)(hs:jE T n K cf m e L=.op o Lv cf1 cf2 K' m' e' L')(ho:(o.op,o.dst)=(.store t (.tmp k0) y,none))(hx:D0 e' k0=some (.e ⟨some ⟨b,z,none⟩,0⟩ 1 i.toNat 0))(hy:iM [] y=some (.l u))(hp:L'[p]?=some (.w b0 b z))(hib:QY b0 L'=true)(hb:G7 b0 L'=some (aB l))(ht:wV T t=some ⟨tk,ag,1,z1⟩)(hz:noD cf1=true)(hF:(idx l i).bind kf=some q)
  (kk:∀v,kf v=some q->G (.mk P T hT n c B0 N X Q) K' m' e' (sZ b0 (aB (l.set i.toNat u)) L') cf2):G (.mk P T hT n c B0 N X Q) K m e L cf:=by
 cases hi:idx l i with
 |none=>grind
 |some v=>
  rw[hi] at hF;obtain⟨i0,i1,i2⟩:=AW hi;have hlt:i.toNat<l.length:=aa
  have ho':o.op=.store t (.tmp k0) y:=b8 Prod.fst ho;have hd:o.dst=none:=b8 Prod.snd ho;have hst:SU T t (.p b0 i.toNat) (.l u) L'=some (sZ b0 ((aB l).set i.toNat (.l u)) L'):=by
   have e1:Nat.beq 1 1=true:=rfl;have e2:Nat.ble (i.toNat+1) (aB l).length=true:=by rw[Nat.ble_eq];show i.toNat+1<=24;omega
   have e3:oE (.l u)=[.l u]:=rfl;have e4:isCells (.l u)=true:=rfl;simp only[SU,hib,hb,ht,e3,e4,List.length_singleton,e1,e2,aTW];simp_all[aJL,a50]
  refine gW (g:=.mk P T hT n c B0 N X Q) ?_;rw[hs];intro hdn _ hE;refine hE Unit (λ_=>m') (λ_=>e') (λ_=>sZ b0 (aB (l.set i.toNat u)) L') (λ_=>?_) (λB a w next Q' hm hA hS hnext=>?_) (λ_=>kk v hF)
  ·cases cf1 with
   |d _ _ _ _ _ _=>cases hz
   |o _ _ _ _ _ _ _=>cases hz
   |_=>trivial
  ·have hw:(WB (.mk P T hT n c B0 N X Q) cf1++B)[b0]?=some (b,z):=by obtain⟨⟨R,_,s2⟩,_⟩:=id hS;exact s2 _ (D7 hp)
   have hA2:gU n (WB (.mk P T hT n c B0 N X Q) cf1++B) ((k0,.p b0 i.toNat)::e') a:=⟨hA.d,hA.size,λk' x' hk=>by
    simp only[D0] at hk;split at hk
    ·rename_i hq;cases hk;have:=o9 hq;subst this;obtain⟨v,g1,g2⟩:=hA.get k' _ hx;grind[elP]
    ·exact hA.get k' x' hk⟩
   obtain⟨w',k1,k2⟩:=aOR hT hA2 hS ho' (by simp[iM,D0]) (bK7 hy _) hst;unfold Oper.wp;rw[k1 _ a hA2.env,Oper.upon_skip,hd];refine hnext () _ _ ⟨[],ak,by rw[rC];exact⟨hA.d,hA.size,hA.get⟩,?_⟩;rw[rC];obtain⟨j,cs,g1,g2,g3⟩:=aJO hib;rw[g3] at k2 ⊢;obtain⟨⟨R,s1,s2⟩,s0⟩:=k2;have e0:∀B:Bl,aT (bN B) ((aB l).set i.toNat (.l u))=aT (bN B) (aB (l.set i.toNat u)):=λB=>by rw[<-bH3 aa hlt,<-OD,<-OD (cs:=(aB l).set i.toNat (.b u)),aQV,aQV];rfl
   refine⟨⟨R,?_,λz hz=>?_⟩,s0⟩
   ·rw[G6] at s1 ⊢;refine s1.imp (jS.set j (jS.refl _) λF ⟨b,z,vs,q1,q2,q3⟩=>⟨b,z,vs,q1,(e0 _).symm.trans q2,q3⟩)
   ·obtain⟨k,hk⟩:=aFK hz;by_cases hkj:j=k
    ·subst hkj;rw[List.getElem?_set] at hk;simp only[bQ] at hk;split at hk
     ·cases hk;trivial
     ·cases hk
    ·exact s2 z (D7 (i:=k) ak)
end
open Go Go.RowKit
structure KX (n z:Nat) (A B:World):Prop where
 size:A.heap.size<=B.heap.size
 HI:∀k,k<n->k≠z->B.heap[k]?=A.heap[k]?
theorem KX.refl(n z:Nat)(A:World):KX n z A A:=⟨iU _,λ_ _ _=>rfl⟩
theorem KX.trans{n:Nat}{B C:World}(h:KX n z A B)(k:KX n z B C):KX n z A C:=⟨lX h.size k.size,λi h1 h2=>(k.HI i h1 h2).trans (h.HI i h1 h2)⟩
theorem KX.put{n l:Nat}{o:Obj}(h:n<=l\/l=z):KX n z A (A.putObj l o):=⟨by simp[World.putObj],λi h1 h2=>World.putObj_heap_other aa⟩
def aQW(W:World):cB:=λb o=>(W.cell? ⟨b,o,none⟩).isSome=true
def Cq(O:Type)[aL O]:Prop:=∀{S:cB} {w:World} {cs:List Value} {d:O},aL.rd S w cs d->aL.rd (λb o=>S b o/\aQW w b o) w cs d
theorem bCZ{O:Type}[aL O][Flat O]:Cq O:=λh=>aL.rd_mono (aL.own_rd (Flat.own_of h:aL.own _ _ _ F0)) λ_ _ h=>h.elim
theorem a0B{O:Type}[aL O](hq:Cq O):Cq (List O):=λ{S w cs l} h=>by obtain⟨a,c,e,h1,h2,h3⟩:=(h:mU S w cs l);refine⟨a,c,e,h1,h2,h3.imp id ?_⟩;rintro⟨b,off,ha,h⟩;refine⟨b,off,ha,λi hi=>?_⟩;obtain⟨ec,q1,q2,q3⟩:=h i hi;refine⟨ec,q1,λo g=>⟨q2 o g,?_⟩,hq q3⟩;obtain⟨_,g1,g2⟩:=g;have:=q1 (o-(off+i*aL.n O)) ec[o-(off+i*aL.n O)] (iT aa);rw[show off+i*aL.n O+(o-(off+i*aL.n O))=o by omega] at this;simp[aQW,this]
def RdZ(z:Nat)(W:World){O:Type}[aL O](cs:List Value)(d:O):Prop:=aL.rd (λb o=>b≠z/\aQW W b o) W cs d
def CK(z:Nat)(W W':World):Prop:=∀(b:Nat) (t:TypeId) (cells:Array Value) (f:Nat×Nat),b≠z->W.heap[b]?=some (Obj.cells cells t f)->W'.heap[b]?=W.heap[b]?
theorem RdZ.kept{W:World}{O:Type}[aL O]{cs:List Value}{d:O}(h:RdZ z W cs d)(hk:CK z W W'):RdZ z W' cs d:=by
 have key:∀b o,(b≠z/\aQW W b o)->W'.cell? ⟨b,o,none⟩=W.cell? ⟨b,o,none⟩:=λb o ⟨hz,hc⟩=>by
  refine World.cell?_of_block ?_;unfold aQW World.cell? at hc;simp only at hc;split at hc
  ·rename_i cells t f he;exact hk b _ _ _ hz he
  ·cases hc
 exact aL.rd_mono (aL.rd_agree h key) λb o hc=>⟨hc.1,by unfold aQW;rw[key b o hc];exact hc.2⟩
theorem bC1{W:World}{O:Type}[aL O](hq:Cq O){y:AC}{d:List O}(h:lF (eC W) W' [] [ow y d])(hz:z<W.heap.size):RdZ z W' [y.v d.length] d:=by
 obtain⟨⟨R,s1,_⟩,_⟩:=h;obtain⟨F,S,a1,_,a3,_⟩:=s1.sep;have a1:(eM [y.v d.length] d).P W' F:=Sep.one.1 a1;refine aL.rd_mono (a0B hq (aL.own_rd a1)) λb o ⟨h1,h2⟩=>⟨λe=>?_,h2⟩;rcases a3 b o h1 with h|h
 ·exact h
 ·have:W.heap.size<=b:=h;omega
theorem aJY{W:World}{L:List Ch}(h:lF (eC W) W' [] L):Below W.heap.size W W':=by obtain⟨⟨R,s1,_⟩,_⟩:=h;exact⟨s1.keep.os,s1.keep.tape,s1.keep.output,s1.keep.size,λk hk=>s1.keep.block k hk λ_ h=>h⟩
theorem CK.below{W:World}(h:Below W.heap.size W W'):CK z W W':=λb t c f _ hb=>h.block b (aF6.1 hb).1
theorem CK.trans{B C:World}(h:CK z A B)(k:CK z B C):CK z A C:=λb t c f hz hb=>by have h1:=h b t c f hz hb;exact(k b t c f hz (h1.trans hb)).trans h1
def mkD(D:Nat):Deferred:={target:=.collected D,args:=#[]}
def Mks:List Deferred->World->Prop
 |[],_=>True
 |q::ds,W=>∃D,q=mkD D/\W.heap[D]?=some (.deferred (some []))/\(∀E,mkD E∈ds->E<D)/\Mks ds W
theorem Mks.kept{W:World}:∀{ds:List Deferred},Mks ds W->(∀D,mkD D∈ds->W.heap[D]?=some (.deferred (some []))->W'.heap[D]?=W.heap[D]?)->Mks ds W'
 |[],_,_=>trivial
 |q::ds,⟨D,h1,h2,h3,h4⟩,hk=>⟨D,h1,(hk D (by rw[h1];simp) h2).trans h2,h3,h4.kept λE hE=>hk E (lD _ hE)⟩
theorem Mks.at{W:World}:∀{ds:List Deferred},Mks ds W->∀D,mkD D∈ds->W.heap[D]?=some (.deferred (some []))
 |q::ds,⟨D,h1,h2,h3,h4⟩,E,hE=>by
  rcases j6.1 hE with e|e
  ·subst h1;simp only[mkD,Deferred.mk.injEq,Target.collected.injEq] at e;rw[e.1];exact h2
  ·exact h4.at E e
theorem Mks.leave{P:Program}{F:Fence}{n:Nat}{fn:Func}{tmps:Array Value}{R:Ending->World->Prop}:∀{ds:List Deferred} {W:World},Mks ds W->(∀W',(∀b,(∀D,mkD D∈ds->b≠D)->W'.heap[b]?=W.heap[b]?)->W'.heap.size=W.heap.size->(W'.os=W.os/\W'.tape=W.tape/\W'.output=W.output)->LeavesIn F n P fn tmps R [] .returning W')->LeavesInM F n P fn tmps R ds .returning W
 |[],W,_,k=>k W (λ_ _=>rfl) rfl ⟨rfl,rfl,rfl⟩
 |q::ds,W,⟨D,h1,h2,h3,h4⟩,k=>by subst h1;refine⟨ae,.inl ⟨D,_,rfl,run_takeDeferred h2,Mks.leave (h4.kept λE hE _=>World.putObj_heap_other (by have:=h3 E hE;omega)) λW' b2 b3 b4=>?_⟩⟩;refine k W' (λb hb=>(b2 b λE hE=>hb E (lD _ hE)).trans (World.putObj_heap_other (hb D (by simp[mkD])))) (by rw[b3];simp[World.putObj]) b4
section
variable {F:Fence} {n:Nat} {P:Program}
def rfX{O:Type}(B n₀ z:Nat)(I:List O->World->Prop)(xs:List O)(W:World):Exit->Act->World->Prop
 |.normal,_,W'=>KeepsFrom B W W'/\KX n₀ z W W'/\I xs W'
 |_,_,_=>False
theorem a7L{O:Type}{g:Operand}{ps:Array Tmp}{assign body:Code}{Q:Exit->Act->World->Prop}{a:Act}{w0:World}{gf n₀:Nat}{lb:Array Value}{encs:O->Array Value}{S:List O->Prop}{R:List O->O->Prop}
  (hro:F.round=none) (h1:1<=n) (hg:a.eval g=.func (.func gf) #[] lb) (hf:F.fn gf) (eg:∀args w,(callFunc gf args).run P w=.ok (.enter gf args) w)
  (hseq:∀(l:Nat) (J:List O->World->Prop) (W:World),Below w0.heap.size w0 W->AbidesFrom W.heap.size J->(∀pre x W1,J pre W1->R pre x->YieldAt F (n-1-1) P l (encs x) W1 λe W'=>e=.returned (.bool true)/\J (pre++[x]) W'/\KX n₀ z W1 W')->J [] W->CallsIn F (n-1) P gf (#[.func (.yield l) #[] #[]]++lb) W λe W'=>(∃v,e=.returned v)/\∃xs,S xs/\J xs W') (hn:n₀<=w.heap.size) (hb0:Below w0.heap.size w0 w) (hps:∀x,(encs x).size=ps.size)
  (I:List O->World->Prop) (hI:OwnFrom w.heap.size I) (h0:I [] w) (A:O->Act)
  (hassign:∀(l:Nat) (x:O) (W:World),assign.wpIn (F.inRound l) (n-1-1) P (Exit.then (λa1 W1=>a1=A x/\W1=W) (λ_ _ _=>False)) {tmps:=(ps.zip (encs x)).foldl (λt (p,v)=>t.setIfInBounds p v) a.tmps,defers:=[]} W)
  (hbody:∀(l:Nat) (pre:List O) (x:O) (W:World),w.heap.size<=W.heap.size->R pre x->I pre W->body.wpIn (F.inRound l) (n-1-1) P (rfX w.heap.size n₀ z I (pre++[x]) W) (A x) W)
  (hdone:∀(D:Nat) (xs:List O) (W:World),w.heap.size<=D->S xs->I xs W->W.heap[D]?=some (.deferred (some []))->Q .normal {a with defers:={target:=.collected D,args:=#[]} :: a.defers} W) :
  (Code.rangeFunc g ps assign body).wpIn F n P Q a w:=by
 refine wpIn_rangeFunc λfn hfn=>?_;rw[hro]
 let B:=w.heap.size
 let rc:LoopState->Option Code->Loop:=λst pe=>{state:=st,pending:=pe,fn,tmps:=a.tmps,params:=ps,assign,body,defers:=B}
 let W1:=(w.alloc (.deferred (some []))).alloc (.loop (rc .ready none))
 have L1:W1.heap[B+1]?=some (.loop (rc .ready none)):=by have:=World.alloc_heap_new (w.alloc (.deferred (some []))) (.loop (rc .ready none));rwa [World.size_alloc] at this
 have K1:W1.heap[B]?=some (.deferred (some [])):=(Below.heap_alloc _ _ _ (by simp[B])).trans (World.alloc_heap_new w _);have b1:Below w0.heap.size w0 W1:=hb0.trans ((((Below.refl _ w).alloc (iU _) _).alloc ae _).mono hb0.size);have io:I [] W1:=hI.alloc _ (hI.alloc _ h0)
 let Bk:Loop->World->Prop:=λr W=>W.heap[B+1]?=some (.loop r)/\W.heap[B]?=some (.deferred (some []))
 have kept:∀{r:Loop} {X Y:World} {row:Option Nat},Bk r X->X.grownBy Y row->(∀j,row=some j->W1.heap.size<=j/\∃o:Obj,X.heap[j]?=some o/\o.isWalk=true)->Bk r Y:=λh hg hr=>by
  have s1:W1.heap.size=B+2:=by simp[W1,B]
  exact⟨(hg.block _ (aF6.1 h.1).1 λe=>by have:=(hr _ e.symm).1;omega).trans h.1,(hg.block _ (aF6.1 h.2).1 λe=>by have:=(hr _ e.symm).1;omega).trans h.2⟩
 have far:∀{X:World} {row:Option Nat},(∀j,row=some j->W1.heap.size<=j/\∃o:Obj,X.heap[j]?=some o/\o.isWalk=true)->∀j,row=some j->B<=j/\∃o:Obj,X.heap[j]?=some o/\o.isCells=false:=λhr j e=>by
  have s1:W1.heap.size=B+2:=by simp[W1,B]
  obtain⟨q,o,h,hw⟩:=hr j e;exact⟨aa,o,h,Obj.not_cells_of_walk hw⟩
 have put:∀{r r':Loop} {X:World},Bk r X->Bk r' (X.putObj (B+1) (.loop r')):=λh=>⟨World.putObj_heap_same (aF6.1 h.1).1,(World.putObj_heap_other aa).trans h.2⟩;have blo:∀{X:World} {o:Obj},KX n₀ z X (X.putObj (B+1) o):=KX.put (.inl aa);refine⟨B+1,[{target:=.collected B,args:=#[]}],W1,{target:=.fn (.func gf) lb,args:=#[.func (.yield (B+1)) #[] #[]]},W1,gf,#[.func (.yield (B+1)) #[] #[]]++lb,W1,run_enterLoop_outer _ _ _ _ _,?_,?_,?_,λ_=>h1,?_⟩
 ·simp only[resolve,hg];simp[go_sem]
 ·intro f' h';simp[Target.leads] at h';subst h';exact hf
 ·simp[invoke,go_sem,eg]
 refine(hseq (B+1) (λpre W=>I pre W/\Bk (rc .ready none) W) W1 b1 (λs X Y row h hg hr=>⟨hI s X Y row h.1 hg (far hr),kept h.2 hg hr⟩) ?_ ⟨io,L1,K1⟩).mono ?_
 ·rintro pre x W ⟨hi,hb⟩ hl;have hsz:B<=W.heap.size:=by have:=(aF6.1 hb.1).1;omega
  refine⟨fn,_,assign,body,run_yield (P:=P) (args:=encs x) hb.1 (hps x),roundIn_of_wpIn hfn (wpIn_mono (hassign _ x W) ?_)⟩;rintro e a1 W2 he;cases e with
  |normal=>
   obtain⟨rfl,rfl⟩:=he;have hb3:Bk (rc .busy none) (W2.putObj (B+1) (.loop (rc .busy none))):=put hb;refine⟨_,run_beginRound hb.1 rfl,wpIn_mono (hbody _ pre x _ (by simp only[World.putObj,Array.size_setIfInBounds];exact hsz) hl (hI.putObj _ hi aa hb.1 rfl)) ?_⟩;rintro e a3 W3 hp;cases e with
   |normal=>
    obtain⟨k3,q3,i3⟩:=hp;have hb4:Bk (rc .busy none) W3:=⟨k3.same _ _ aa hb3.1 rfl,k3.same _ _ (iU _) hb3.2 rfl⟩;exact⟨_,_,run_endRound (P:=P) none hb4.1,⟨rfl,⟨hI.putObj _ i3 aa hb4.1 rfl,put hb4⟩,(blo.trans q3).trans blo⟩⟩
   |_=>exact hp.elim
  |_=>exact he.elim
 ·rintro e W2 ⟨⟨v,rfl⟩,xs,hS,hi,hb⟩;exact⟨none,_,run_endLoop (P:=P) hb.1 (by simp[rc]),hdone B xs _ (iU _) hS (hI.putObj _ hi aa hb.1 rfl) ((World.putObj_heap_other aa).trans hb.2)⟩
end
end Go.Gv
end
noncomputable section
namespace Go.Gv
open Go Go.RowKit
def OwZ(n0 z:Nat)(W:World){O:Type}[aL O](v:Value)(m:List O):Prop:=∃F,aL.own W [v] m F/\∀b o,F b o->n0<=b/\b≠z
theorem OwZ.mono{n0 n1 z:Nat}{W:World}{O:Type}[aL O]{v:Value}{m:List O}(h:OwZ n1 z W v m)(hn:n0<=n1):OwZ n0 z W v m:=by obtain⟨F,a,b⟩:=h;exact⟨F,a,λi o q=>⟨lX hn (b i o q).1,(b i o q).2⟩⟩
section
variable {O:Type} [aL O] [Flat O] {W W':World} {v:Value} {m:List O} {n0 z:Nat}
theorem a0D{F:cB}(h:aL.own W [v] m F){b o:Nat}(hb:F b o):aQW W b o:=by
 obtain⟨a,c,e,h1,h2,h3⟩:=(h:AV W [v] m F);rcases h3 with ⟨_,_,h3⟩|⟨b1,off,Fs,rfl,q1,q2,_,_,q5⟩
 ·exact(h3 b o hb).elim
 ·rcases(q5 b o).1 hb with g|⟨i,hi,g⟩
  ·obtain⟨rfl,g2⟩:=g;exact(q1 o ⟨rfl,g2⟩).1
  ·obtain⟨ec,_,p⟩:=q2 i hi;exact(Flat.no p b o g).elim
theorem OwZ.rdZ(h:OwZ n0 z W v m):RdZ z W [v] m:=by obtain⟨F,a,b⟩:=h;exact aL.rd_mono (aL.own_rd a) λi o q=>⟨(b i o q).2,a0D a q⟩
omit [Flat O] in
theorem bC2(b off:Nat):OwZ n0 z W (.slice (some ⟨b,off,none⟩) 0 0) ([]:List O):=
 ⟨F0,⟨_,_,rfl,iU _,jK _,.inr ⟨b,off,λ_=>F0,rfl,λo h=>by have:=h.2;omega,λi h=>by simp at h,λi j h=>by simp at h,λi h=>by simp at h,λb' o=>⟨λh=>h.elim,λh=>h.elim (λh=>by have:=h.2;omega) λ⟨i,h,_⟩=>by simp at h⟩⟩⟩,λ_ _ h=>h.elim⟩
theorem OwZ.kept(h:OwZ n0 z W v m)(hk:CK z W W'):OwZ n0 z W' v m:=by
 obtain⟨F,a,hF⟩:=h;refine⟨F,?_,hF⟩;have same:∀b o,F b o->W'.heap[b]?=W.heap[b]?:=λb o q=>by
  have hc:=a0D a q;unfold aQW World.cell? at hc;simp only at hc;split at hc
  ·rename_i cells t f he;exact hk b _ _ _ (hF b o q).2 he
  ·cases hc
 obtain⟨a,c,e,h1,h2,h3⟩:=(a:AV W [v] m F);refine⟨a,c,e,h1,h2,h3.imp id ?_⟩;rintro⟨b,off,Fs,ha,q1,q2,q3,q4,q5⟩;refine⟨b,off,Fs,ha,λo g=>?_,λi hi=>?_,q3,q4,q5⟩
 ·have s:=same b o ((q5 b o).2 (.inl g));rw[World.cell?_of_block s,World.frozen?_of_block s];exact q1 o g
 ·obtain⟨ec,g1,g2⟩:=q2 i hi;refine⟨ec,λj x hj=>?_,?_⟩
  ·have hl:=aL.lN (aL.own_rd g2);have hjl:=(AT.1 hj).1;have:=a4Y (n:=aL.n O) hi h1 (show j<aL.n O by omega);rw[World.cell?_of_block (same b (off+i*aL.n O+j) ((q5 _ _).2 (.inl ⟨rfl,aa,aa⟩)))];exact g1 j x hj
  ·have e:Fs i=F0:=funext λb=>funext λo=>propext ⟨λh=>(Flat.no g2 b o h).elim,λh=>h.elim⟩;rw[e];exact Flat.own_of (aL.own_rd g2)
omit [Flat O] in
theorem bH4{y:AC}(h:lF (eC W) W' [] [ow y m])(hz:z<W.heap.size):OwZ W.heap.size z W' (y.v m.length) m:=by
 obtain⟨⟨R,s1,_⟩,_⟩:=h;obtain⟨F,S,a1,_,a3,_⟩:=s1.sep;have a1:(eM [y.v m.length] m).P W' F:=Sep.one.1 a1;refine⟨F,a1,λb o h1=>?_⟩;rcases a3 b o h1 with h|h
 ·exact h.elim
 ·have:W.heap.size<=b:=h;exact⟨this,aa⟩
omit [Flat O] in
theorem bC3{c:Ctx}{y:AC}(h0:lF c c.w0 [] [])(h:Below c.w0.heap.size c.w0 W')(ho:OwZ c.w0.heap.size z W' (y.v m.length) m):lF c W' [] [ow y m]:=by obtain⟨⟨R,s1,e⟩,s2⟩:=h0;obtain⟨F,a,hF⟩:=ho;have s1:=s1.same (aM9 h);obtain⟨F1,S,a1,a2,a3,a4,a5,a6⟩:=s1.sep;refine⟨⟨[],⟨s1.keep,⟨F,F0,Sep.one.2 a,λ_ _ _ h=>h,λb o h=>.inr (hF b o h).1,λ_ _ h=>h.elim,λ_ _ h=>h.elim,ae⟩,s1.apart⟩,λx hx=>by rw[jJ.1 hx];trivial⟩,s2⟩
end
theorem yT{c:Ctx}{W:World}{O:Type}[aL O]{s:AC}{l:List O}(h0:lF c c.w0 [] [])(hb:Below c.w0.heap.size c.w0 W)(h:bH c s l):bH (eC W) s l:=by obtain⟨_,s2⟩:=h0;refine aL.rd_mono (aL.rd_agree h λb o q=>World.cell?_of_block (hb.block b (s2 b o q))) λb o q=>?_;have:=s2 b o q;exact D9 this hb.size
theorem bK8{W:World}{O:Type}[aL O]{s:AC}{l:List O}{z:Nat}(h:RdZ z W [s.v l.length] l):bH (eC W) s l:=aL.rd_mono h λb o q=>by have:=q.2;unfold aQW at this;exact World.block_lt_of_cell? W ⟨b,o,none⟩ (aFQ.1 this).choose_spec
end Go.Gv
end
noncomputable section
namespace Go.Gv
variable{s:AC}{qs:List AH}{β:Type}{v0:Value}{w:World}
theorem bC4{S:cB}{O:Type}[aL O]:aL.rd S w [(⟨none,0⟩:AC).v 0] ([]:List O):=by refine(show mU S w [(⟨none,0⟩:AC).v 0] ([]:List O) from⟨none,0,rfl,ae,ae,.inl rfl⟩)
theorem AHs.zero{c:Ctx}{O:Type}[aL O]:∀n:Nat,AHs c (List.replicate n ⟨⟨none,0⟩,0⟩) (List.replicate n ([]:List O))
 |0=>trivial
 |n+1=>⟨⟨rfl,bC4⟩,AHs.zero n⟩
theorem AHs.set{c:Ctx}{O:Type}[aL O]{q:AH}{d:List O}(h:q.n=d.length/\bH c q.s d):∀{qs:List AH} {ds:List (List O)} (i:Nat),AHs c qs ds->AHs c (qs.set i q) (ds.set i d)
 |[],[],_,_=>trivial
 |x::qs,y::ds,0,a=>⟨h,a.2⟩
 |x::qs,y::ds,i+1,a=>⟨a.1,AHs.set h i a.2⟩
theorem AHs.bNT{c:Ctx}{O:Type}[aL O]{f:β->List O}{q:AH}{x:β}(h:q.n=(f x).length/\bH c q.s (f x)){ds:List β}(i:Nat)(a:AHs c qs (ds.map f)):AHs c (qs.set i q) ((ds.set i x).map f):=by rw[G6];exact AHs.set h i a
theorem bH5{O γ:Type}{l:List O}{m:List β}{i:Int}{F:Option γ}(h:l.length=m.length):((idx l i).bind λ_=>F)=(idx m i).bind λ_=>F:=by
 unfold idx;by_cases q:0<=i
 ·rw[aO q,aO q];by_cases z:i.toNat<m.length
  ·rw[iT z,iT (h ▸ z)];rfl
  ·rw[aYV aa,aYV aa];rfl
 ·rw[aP q,aP q];rfl
theorem bK9{U:Ctx}{O:Type}[aL O][aL β]{f:β->List O}(hf:∀{S:cB} {w:World} {v:Value} {x:β},aL.rd S w [v] (f x)->aL.rd S w [v] x)(hn:aL.n β=1){ds:List β}{F:cB}(h:(eM [s.v qs.length] qs).P w F)(ha:AHs U qs (ds.map f)):(cBr U s ds).P w F:=by
 refine⟨λ_ _ hF=>(eM [s.v qs.length] qs).lt h hF,λw' h2 h3=>?_⟩;obtain⟨hl,hg⟩:=ha.get;rw[aFL] at hl;obtain⟨ad,c,e,g1,g2,g3⟩:=(show mU F w' [s.v qs.length] qs from aL.rd_agree (aL.own_rd h) h2);refine(show mU (λb o=>U.S0 b o\/F b o) w' [s.v ds.length] ds from⟨ad,c,ak,hl ▸ g1,g2,?_⟩);rcases g3 with g3|⟨b,off,rfl,g3⟩
 ·grind
 ·refine .inr ⟨b,off,rfl,λi hi=>?_⟩;obtain⟨ec,q1,q2,q3⟩:=g3 i aa;obtain⟨p1,p2⟩:=hg i aa (by simpa using hi);rw[List.getElem_map] at p1 p2;have q3:ec=[(qs[i]' aa).s.v (qs[i]' aa).n]:=q3;rw[hn];refine⟨ec,q1,λo ho=>.inr (q2 o ho),?_⟩;rw[q3,p1];exact hf (aL.rd_mono (aL.rd_agree p2 h3) λ_ _ h=>.inl h)
section
variable {P:Program} {T:TT} {hT:D1 P T} {n:Nat} {c:Ctx} {B0:Bl} {N:Act->World->Prop} {X:Nat->Act->World->Prop} {Q:Act->World->Prop} {K K':List Fr} {m m':Nat} {e e':SE} {L L':List Ch} {cf cf':sY}
theorem brV{O:Type}[aL O][aL β](f:β->List O)(hf:∀{S:cB} {w:World} {v:Value} {x:β},aL.rd S w [v] (f x)->aL.rd S w [v] x)(hn:aL.n β=1)(j:Nat){ds:List β}(ha:AHs c qs (ds.map f))(hs:PJ (jE T n K cf m e L)=some (K',cf',m',e',L'))(hj:L'[j]?=some (ow s qs))(hz:fT j cf'.wX=true)
  (k:G (.mk P T hT n c B0 N X Q) K' m' e' (L'.set j (.o (cBr c s ds))) cf'):G (.mk P T hT n c B0 N X Q) K m e L cf:=chI j hs hj hz (λ_ _ h=>bK9 hf hn h ha) k
end
section
variable {P:Program} {T:TT} {hT:D1 P T} {n:Nat} {c c':Ctx} {B0:Bl} {N N':Act->World->Prop} {X:Nat->Act->World->Prop} {Q Q':Act->World->Prop} {K K':List Fr} {m m':Nat} {e e':SE} {L L':List Ch} {cf:sY}
theorem lkR{O ρ ex γ:Type}[aL O][aL β]{fn:Func}{rs:List ResultVar}{hr:fn.results=rs.toArray}{sv:ρ->ex->SV}{Lf:ρ->ex->List Ch}{r:ρ}{q:γ}{zz:Option γ}{ops:Array Oper}{l:List Oper}(j:Nat){us:List O}{d:List β}
  (hx:∀S w,(∀b o,c.S0 b o->S b o)->(∀b o,c.S0 b o->w.cell? ⟨b,o,none⟩=c.w0.cell? ⟨b,o,none⟩)->aL.rd S w [s.v us.length] us->aL.rd S w [s.v d.length] d)
  (hs:PJ (jE T n K cf m e L)=some (K',.r ops l,m',e',L')) (hj:L'[j]?=some (ow s us))
  (k:∀{c':Ctx},(∀{O:Type} [aL O] {s:AC} {d:List O},bH c s d->bH c' s d)->bH c' s d->W (G (.mk P T hT n c' B0 (QR P fn hr c' B0 sv Lf r) (λ_ _ _=>False) (QR P fn hr c' B0 sv Lf r)) K' m' e' (L'.set j .no) (.r ops l)) q zz)
  (hn:∀r y,noF (Lf r y)=true:=by exact λ_ _=>rfl):W (G (.mk P T hT n c B0 (QR P fn hr c B0 sv Lf r) (λ_ _ _=>False) (QR P fn hr c B0 sv Lf r)) K m e L cf) q zz:=λhF=>by
 refine go hs λa w ⟨B,hm,hA,hS⟩=>?_;obtain⟨⟨R,s1,s2⟩,s0⟩:=id hS;obtain⟨F,S,a1,a2,a3,a4,a5,a6⟩:=s1.sep;obtain⟨Fj,Fr,b1,b2,b3,b4⟩:=(Sep.take (c:=eM [s.v us.length] us) (i:=j) (by rw[zU,hj];rfl)).1 a1;have hdS:∀b o,F b o->¬c.S0 b o:=λb o hf h0=>(a3 b o hf).elim (λh=>s1.apart b o h h0) λh=>ak
 let c2:Ctx:=⟨w,Fr,λb o=>c.S0 b o\/Fj b o\/S b o⟩
 have hlt:∀b o,c2.S0 b o->b<w.heap.size:=λb o h=>h.elim (λh=>D9 (s0 b o h) s1.keep.size) λh=>h.elim (λh=>(eM [s.v us.length] us).lt b1 h) (a5 b o);have hag:∀b o,c.S0 b o->w.cell? ⟨b,o,none⟩=c.w0.cell? ⟨b,o,none⟩:=λb o h=>s1.keep.cell b o (s0 b o h) λhw=>s1.apart b o hw h;have ap:c2.W.DZ c2.S0:=λb o h1 h2=>h2.elim (λh=>hdS b o ((b4 b o).2 (.inr h1)) h) λh=>h.elim (λh=>b3 b o h h1) λh=>a2 b o ((b4 b o).2 (.inr h1)) h;have st2:lF c2 w (B0++B) (L'.set j .no):=by
  refine⟨⟨R,⟨eI.refl _ _,⟨Fr,S,?_,λb o h1 h2=>a2 b o ((b4 b o).2 (.inr h1)) h2,λb o h=>.inl h,λb o h=>.inl (.inr (.inr h)),a5,a6⟩,ap⟩,λz hz=>?_⟩,hlt⟩
  ·rw[G6];exact b2
  ·rcases o8 hz with hz|hz
   ·grind
   ·subst hz;trivial
 have rdc:∀{O:Type} [aL O] {s:AC} {d:List O},bH c s d->bH c2 s d:=λh=>aL.rd_mono (aL.rd_agree h hag) λ_ _ h=>.inl h;have rdj:bH c2 s d:=hx _ _ (λ_ _ h=>.inl h) hag (aL.rd_mono (aL.own_rd b1) λ_ _ h=>.inr (.inl h));have out:∀a w,QR P fn hr c2 B0 sv Lf r a w->QR P fn hr c B0 sv Lf r a w:=λa w2 ⟨hd,v,hv,y,h1,h2⟩=>by
  obtain⟨⟨R2,t1,_⟩,_⟩:=h2;obtain⟨F2,S2,e1,e2,e3,e4,e5,e6⟩:=t1.sep;refine⟨hd,v,hv,y,h1,⟨⟨[],⟨s1.keep.trans t1.keep λb o hb h=>?_,⟨F2,F0,e1,λ_ _ _ h=>h,λb o h=>?_,λ_ _ h=>h.elim,λ_ _ h=>h.elim,λf hf=>by cases hf⟩,s1.apart⟩,aD9 (hn r y)⟩,s0⟩⟩
  ·grind
  ·rcases e3 b o h with h|h
   ·grind
   ·exact .inr (lX s1.keep.size h)
 obtain⟨m1,m2⟩:=aIJ (P:=P) (T:=T) (hT:=hT) (n:=n) (c:=c) (c':=c2) (B0:=B0) (X:=λ_ _ _=>False) out out K';exact SZ m1 _ (k rdc rdj hF a w ⟨B,hm,hA,st2⟩)
end
abbrev VI(x:Int):Value:=.int .i64 x
structure dK where
 b:List UInt8
 i:Int
 h:Int
 deriving DecidableEq,Inhabited
abbrev a0E(d:dK):=(d.b,d.i,d.h)
instance:aL dK:=aL.via a0E
instance:Fits dK:=Fits.via a0E
structure iP where
 Kind:Int
 Key:Int
 dI:Int
 deriving DecidableEq,Inhabited
abbrev a7M(d:iP):=(d.Kind,d.Key,d.dI)
instance:aL iP:=aL.via a7M
instance:Fits iP:=Fits.via a7M
theorem bH6{S:cB}{cs:List Value}{d:iP}(h:aL.rd S w cs d):cs=[VI d.Kind,VI d.Key,VI d.dI]:=by obtain⟨c0,r0,e0,h0,n0⟩:=h;have q0:c0=[_]:=h0;obtain⟨c1,r1,e1,h1,n1⟩:=n0;have q1:c1=[_]:=h1;have q2:r1=[_]:=n1;exact by rw[e0,e1,q0,q1,q2];rfl
instance:Flat iP:=⟨λh=>Flat.own_of (O:=Int×Int×Int) h,λh=>Flat.no (O:=Int×Int×Int) h⟩
theorem bH7(d:iP):OP [VI d.Kind,VI d.Key,VI d.dI] d []:=(show OP _ (a7M d) _ from(eQ (c1:=[VI d.Kind]) (A:=[]) (dZ rfl) (eQ (c1:=[VI d.Key]) (A:=[]) (dZ rfl) (dZ rfl) rfl) rfl))
structure Batch where
 Collect:Bool
 bK:List iP
 deriving DecidableEq,Inhabited
abbrev aQX(d:Batch):=(d.Collect,d.bK)
instance:aL Batch:=aL.via aQX
instance:Fits Batch:=Fits.via aQX
theorem aTX{S:cB}{cs:List Value}{d:Batch}(h:aL.rd S w cs d):∃v0:Value,cs=[.bool d.Collect,v0]/\aL.rd S w [v0] d.bK:=by obtain⟨c0,r0,e0,h0,n0⟩:=h;have q0:c0=[_]:=h0;obtain⟨u1,q1⟩:=kK n0;rw[q1] at n0;exact⟨u1,by rw[e0,q0,q1];rfl,n0⟩
theorem aTY(d:Batch):OP [.bool d.Collect,v0] d [eM [v0] d.bK]:=(show OP _ (aQX d) _ from(eQ (c1:=[.bool d.Collect]) (A:=[]) (dZ rfl) HH rfl))
structure aN where
 List:List Batch
 deriving DecidableEq,Inhabited
abbrev aJZ(d:aN):=(d.List)
instance:aL aN:=aL.via aJZ
instance:Fits aN:=Fits.via aJZ
theorem a2N{S:cB}{cs:List Value}{d:aN}(h:aL.rd S w cs d):∃v0:Value,cs=[v0]/\aL.rd S w [v0] d.List:=by obtain⟨u0,q0⟩:=kK h;rw[q0] at h;exact⟨u0,q0,h⟩
theorem a2O(d:aN):OP [v0] d [eM [v0] d.List]:=(show OP _ (aJZ d) _ from HH)
structure LC where
 eE:List aN
 aO0:List Int
 deriving DecidableEq,Inhabited
abbrev aOZ(d:LC):=(d.eE,d.aO0)
instance:aL LC:=aL.via aOZ
instance:Fits LC:=Fits.via aOZ
structure Heap where
 Bytes:List Int
 Class:List Int
 deriving DecidableEq,Inhabited
abbrev a7N(d:Heap):=(d.Bytes,d.Class)
instance:aL Heap:=aL.via a7N
instance:Fits Heap:=Fits.via a7N
structure bG where
 aV:List Int
 deriving DecidableEq,Inhabited
abbrev aQY(d:bG):=(d.aV)
instance:aL bG:=aL.via aQY
instance:Fits bG:=Fits.via aQY
theorem a7O{S:cB}{cs:List Value}{d:bG}(h:aL.rd S w cs d):∃v0:Value,cs=[v0]/\aL.rd S w [v0] d.aV:=by obtain⟨u0,q0⟩:=kK h;rw[q0] at h;exact⟨u0,q0,h⟩
theorem EC(d:bG):OP [v0] d [eM [v0] d.aV]:=(show OP _ (aQY d) _ from HH)
structure aE where
 Global:List bG
 Own:List bG
 deriving DecidableEq,Inhabited
abbrev a0F(d:aE):=(d.Global,d.Own)
instance:aL aE:=aL.via a0F
instance:Fits aE:=Fits.via a0F
structure Mem where
 Heap:Heap
 aE:aE
 deriving DecidableEq,Inhabited
abbrev bF4(d:Mem):=(d.Heap,d.aE)
instance:aL Mem:=aL.via bF4
instance:Fits Mem:=Fits.via bF4
structure wQ where
 On:Bool
 aK:Int
 gO:Bool
 Seen:Int
 deriving DecidableEq,Inhabited
abbrev a7P(d:wQ):=(d.On,d.aK,d.gO,d.Seen)
instance:aL wQ:=aL.via a7P
instance:Fits wQ:=Fits.via a7P
theorem bH8{S:cB}{cs:List Value}{d:wQ}(h:aL.rd S w cs d):cs=[.bool d.On,VI d.aK,.bool d.gO,VI d.Seen]:=by obtain⟨c0,r0,e0,h0,n0⟩:=h;have q0:c0=[_]:=h0;obtain⟨c1,r1,e1,h1,n1⟩:=n0;have q1:c1=[_]:=h1;obtain⟨c2,r2,e2,h2,n2⟩:=n1;have q2:c2=[_]:=h2;have q3:r2=[_]:=n2;exact by rw[e0,e1,e2,q0,q1,q2,q3];rfl
theorem a7Q{S:cB}(d:wQ):aL.rd S w [.bool d.On,VI d.aK,.bool d.gO,VI d.Seen] d:=⟨[.bool d.On],[VI d.aK,.bool d.gO,VI d.Seen],rfl,rfl,⟨[VI d.aK],[.bool d.gO,VI d.Seen],rfl,rfl,⟨[.bool d.gO],[VI d.Seen],rfl,rfl,rfl⟩⟩⟩
instance:Flat wQ:=⟨λh=>Flat.own_of (O:=Bool×Int×Bool×Int) h,λh=>Flat.no (O:=Bool×Int×Bool×Int) h⟩
theorem bH9(d:wQ):OP [.bool d.On,VI d.aK,.bool d.gO,VI d.Seen] d []:=(show OP _ (a7P d) _ from(eQ (c1:=[.bool d.On]) (A:=[]) (dZ rfl) (eQ (c1:=[VI d.aK]) (A:=[]) (dZ rfl) (eQ (c1:=[.bool d.gO]) (A:=[]) (dZ rfl) (dZ rfl) rfl) rfl) rfl))
structure aC where
 aK:Int
 cE:List wQ
 deriving DecidableEq,Inhabited
abbrev a0G(d:aC):=(d.aK,d.cE)
instance:aL aC:=aL.via a0G
instance:Fits aC:=Fits.via a0G
structure fB where
 Handle:Int
 aK:Int
 deriving DecidableEq,Inhabited
abbrev aWZ(d:fB):=(d.Handle,d.aK)
instance:aL fB:=aL.via aWZ
instance:Fits fB:=Fits.via aWZ
theorem bC5{S:cB}{cs:List Value}{d:fB}(h:aL.rd S w cs d):cs=[VI d.Handle,VI d.aK]:=by obtain⟨c0,r0,e0,h0,n0⟩:=h;have q0:c0=[_]:=h0;have q1:r0=[_]:=n0;exact by rw[e0,q0,q1];rfl
theorem bC6{S:cB}(d:fB):aL.rd S w [VI d.Handle,VI d.aK] d:=⟨[VI d.Handle],[VI d.aK],rfl,rfl,rfl⟩
instance:Flat fB:=⟨λh=>Flat.own_of (O:=Int×Int) h,λh=>Flat.no (O:=Int×Int) h⟩
theorem bC7(d:fB):OP [VI d.Handle,VI d.aK] d []:=(show OP _ (aWZ d) _ from(eQ (c1:=[VI d.Handle]) (A:=[]) (dZ rfl) (dZ rfl) rfl))
structure bW where
 Rows:List fB
 deriving DecidableEq,Inhabited
abbrev aQZ(d:bW):=(d.Rows)
instance:aL bW:=aL.via aQZ
instance:Fits bW:=Fits.via aQZ
theorem a7R{S:cB}{cs:List Value}{d:bW}(h:aL.rd S w cs d):∃v0:Value,cs=[v0]/\aL.rd S w [v0] d.Rows:=by obtain⟨u0,q0⟩:=kK h;rw[q0] at h;exact⟨u0,q0,h⟩
theorem aJ0(d:bW):OP [v0] d [eM [v0] d.Rows]:=(show OP _ (aQZ d) _ from HH)
structure aA where
 Mem:Mem
 aC:aC
 aQ:List bW
 qU:List Int
 deriving DecidableEq,Inhabited
abbrev a7S(d:aA):=(d.Mem,d.aC,d.aQ,d.qU)
instance:aL aA:=aL.via a7S
instance:Fits aA:=Fits.via a7S
structure bR where
 Head:Int
 eB:Int
 dU:Int
 deriving DecidableEq,Inhabited
abbrev a7T(d:bR):=(d.Head,d.eB,d.dU)
instance:aL bR:=aL.via a7T
instance:Fits bR:=Fits.via a7T
theorem bIA{S:cB}{cs:List Value}{d:bR}(h:aL.rd S w cs d):cs=[VI d.Head,VI d.eB,VI d.dU]:=by obtain⟨c0,r0,e0,h0,n0⟩:=h;have q0:c0=[_]:=h0;obtain⟨c1,r1,e1,h1,n1⟩:=n0;have q1:c1=[_]:=h1;have q2:r1=[_]:=n1;exact by rw[e0,e1,q0,q1,q2];rfl
theorem a7U{S:cB}(d:bR):aL.rd S w [VI d.Head,VI d.eB,VI d.dU] d:=⟨[VI d.Head],[VI d.eB,VI d.dU],rfl,rfl,⟨[VI d.eB],[VI d.dU],rfl,rfl,rfl⟩⟩
instance:Flat bR:=⟨λh=>Flat.own_of (O:=Int×Int×Int) h,λh=>Flat.no (O:=Int×Int×Int) h⟩
theorem bIB(d:bR):OP [VI d.Head,VI d.eB,VI d.dU] d []:=(show OP _ (a7T d) _ from(eQ (c1:=[VI d.Head]) (A:=[]) (dZ rfl) (eQ (c1:=[VI d.eB]) (A:=[]) (dZ rfl) (dZ rfl) rfl) rfl))
structure gX where
 Key:Int
 dI:Int
 Next:Int
 deriving DecidableEq,Inhabited
abbrev a0H(d:gX):=(d.Key,d.dI,d.Next)
instance:aL gX:=aL.via a0H
instance:Fits gX:=Fits.via a0H
theorem a7V{S:cB}{cs:List Value}{d:gX}(h:aL.rd S w cs d):cs=[VI d.Key,VI d.dI,VI d.Next]:=by obtain⟨c0,r0,e0,h0,n0⟩:=h;have q0:c0=[_]:=h0;obtain⟨c1,r1,e1,h1,n1⟩:=n0;have q1:c1=[_]:=h1;have q2:r1=[_]:=n1;exact by rw[e0,e1,q0,q1,q2];rfl
theorem a7W{S:cB}(d:gX):aL.rd S w [VI d.Key,VI d.dI,VI d.Next] d:=⟨[VI d.Key],[VI d.dI,VI d.Next],rfl,rfl,⟨[VI d.dI],[VI d.Next],rfl,rfl,rfl⟩⟩
instance:Flat gX:=⟨λh=>Flat.own_of (O:=Int×Int×Int) h,λh=>Flat.no (O:=Int×Int×Int) h⟩
structure Sub where
 Kind:Int
 A:Int
 Pc:Int
 E:Int
 Row:Int
 B:Int
 H:Int
 Out:Int
 Code:Int
 gK:Bool
 deriving DecidableEq,Inhabited
abbrev bF5(d:Sub):=(d.Kind,d.A,d.Pc,d.E,d.Row,d.B,d.H,d.Out,d.Code,d.gK)
instance:aL Sub:=aL.via bF5
instance:Fits Sub:=Fits.via bF5
theorem bIC{S:cB}{cs:List Value}{d:Sub}(h:aL.rd S w cs d):cs=[VI d.Kind,VI d.A,VI d.Pc,VI d.E,VI d.Row,VI d.B,VI d.H,VI d.Out,VI d.Code,.bool d.gK]:=by obtain⟨c0,r0,e0,h0,n0⟩:=h;have q0:c0=[_]:=h0;obtain⟨c1,r1,e1,h1,n1⟩:=n0;have q1:c1=[_]:=h1;obtain⟨c2,r2,e2,h2,n2⟩:=n1;have q2:c2=[_]:=h2;obtain⟨c3,r3,e3,h3,n3⟩:=n2;have q3:c3=[_]:=h3;obtain⟨c4,r4,e4,h4,n4⟩:=n3;have q4:c4=[_]:=h4;obtain⟨c5,r5,e5,h5,n5⟩:=n4;have q5:c5=[_]:=h5;obtain⟨c6,r6,e6,h6,n6⟩:=n5;have q6:c6=[_]:=h6;obtain⟨c7,r7,e7,h7,n7⟩:=n6;have q7:c7=[_]:=h7;obtain⟨c8,r8,e8,h8,n8⟩:=n7;have q8:c8=[_]:=h8;have q9:r8=[_]:=n8;exact by rw[e0,e1,e2,e3,e4,e5,e6,e7,e8,q0,q1,q2,q3,q4,q5,q6,q7,q8,q9];rfl
theorem bID{S:cB}(d:Sub):aL.rd S w [VI d.Kind,VI d.A,VI d.Pc,VI d.E,VI d.Row,VI d.B,VI d.H,VI d.Out,VI d.Code,.bool d.gK] d:=⟨[VI d.Kind],[VI d.A,VI d.Pc,VI d.E,VI d.Row,VI d.B,VI d.H,VI d.Out,VI d.Code,.bool d.gK],rfl,rfl,⟨[VI d.A],[VI d.Pc,VI d.E,VI d.Row,VI d.B,VI d.H,VI d.Out,VI d.Code,.bool d.gK],rfl,rfl,⟨[VI d.Pc],[VI d.E,VI d.Row,VI d.B,VI d.H,VI d.Out,VI d.Code,.bool d.gK],rfl,rfl,⟨[VI d.E],[VI d.Row,VI d.B,VI d.H,VI d.Out,VI d.Code,.bool d.gK],rfl,rfl,⟨[VI d.Row],[VI d.B,VI d.H,VI d.Out,VI d.Code,.bool d.gK],rfl,rfl,⟨[VI d.B],[VI d.H,VI d.Out,VI d.Code,.bool d.gK],rfl,rfl,⟨[VI d.H],[VI d.Out,VI d.Code,.bool d.gK],rfl,rfl,⟨[VI d.Out],[VI d.Code,.bool d.gK],rfl,rfl,⟨[VI d.Code],[.bool d.gK],rfl,rfl,rfl⟩⟩⟩⟩⟩⟩⟩⟩⟩
instance:Flat Sub:=⟨λh=>Flat.own_of (O:=Int×Int×Int×Int×Int×Int×Int×Int×Int×Bool) h,λh=>Flat.no (O:=Int×Int×Int×Int×Int×Int×Int×Int×Int×Bool) h⟩
structure Seen where
 bR:Int
 eB:Int
 deriving DecidableEq,Inhabited
abbrev aW0(d:Seen):=(d.bR,d.eB)
instance:aL Seen:=aL.via aW0
instance:Fits Seen:=Fits.via aW0
theorem bC8{S:cB}{cs:List Value}{d:Seen}(h:aL.rd S w cs d):cs=[VI d.bR,VI d.eB]:=by obtain⟨c0,r0,e0,h0,n0⟩:=h;have q0:c0=[_]:=h0;have q1:r0=[_]:=n0;exact by rw[e0,q0,q1];rfl
instance:Flat Seen:=⟨λh=>Flat.own_of (O:=Int×Int) h,λh=>Flat.no (O:=Int×Int) h⟩
theorem bC9(d:Seen):OP [VI d.bR,VI d.eB] d []:=(show OP _ (aW0 d) _ from(eQ (c1:=[VI d.bR]) (A:=[]) (dZ rfl) (dZ rfl) rfl))
structure aU where
 Key:Int
 G3:Bool
 dI:Int
 deriving DecidableEq,Inhabited
abbrev aQ0(d:aU):=(d.Key,d.G3,d.dI)
instance:aL aU:=aL.via aQ0
instance:Fits aU:=Fits.via aQ0
theorem a7X{S:cB}{cs:List Value}{d:aU}(h:aL.rd S w cs d):cs=[VI d.Key,.bool d.G3,VI d.dI]:=by obtain⟨c0,r0,e0,h0,n0⟩:=h;have q0:c0=[_]:=h0;obtain⟨c1,r1,e1,h1,n1⟩:=n0;have q1:c1=[_]:=h1;have q2:r1=[_]:=n1;exact by rw[e0,e1,q0,q1,q2];rfl
theorem a7Y{S:cB}(d:aU):aL.rd S w [VI d.Key,.bool d.G3,VI d.dI] d:=⟨[VI d.Key],[.bool d.G3,VI d.dI],rfl,rfl,⟨[.bool d.G3],[VI d.dI],rfl,rfl,rfl⟩⟩
instance:Flat aU:=⟨λh=>Flat.own_of (O:=Int×Bool×Int) h,λh=>Flat.no (O:=Int×Bool×Int) h⟩
theorem a7Z(d:aU):OP [VI d.Key,.bool d.G3,VI d.dI] d []:=(show OP _ (aQ0 d) _ from(eQ (c1:=[VI d.Key]) (A:=[]) (dZ rfl) (eQ (c1:=[.bool d.G3]) (A:=[]) (dZ rfl) (dZ rfl) rfl) rfl))
structure fY where
 Is:Bool
 dI:Int
 deriving DecidableEq,Inhabited
abbrev a70(d:fY):=(d.Is,d.dI)
instance:aL fY:=aL.via a70
instance:Fits fY:=Fits.via a70
theorem bIE{S:cB}{cs:List Value}{d:fY}(h:aL.rd S w cs d):cs=[.bool d.Is,VI d.dI]:=by obtain⟨c0,r0,e0,h0,n0⟩:=h;have q0:c0=[_]:=h0;have q1:r0=[_]:=n0;exact by rw[e0,q0,q1];rfl
instance:Flat fY:=⟨λh=>Flat.own_of (O:=Bool×Int) h,λh=>Flat.no (O:=Bool×Int) h⟩
theorem bIF(d:fY):OP [.bool d.Is,VI d.dI] d []:=(show OP _ (a70 d) _ from(eQ (c1:=[.bool d.Is]) (A:=[]) (dZ rfl) (dZ rfl) rfl))
structure aI where
 bO:Bool
 Batch:Batch
 aG:Int
 Pc:Int
 At:Int
 K:Int
 bR:Int
 eB:Int
 H:Int
 gR:Int
 Node:gX
 Found:Bool
 Code:Int
 Sub:Sub
 Reads:List Seen
 aH:List aU
 fY:List fY
 gL:List Int
 bD:List Int
 cA:List Int
 deriving DecidableEq,Inhabited
abbrev aW1(d:aI):=(d.bO,d.Batch,d.aG,d.Pc,d.At,d.K,d.bR,d.eB,d.H,d.gR,d.Node,d.Found,d.Code,d.Sub,d.Reads,d.aH,d.fY,d.gL,d.bD,d.cA)
instance:aL aI:=aL.via aW1
instance:Fits aI:=Fits.via aW1
theorem bDA{S:cB}{cs:List Value}{d:aI}(h:aL.rd S w cs d):∃v0 v1 v2 v3 v4 v5 v6:Value,cs=[.bool d.bO,.bool d.Batch.Collect,v0,VI d.aG,VI d.Pc,VI d.At,VI d.K,VI d.bR,VI d.eB,VI d.H,VI d.gR,VI d.Node.Key,VI d.Node.dI,VI d.Node.Next,.bool d.Found,VI d.Code,VI d.Sub.Kind,VI d.Sub.A,VI d.Sub.Pc,VI d.Sub.E,VI d.Sub.Row,VI d.Sub.B,VI d.Sub.H,VI d.Sub.Out,VI d.Sub.Code,.bool d.Sub.gK,v1,v2,v3,v4,v5,v6]/\aL.rd S w [v0] d.Batch.bK/\aL.rd S w [v1] d.Reads/\aL.rd S w [v2] d.aH/\aL.rd S w [v3] d.fY/\aL.rd S w [v4] d.gL/\aL.rd S w [v5] d.bD/\aL.rd S w [v6] d.cA:=by obtain⟨c0,r0,e0,h0,n0⟩:=h;have q0:c0=[_]:=h0;obtain⟨c1,r1,e1,h1,n1⟩:=n0;obtain⟨u1_0,q1,hq1_0⟩:=aTX h1;obtain⟨c2,r2,e2,h2,n2⟩:=n1;have q2:c2=[_]:=h2;obtain⟨c3,r3,e3,h3,n3⟩:=n2;have q3:c3=[_]:=h3;obtain⟨c4,r4,e4,h4,n4⟩:=n3;have q4:c4=[_]:=h4;obtain⟨c5,r5,e5,h5,n5⟩:=n4;have q5:c5=[_]:=h5;obtain⟨c6,r6,e6,h6,n6⟩:=n5;have q6:c6=[_]:=h6;obtain⟨c7,r7,e7,h7,n7⟩:=n6;have q7:c7=[_]:=h7;obtain⟨c8,r8,e8,h8,n8⟩:=n7;have q8:c8=[_]:=h8;obtain⟨c9,r9,e9,h9,n9⟩:=n8;have q9:c9=[_]:=h9;obtain⟨c10,r10,e10,h10,n10⟩:=n9;have q10:=a7V h10;obtain⟨c11,r11,e11,h11,n11⟩:=n10;have q11:c11=[_]:=h11;obtain⟨c12,r12,e12,h12,n12⟩:=n11;have q12:c12=[_]:=h12;obtain⟨c13,r13,e13,h13,n13⟩:=n12;have q13:=bIC h13;obtain⟨c14,r14,e14,h14,n14⟩:=n13;obtain⟨u14,q14⟩:=kK h14;rw[q14] at h14;obtain⟨c15,r15,e15,h15,n15⟩:=n14;obtain⟨u15,q15⟩:=kK h15;rw[q15] at h15;obtain⟨c16,r16,e16,h16,n16⟩:=n15;obtain⟨u16,q16⟩:=kK h16;rw[q16] at h16;obtain⟨c17,r17,e17,h17,n17⟩:=n16;obtain⟨u17,q17⟩:=kK h17;rw[q17] at h17;obtain⟨c18,r18,e18,h18,n18⟩:=n17;obtain⟨u18,q18⟩:=kK h18;rw[q18] at h18;obtain⟨u19,q19⟩:=kK n18;rw[q19] at n18;exact⟨u1_0,u14,u15,u16,u17,u18,u19,by rw[e0,e1,e2,e3,e4,e5,e6,e7,e8,e9,e10,e11,e12,e13,e14,e15,e16,e17,e18,q0,q1,q2,q3,q4,q5,q6,q7,q8,q9,q10,q11,q12,q13,q14,q15,q16,q17,q18,q19];rfl,hq1_0,h14,h15,h16,h17,h18,n18⟩
theorem aQ1(d:aI){v1:Value}{v2:Value}{v3:Value}{v4:Value}{v5:Value}{v6:Value}:OP [.bool d.bO,.bool d.Batch.Collect,v0,VI d.aG,VI d.Pc,VI d.At,VI d.K,VI d.bR,VI d.eB,VI d.H,VI d.gR,VI d.Node.Key,VI d.Node.dI,VI d.Node.Next,.bool d.Found,VI d.Code,VI d.Sub.Kind,VI d.Sub.A,VI d.Sub.Pc,VI d.Sub.E,VI d.Sub.Row,VI d.Sub.B,VI d.Sub.H,VI d.Sub.Out,VI d.Sub.Code,.bool d.Sub.gK,v1,v2,v3,v4,v5,v6] d [eM [v0] d.Batch.bK,eM [v1] d.Reads,eM [v2] d.aH,eM [v3] d.fY,eM [v4] d.gL,eM [v5] d.bD,eM [v6] d.cA]:=(show OP _ (aW1 d) _ from(eQ (c1:=[.bool d.bO]) (A:=[]) (dZ rfl) (eQ (c1:=[.bool d.Batch.Collect,v0]) (A:=[eM [v0] d.Batch.bK]) (aTY _) (eQ (c1:=[VI d.aG]) (A:=[]) (dZ rfl) (eQ (c1:=[VI d.Pc]) (A:=[]) (dZ rfl) (eQ (c1:=[VI d.At]) (A:=[]) (dZ rfl) (eQ (c1:=[VI d.K]) (A:=[]) (dZ rfl) (eQ (c1:=[VI d.bR]) (A:=[]) (dZ rfl) (eQ (c1:=[VI d.eB]) (A:=[]) (dZ rfl) (eQ (c1:=[VI d.H]) (A:=[]) (dZ rfl) (eQ (c1:=[VI d.gR]) (A:=[]) (dZ rfl) (eQ (c1:=[VI d.Node.Key,VI d.Node.dI,VI d.Node.Next]) (A:=[]) (dZ (a7W _)) (eQ (c1:=[.bool d.Found]) (A:=[]) (dZ rfl) (eQ (c1:=[VI d.Code]) (A:=[]) (dZ rfl) (eQ (c1:=[VI d.Sub.Kind,VI d.Sub.A,VI d.Sub.Pc,VI d.Sub.E,VI d.Sub.Row,VI d.Sub.B,VI d.Sub.H,VI d.Sub.Out,VI d.Sub.Code,.bool d.Sub.gK]) (A:=[]) (dZ (bID _)) (eQ (c1:=[v1]) (A:=[eM [v1] d.Reads]) HH (eQ (c1:=[v2]) (A:=[eM [v2] d.aH]) HH (eQ (c1:=[v3]) (A:=[eM [v3] d.fY]) HH (eQ (c1:=[v4]) (A:=[eM [v4] d.gL]) HH (eQ (c1:=[v5]) (A:=[eM [v5] d.bD]) HH HH rfl) rfl) rfl) rfl) rfl) rfl) rfl) rfl) rfl) rfl) rfl) rfl) rfl) rfl) rfl) rfl) rfl) rfl) rfl))
structure mT where
 Kind:Int
 Who:Int
 aG:Int
 Code:Int
 bK:List iP
 fY:List fY
 deriving DecidableEq,Inhabited
abbrev a71(d:mT):=(d.Kind,d.Who,d.aG,d.Code,d.bK,d.fY)
instance:aL mT:=aL.via a71
instance:Fits mT:=Fits.via a71
theorem bIG{S:cB}{cs:List Value}{d:mT}(h:aL.rd S w cs d):∃v0 v1:Value,cs=[VI d.Kind,VI d.Who,VI d.aG,VI d.Code,v0,v1]/\aL.rd S w [v0] d.bK/\aL.rd S w [v1] d.fY:=by obtain⟨c0,r0,e0,h0,n0⟩:=h;have q0:c0=[_]:=h0;obtain⟨c1,r1,e1,h1,n1⟩:=n0;have q1:c1=[_]:=h1;obtain⟨c2,r2,e2,h2,n2⟩:=n1;have q2:c2=[_]:=h2;obtain⟨c3,r3,e3,h3,n3⟩:=n2;have q3:c3=[_]:=h3;obtain⟨c4,r4,e4,h4,n4⟩:=n3;obtain⟨u4,q4⟩:=kK h4;rw[q4] at h4;obtain⟨u5,q5⟩:=kK n4;rw[q5] at n4;exact⟨u4,u5,by rw[e0,e1,e2,e3,e4,q0,q1,q2,q3,q4,q5];rfl,h4,n4⟩
theorem bIH(d:mT){v1:Value}:OP [VI d.Kind,VI d.Who,VI d.aG,VI d.Code,v0,v1] d [eM [v0] d.bK,eM [v1] d.fY]:=(show OP _ (a71 d) _ from(eQ (c1:=[VI d.Kind]) (A:=[]) (dZ rfl) (eQ (c1:=[VI d.Who]) (A:=[]) (dZ rfl) (eQ (c1:=[VI d.aG]) (A:=[]) (dZ rfl) (eQ (c1:=[VI d.Code]) (A:=[]) (dZ rfl) (eQ (c1:=[v0]) (A:=[eM [v0] d.bK]) HH HH rfl) rfl) rfl) rfl) rfl))
structure Table where
 aA:aA
 aR:List bR
 aS:List aI
 eE:List aN
 Log:List mT
 aG:Int
 deriving DecidableEq,Inhabited
abbrev a0I(d:Table):=(d.aA,d.aR,d.aS,d.eE,d.Log,d.aG)
instance:aL Table:=aL.via a0I
instance:Fits Table:=Fits.via a0I
structure KV where
 Key:Int
 dI:Int
 deriving DecidableEq,Inhabited
abbrev bII(d:KV):=(d.Key,d.dI)
instance:aL KV:=aL.via bII
instance:Fits KV:=Fits.via bII
theorem bLA{S:cB}{cs:List Value}{d:KV}(h:aL.rd S w cs d):cs=[VI d.Key,VI d.dI]:=by obtain⟨c0,r0,e0,h0,n0⟩:=h;have q0:c0=[_]:=h0;have q1:r0=[_]:=n0;exact by rw[e0,q0,q1];rfl
theorem bLB{S:cB}(d:KV):aL.rd S w [VI d.Key,VI d.dI] d:=⟨[VI d.Key],[VI d.dI],rfl,rfl,rfl⟩
instance:Flat KV:=⟨λh=>Flat.own_of (O:=Int×Int) h,λh=>Flat.no (O:=Int×Int) h⟩
theorem bLC(d:KV):OP [VI d.Key,VI d.dI] d []:=(show OP _ (bII d) _ from(eQ (c1:=[VI d.Key]) (A:=[]) (dZ rfl) (dZ rfl) rfl))
end Go.Gv
end
