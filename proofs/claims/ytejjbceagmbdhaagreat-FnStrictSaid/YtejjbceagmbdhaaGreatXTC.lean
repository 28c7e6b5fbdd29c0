import Derived.Test.YtejjbceagmbdhaaGreatXTB
import Derived.Shelf.Slices.CompactI
import Derived.Shelf.Spec.SlicesInsertGrow
set_option linter.unusedVariables false
set_option linter.unusedSimpArgs false
set_option linter.unusedSectionVars false
set_option linter.constructorNameAsVariable false
set_option linter.unnecessarySimpa false
noncomputable section
namespace Go.Gv
universe u
theorem Q{α:Sort u}{a:α}:a=a:=Eq.refl a
def W{ρ:Type}(C:Prop)(r:ρ)(F:Option ρ):Prop:=F=some r->C
theorem wm{ρ:Type}{C:Prop}{r:ρ}{F F':Option ρ}(h:F'=F)(k:W C r F):W C r F':=h ▸ k
theorem wi{ρ:Type}{C:Prop}{r:ρ}{F:Option ρ}(h:F=some r)(k:W C r F):C:=k h
def VS(P:Program)(c:Ctx)(f:FuncId){ρ ex:Type}(F:Option ρ)(xs:List SV)(B0:Bl)(L0:List Ch)(sv:ρ->ex->SV)(Lf:ρ->ex->List Ch):Prop:=∀r,F=some r->FnS P f c xs B0 L0 sv Lf r
abbrev V0(P:Program)(c:Ctx)(f:FuncId){ρ:Type}(F:Option ρ)(xs:List SV)(sv:ρ->SV):Prop:=VS P c f F xs [] [] (fun r (_:Unit)=>sv r) (fun _ _=>[])
theorem VS.r{P:Program}{c:Ctx}{f:FuncId}{ρ ex:Type}{F:Option ρ}{xs:List SV}{B0:Bl}{L0:List Ch}{sv:ρ->ex->SV}{Lf:ρ->ex->List Ch}(h:VS P c f F xs B0 L0 sv Lf){r:ρ}(hF:F=some r):FnS P f c xs B0 L0 sv Lf r:=h r hF
def QR(P:Program)(fn:Func){rs:List ResultVar}(_:fn.results=rs.toArray)(c:Ctx)(B0:Bl){ρ ex:Type}(sv:ρ->ex->SV)(Lf:ρ->ex->List Ch)(r:ρ):Act->World->Prop:=QS P fn c B0 sv Lf r
def aSQ(T:TT)(rs:List ResultVar)(is:List Nat)(b0:Nat)(L2:List Ch):Stop->Option (SV×List Ch)
 | .ret m e L => match aFA T e L rs with
  | some x => match tF b0 (nbS x) with
   | true => match QH b0 m e L is b0 [] L2 with
    | some ([],L3)=>some (nbS x,L3)
    | _=>none
   | false=>none
  | none=>none
 | _=>none
def aOQ(is:List Nat)(b0 mj:Nat)(ej:SE)(Lj:List Ch):Stop->Option (SE×List Ch)
 | .fin m e L=>QH b0 m e L is mj ej Lj
 | _=>none
def exQ(is:List Nat)(id b0 mj:Nat)(ej:SE)(Lj:List Ch):Stop->Option (SE×List Ch)
 | .ex i m e L => match Nat.beq i id with
  | true=>QH b0 m e L is mj ej Lj
  | false=>none
 | _=>none
def a0U:Stop->Stop
 | .fin m e L=>.ret m e L
 | _=>.stuck
def ixT(T:TT)(t n:Nat):Bool:=match yS T t with
 | some ⟨.sl el, _, _, _⟩ => match yS T el with
  | some ⟨_,_,sz,_⟩=>Nat.beq n sz
  | none=>false
 | _=>false
noncomputable section
variable {P:Program} {T:TT} {hT:C9 P T} {n:Nat} {c:Ctx} {B0:Bl} {N:Act->World->Prop} {X:Nat->Act->World->Prop} {Q:Act->World->Prop} {K K':List Fr} {m m':Nat} {e e':SE} {L L' Lv:List Ch} {cf cf' cf1 cf2:rR} {o:Oper}
theorem cX(hT:C9 P T){f:FuncId}{fn:Func}{cd:Code}{xs:List SV}{L0:List Ch}{ρ ex:Type}{sv:ρ->ex->SV}{Lf:ρ->ex->List Ch}{F:Option ρ}{rs:List ResultVar}(hc:∀args w,(callFunc f args).run P w=.ok (.enter f args) w)(hf:P.funcs[f]?=some fn)(hr:fn.results=rs.toArray)(hb:fn.body=some cd)(hm:fn.ntmps=n)
  (k:∀{r},W (G (.mk P T hT n c B0 (QR P fn hr c B0 sv Lf r) (fun _ _ _=>False) (QR P fn hr c B0 sv Lf r)) [] B0.length (aD2 0 xs) L0 (.c cd)) r F) (hl:Nat.ble xs.length n=true:=by exact rfl):VS P c f F xs B0 L0 sv Lf:=
 fun _ hF=>en n hc hf hT hb hm hl (k hF)
theorem aM7{rs:List ResultVar}{is:List Nat}{b0:Nat}{L2 L3:List Ch}{s:SV}{st:Stop}(h:aSQ T rs is b0 L2 st=some (s,L3)):∃m' e' L' x,st=.ret m' e' L'/\aFA T e' L' rs=some x/\nbS x=s/\tF b0 s=true/\QH b0 m' e' L' is b0 [] L2=some ([],L3):=by
 unfold aSQ at h
 split at h
 ·split at h
  ·rename_i h1
   split at h
   ·rename_i h2
    split at h
    ·rename_i h3
     cases h
     exact⟨_,_,_,_,rfl,h1,rfl,h2,h3⟩
    ·cases h
   ·cases h
  ·cases h
 ·cases h
theorem lE{fn:Func}{ρ ex:Type}{sv:ρ->ex->SV}{Lf:ρ->ex->List Ch}{r r':ρ}{rs:List ResultVar}{hr:fn.results=rs.toArray}{zz:Option ρ}(y:ex)(is:List Nat)(hz:zz=some r')(h:aSQ T rs is B0.length (Lf r' y) (iW T n K cf m e L)=some (sv r' y,Lf r' y)):W (G (.mk P T hT n c B0 N X (QR P fn hr c B0 sv Lf r)) K m e L cf) r zz:=fun hF=>by
 obtain⟨_,_,_,_,h1,h2,h3,h4,h5⟩:=aM7 h
 exact rt y is hF hz h1 hr h2 h3 h4 h5
theorem eJ{fn:Func}{ρ:Type}{sv:ρ->Unit->SV}{Lf:ρ->Unit->List Ch}{r r':ρ}{rs:List ResultVar}{hr:fn.results=rs.toArray}{zz:Option ρ}(hz:zz=some r')(h:aSQ T rs [] B0.length (Lf r' ()) (iW T n K cf m e L)=some (sv r' (),Lf r' ())):W (G (.mk P T hT n c B0 N X (QR P fn hr c B0 sv Lf r)) K m e L cf) r zz:=lE () [] hz h
theorem BH{fn:Func}{ρ ex:Type}{sv:ρ->ex->SV}{Lf:ρ->ex->List Ch}{r r':ρ}{rs:List ResultVar}{hr:fn.results=rs.toArray}{zz:Option ρ}(y:ex)(is:List Nat)(hz:zz=some r')(h:aSQ T rs is B0.length (Lf r' y) (a0U (iW T n K cf m e L))=some (sv r' y,Lf r' y)):W (G (.mk P T hT n c B0 (QR P fn hr c B0 sv Lf r) X Q) K m e L cf) r zz:=fun hF=>by
 obtain⟨m',e',L',_,h1,h2,h3,h4,h5⟩:=aM7 h
 refine rf y is hF hz (m':=m') (e':=e') (L':=L') ?_ hr h2 h3 h4 h5
 unfold a0U at h1
 split at h1
 ·rename_i h0;rw [h0];cases h1;rfl
 ·cases h1
theorem aM8{is:List Nat}{b0 mj:Nat}{ej e3:SE}{Lj L3:List Ch}{st:Stop}(h:aOQ is b0 mj ej Lj st=some (e3,L3)):∃m' e' L',st=.fin m' e' L'/\QH b0 m' e' L' is mj ej Lj=some (e3,L3):=by
 unfold aOQ at h
 split at h
 ·exact⟨_,_,_,rfl,h⟩
 ·cases h
theorem qH{π υ α:Type}{eq:π->Prop}{mj:Nat}{ej:π->υ->SE}{Lj:π->υ->List Ch}{p:π}{q:α}{zz:Option α}(u:υ)(is:List Nat)(hz:(zz=some q)=eq p)(h:aOQ is B0.length mj (ej p u) (Lj p u) (iW T n K cf m e L)=some (ej p u,Lj p u)):W (G (.mk P T hT n c B0 (JP n c B0 eq mj ej Lj) X Q) K m e L cf) q zz:=fun hF=>by
 obtain⟨_,_,_,h1,h2⟩:=aM8 h
 exact jn u is (hz ▸ hF) h1 h2
theorem cY{π α:Type}{eq:π->Prop}{mj:Nat}{ej:π->Unit->SE}{Lj:π->Unit->List Ch}{p:π}{q:α}{zz:Option α}(is:List Nat)(hz:(zz=some q)=eq p)(h:aOQ is B0.length mj (ej p ()) (Lj p ()) (iW T n K cf m e L)=some (ej p (),Lj p ())):W (G (.mk P T hT n c B0 (JP n c B0 eq mj ej Lj) X Q) K m e L cf) q zz:=qH () is hz h
theorem nxW{σ ρ υ:Type}{o:Step σ ρ}{mj:Nat}{el:σ->υ->SE}{Ll:σ->υ->List Ch}{s:σ}(u:υ)(is:List Nat)(h:aOQ is B0.length mj (el s u) (Ll s u) (iW T n K cf m e L)=some (el s u,Ll s u)):W (G (.mk P T hT n c B0 (NxP n c B0 o mj el Ll) X Q) K m e L cf) o (some (Step.next s)):=fun hF=>by
 obtain⟨_,_,_,h1,h2⟩:=aM8 h
 exact nx u is hF h1 h2
theorem QO{σ ρ:Type}{o:Step σ ρ}{mj:Nat}{el:σ->Unit->SE}{Ll:σ->Unit->List Ch}{s:σ}(is:List Nat)(h:aOQ is B0.length mj (el s ()) (Ll s ()) (iW T n K cf m e L)=some (el s (),Ll s ())):W (G (.mk P T hT n c B0 (NxP n c B0 o mj el Ll) X Q) K m e L cf) o (some (Step.next s)):=nxW () is h
def BkR(n:Nat)(c:Ctx)(B0:Bl){β ρ σ υ:Type}{o:Step σ ρ}{ro:ρ}(_:∀p,o=.stop p->p=ro)(enc:β->ρ)(m:Nat)(ej:β->υ->SE)(Lj:β->υ->List Ch)(id:Nat)(X:Nat->Act->World->Prop):Nat->Act->World->Prop:=BkP n c B0 ro enc m ej Lj id X
theorem bkW{σ ρ β υ:Type}{o:Step σ ρ}{ro:ρ}{enc:β->ρ}{mj id:Nat}{ej:β->υ->SE}{Lj:β->υ->List Ch}{b:β}{hr:∀p,o=.stop p->p=ro}(u:υ)(is:List Nat)(h:exQ is id B0.length mj (ej b u) (Lj b u) (iW T n K cf m e L)=some (ej b u,Lj b u)):W (G (.mk P T hT n c B0 N (BkR n c B0 hr enc mj ej Lj id X) Q) K m e L cf) o (some (Step.stop (enc b))):=fun hF=>by
 unfold exQ at h
 split at h
 ·rename_i h0
  split at h
  ·rename_i hb
   rw [i5 hb] at h0
   exact bk u is hF hr h0 h
  ·cases h
 ·cases h
theorem OC{σ ρ β:Type}{o:Step σ ρ}{ro:ρ}{enc:β->ρ}{mj id:Nat}{ej:β->Unit->SE}{Lj:β->Unit->List Ch}{b:β}{hr:∀p,o=.stop p->p=ro}(is:List Nat)(h:exQ is id B0.length mj (ej b ()) (Lj b ()) (iW T n K cf m e L)=some (ej b (),Lj b ())):W (G (.mk P T hT n c B0 N (BkR n c B0 hr enc mj ej Lj id X) Q) K m e L cf) o (some (Step.stop (enc b))):=bkW () is h
theorem U0{σ ρ α:Type}{o:Step σ ρ}{p ro:ρ}{F:ρ->Option α}{q:α}{C:Prop}(hr:∀p,o=.stop p->p=ro)(hF:F ro=some q)(k:W C q (F p)):W C o (some (Step.stop p)):=fun h=>k (re h rfl hr hF)
noncomputable section
variable {b:Bool} {α:Type} {A B':Option α} {q:α}
theorem bY{o:Operand}{x y:Code}(ss:List Nat)(hs:iW T n K cf m e L=.cond o b x y K' m' e' L')(ho:aR (BV e') ss=some (ss.map fun _=>SV.b b))
  (k1:W (G (.mk P T hT n c B0 N X Q) K' m' (ovr true e' ss) L' (.c x)) q A) (k2:W (G (.mk P T hT n c B0 N X Q) K' m' (ovr false e' ss) L' (.c y)) q B'):W (G (.mk P T hT n c B0 N X Q) K m e L cf) q (if b=true then A else B'):=fun hF=>cs ss hs ho hF k1 k2
theorem iV(ss:List Nat)(hs:iW T n K cf m e L=.case b cf' K' m' e' L')(ho:aR (BV e') ss=some (ss.map fun _=>SV.b b))
  (k1:W (G (.mk P T hT n c B0 N X Q) K' m' (ovr true e' ss) L' cf') q A) (k2:W (G (.mk P T hT n c B0 N X Q) K' m' (ovr false e' ss) L' cf') q B'):W (G (.mk P T hT n c B0 N X Q) K m e L cf) q (if b=true then A else B'):=fun hF=>ca ss hs ho hF k1 k2
end
noncomputable section
variable {α β:Type} {fo:Option α} {kf:α->Option β} {q:β} {d:Nat} {f:FuncId} {xs:List SV}
theorem c0{sv:α->SV}(hs:iW T n K cf m e L=.call o (some d) f xs cf1 cf2 K' m' e' L')
  (hc:∀{w},HS c w L'->V0 P (bT w) f fo xs sv) (k:∀x,W (G (.mk P T hT n c B0 N X Q) K' m' ((d,sv x) :: e') L' cf2) q (kf x)):W (G (.mk P T hT n c B0 N X Q) K m e L cf) q (fo.bind kf):=fun hF=>cl0 hs (fun h _ hx=>hc h _ hx) hF fun x _ h=>k x h
theorem c1{ex:Type}{sv:α->ex->SV}{Lf:α->ex->List Ch}(hs:iW T n K cf m e L=.call o (some d) f xs cf1 cf2 K' m' e' L')
  (hc:∀{w},HS c w L'->VS P (bT w) f fo xs [] [] sv Lf) (k:∀x,∀y:ex,W (G (.mk P T hT n c B0 N X Q) K' m' ((d,sv x y) :: e') (L'++Lf x y) cf2) q (kf x)) (hn:∀x y,noF (Lf x y)=true:=by exact fun _ _=>rfl):W (G (.mk P T hT n c B0 N X Q) K m e L cf) q (fo.bind kf):=fun hF=>cl hs hn (fun h _ hx=>hc h _ hx) hF fun x _ h y=>k x y h
theorem JC{β:Type}{kf:α->Option β}{q:β}{iR:aC α}(C:CB α){d t:Nat}{s:AC}{i:Int}{ls:List α}(hs:iW T n K cf m e L=.idx o d t s ls.length i Lv cf1 cf2 K' m' e' L')(h1:cZ c s ls)(ht:ixT T t (aC.n α)=true)
  (k:∀x,∀y:C.ex,C.sub c.S0 c.w0 x y->W (G (.mk P T hT n c B0 N X Q) K' (m'+1) ((d,.p m' 0) :: e') (L' ++ [.ro m' (C.cs x y)]) (cf2.ext [.ro m' (C.cs x y)])) q (kf x)):W (G (.mk P T hT n c B0 N X Q) K m e L cf) q ((idx ls i).bind kf):=fun hF=>by
 unfold ixT at ht
 split at ht
 ·rename_i h2
  split at ht
  ·rename_i h3
   exact ix C hs h1 hF h2 h3 (i5 ht) fun x _ h y hy=>k x y hy h
  ·cases ht
 ·cases ht
theorem ixI{β:Type}{kf:Int->Option β}{q:β}{d t:Nat}{s:AC}{i:Int}{ls:List Int}(hs:iW T n K cf m e L=.idx o d t s ls.length i Lv cf1 cf2 K' m' e' L')(h1:cZ c s ls)(ht:ixT T t 1=true)
  (k:∀x,W (G (.mk P T hT n c B0 N X Q) K' (m'+1) ((d,.p m' 0) :: e') (L' ++ [.ro m' [.i .i64 x]]) (cf2.ext [.ro m' [.i .i64 x]])) q (kf x)):W (G (.mk P T hT n c B0 N X Q) K m e L cf) q ((idx ls i).bind kf):=JC cI hs h1 ht fun x _ _=>k x
theorem jZ(hm:P.follows .mixedOrders=true){id:Nat}{ops:Array Oper}{zz:Option β}(is:List Nat)(hs:iW T n K cf m e L=.rgn id ops K' m' e' L')
  (k:∀{B1},W (G (.mk P T hT n c B0 N X Q) K' m' e' L' (.d B1 ops (List.replicate ops.size false) is (kl L' is) (kl L' is))) q zz) (hf:(aHH ops && (okL m' (kl L' is) && (cJ is && is.all fun j=>Nat.blt j L'.length)))=true:=by kernel_rfl):W (G (.mk P T hT n c B0 N X Q) K m e L cf) q zz:=fun hF=>dr is hs hm hf fun _=>k hF
theorem dZ{π υ:Type}{zz:Option β}(j mj:Nat)(Fj:π->Option β)(ks:List Nat)(ej:π->υ->SE)(is:List Nat)(Lj:π->υ->List Ch)(hs:QY (iW T n K cf m e L)=some (K',cf',m',e',L'))
  (k1:W (G (.mk P T hT n c B0 (JP n c B0 (fun p=>Fj p=some q) mj (fun p u=>ej p u++kp e' ks) (fun p u=>Lj p u++kl L' is)) (XK (.mk P T hT n c B0 N X Q) (K'.drop j)) Q) (K'.take j) m' e' L' cf') q zz)
  (k2:∀p u,W (G (.mk P T hT n c B0 N X Q) (K'.drop j) mj (ej p u++kp e' ks) (Lj p u++kl L' is) .n) q (Fj p)):W (G (.mk P T hT n c B0 N X Q) K m e L cf) q zz:=fun hF=>cut j mj (fun p=>Fj p=some q) ks ej is Lj hs (k1 hF) fun p u h=>k2 p u h
theorem fW{zz:Option β}(j mj:Nat)(Fj:Bool->Option β)(ks:List Nat)(v:Nat)(is:List Nat)(hs:QY (iW T n K cf m e L)=some (K',cf',m',e',L'))
  (k1:W (G (.mk P T hT n c B0 (JP n c B0 (fun p=>Fj p=some q) mj (fun p (_:Unit)=>[(v,.b p)]++kp e' ks) (fun _ _=>[]++kl L' is)) (XK (.mk P T hT n c B0 N X Q) (K'.drop j)) Q) (K'.take j) m' e' L' cf') q zz)
  (k2:∀p,W (G (.mk P T hT n c B0 N X Q) (K'.drop j) mj ([(v,.b p)]++kp e' ks) ([]++kl L' is) .n) q (Fj p)):W (G (.mk P T hT n c B0 N X Q) K m e L cf) q zz:=dZ j mj Fj ks (fun p (_:Unit)=>[(v,.b p)]) is (fun _ _=>[]) hs k1 fun p _=>k2 p
theorem R8{σ ρ υ γ ω:Type}{id:Nat}{y:Code}{fb:σ->Option (Step σ ρ)}{s0:σ}{gk:ρ->Option β}(u0:υ)(ks:List Nat)(el:σ->υ->SE)(is0 is:List Nat)(Ll:σ->υ->List Ch)(enc:γ->ρ)(kb:List Nat)(ej:γ->ω->SE)(ib:List Nat)(Lj:γ->ω->List Ch)
  (hs:iW T n K cf m e L=.loop id y K' m' e' L')
  (h0:QH B0.length m' e' L' is0 m' (el s0 u0++kp e' ks) (Ll s0 u0++kl L' is)=some (el s0 u0++kp e' ks,Ll s0 u0++kl L' is))
  (k1:∀{ro o},gk ro=some q->∀s u,(hr:∀p,o=.stop p->p=ro)->W (G (.mk P T hT n c B0 (NxP n c B0 o m' (fun s u=>el s u++kp e' ks) (fun s u=>Ll s u++kl L' is)) (BkR n c B0 hr enc m' (fun b u=>ej b u++kp e' kb) (fun b u=>Lj b u++kl L' ib) id (XK (.mk P T hT n c B0 N X Q) K')) Q) [] m' (el s u++kp e' ks) (Ll s u++kl L' is) (.c y)) o (fb s))
  (k2:∀b u,W (G (.mk P T hT n c B0 N X Q) K' m' (ej b u++kp e' kb) (Lj b u++kl L' ib) .n) q (gk (enc b))):W (G (.mk P T hT n c B0 N X Q) K m e L cf) q ((loop fb s0).bind gk):=fun hF=>
 lp u0 ks el is0 is Ll enc kb ej ib Lj hs hF h0 (fun ro h1 s u o h2 h3=>k1 h1 s u h3 h2) fun b u h=>k2 b u h
theorem WQ{ρ:Type}{id:Nat}{y:Code}{fb:Int->Option (Step Int ρ)}{s0:Int}{gk:ρ->Option β}(v:Nat)(ks:List Nat)(is:List Nat)(enc:Unit->ρ)(kb:List Nat)(ib:List Nat)
  (hs:iW T n K cf m e L=.loop id y K' m' e' L')
  (h0:QH B0.length m' e' L' is m' ([(v,.i .i64 s0)]++kp e' ks) ([]++kl L' is)=some ([(v,.i .i64 s0)]++kp e' ks,[]++kl L' is))
  (k1:∀{ro o},gk ro=some q->∀s,(hr:∀p,o=.stop p->p=ro)->W (G (.mk P T hT n c B0 (NxP n c B0 o m' (fun s (_:Unit)=>[(v,.i .i64 s)]++kp e' ks) (fun _ _=>[]++kl L' is)) (BkR n c B0 hr enc m' (fun _ (_:Unit)=>[]++kp e' kb) (fun _ _=>[]++kl L' ib) id (XK (.mk P T hT n c B0 N X Q) K')) Q) [] m' ([(v,.i .i64 s)]++kp e' ks) ([]++kl L' is) (.c y)) o (fb s))
  (k2:W (G (.mk P T hT n c B0 N X Q) K' m' ([]++kp e' kb) ([]++kl L' ib) .n) q (gk (enc ()))):W (G (.mk P T hT n c B0 N X Q) K m e L cf) q ((loop fb s0).bind gk):=
 R8 () ks (fun s (_:Unit)=>[(v,.i .i64 s)]) is is (fun _ _=>[]) enc kb (fun _ (_:Unit)=>[]) ib (fun _ _=>[]) hs h0 (fun h s _ hr=>k1 h s hr) fun _ _=>k2
theorem lrW{σ ρ υ:Type}{id:Nat}{y:Code}{fb:σ->Option (Step σ ρ)}{s0:σ}{gk:ρ->Option β}(u0:υ)(ks:List Nat)(el:σ->υ->SE)(is0 is:List Nat)(Ll:σ->υ->List Ch)
  (hs:iW T n K cf m e L=.loop id y K' m' e' L')
  (h0:QH B0.length m' e' L' is0 m' (el s0 u0++kp e' ks) (Ll s0 u0++kl L' is)=some (el s0 u0++kp e' ks,Ll s0 u0++kl L' is))
  (k1:∀{ro o},gk ro=some q->∀s u,(hr:∀p,o=.stop p->p=ro)->W (G (.mk P T hT n c B0 (NxP n c B0 o m' (fun s u=>el s u++kp e' ks) (fun s u=>Ll s u++kl L' is)) (BkP n c B0 ro (fun b:Empty=>nomatch b) m' (fun(b:Empty) (_:Unit)=>nomatch b) (fun b _=>nomatch b) id (XK (.mk P T hT n c B0 N X Q) K')) Q) [] m' (el s u++kp e' ks) (Ll s u++kl L' is) (.c y)) o (fb s)):W (G (.mk P T hT n c B0 N X Q) K m e L cf) q ((loop fb s0).bind gk):=fun hF=>
 lr u0 ks el is0 is Ll hs hF h0 fun ro h1 s u o h2 h3=>k1 h1 s u h3 h2
theorem mC{β:Type}{kf:α->Option β}{q:β}[aC α](E:CO α)(j:Nat){t:TypeId}{s:AC}{i:Int}{ls:List α}(hs:iW T n K cf m e L=.idx o d t s ls.length i Lv cf1 cf2 K' m' e' L')(hj:L'[j]?=some (ow s ls))(hz:eZ j cf1.uR=true)
  (k:∀x,idx ls i=some x->∀y:E.ex,Shp s ls.length->W (G (.mk P T hT n c B0 N X Q) K' (m'+1) e' (L'.set j .no++([.o (oX (s.v ls.length) ls i.toNat),.box m' (E.cs x y),wOf α m' s ls.length i.toNat]++E.Lx x y)) (cf1.ext [wOf α m' s ls.length i.toNat])) q (kf x)):W (G (.mk P T hT n c B0 N X Q) K m e L cf) q ((idx ls i).bind kf):=fun hF=>oe E j hs hj hz hF fun x h1 h2 y h3=>k x h1 y h3 h2
end
noncomputable section
variable {α β ex:Type} {fo:Option α} {kf:α->Option β} {q:β} {d:Option Nat} {f:FuncId} {xs xs0:List SV} {M:List Ch} {sv:α->ex->SV} {Lr:α->ex->List Ch}
theorem HM(is:List Nat)
  (hs:cpS (iW T n K cf m e L)=some (o,d,f,xs,cf1,cf2,K',m',e',L')) (hi:aR (fun i=>L'[i]?) is=some M) (hx:aR (rnP [] 0) xs=some xs0)
  (hk:(DA M && (cJ is && is.all fun j=>eZ j cf1.uR))=true)
  (hc:∀{κ:Ctx},HG c κ L' is->VS P κ f fo xs0 [] M sv Lr)
  (k:∀x,∀y:ex,W (G (.mk P T hT n c B0 N X Q) K' m' (W3 d (sv x y) e') (D3 L' is++Lr x y) cf2) q (kf x)) (hn:∀x y,(DA (Lr x y) && tF 0 (sv x y))=true:=by exact fun _ _=>rfl):W (G (.mk P T hT n c B0 N X Q) K m e L cf) q (fo.bind kf):=fun hF=>
 cw0 is hs hi hx hk hn (fun h _ hx=>hc h _ hx) hF fun x _ h y=>k x y h
theorem dR{c1:List SV}{a1:α->ex->List SV}(i1 n1 o1 k1:Nat)(is:List Nat)
  (hs:cpS (iW T n K cf m e L)=some (o,d,f,xs,cf1,cf2,K',m',e',L')) (hb:Z8 L' [(i1,n1,o1,k1)]=some [c1]) (hi:aR (fun i=>L'[i]?) is=some M) (hx:aR (rnP [(i1,n1,o1,k1)] 0) xs=some xs0)
  (hk:(DA M && ([c1].all (tF.okC 0) && (cJ (i1 :: is) && (i1 :: is).all fun j=>eZ j cf1.uR)))=true)
  (hc:∀{κ:Ctx},HG c κ L' (i1 :: is)->∀{b1:Nat×Nat},VS P κ f fo xs0 [b1] (.box 0 c1 :: M) sv (fun x y=>.box 0 (a1 x y) :: Lr x y))
  (k:∀x,∀y:ex,W (G (.mk P T hT n c B0 N X Q) K' m' (W3 d (sv x y) e') (HL L' (D3 L' (i1 :: is)++Lr x y) [(i1,n1,o1,k1)] [a1 x y]) cf2) q (kf x)) (hn:∀x y,(TB [(i1,n1,o1,k1)] [a1 x y] && ([a1 x y].all (tF.okC 0) && (DA (Lr x y) && tF 0 (sv x y))))=true:=by exact fun _ _=>rfl):W (G (.mk P T hT n c B0 N X Q) K m e L cf) q (fo.bind kf):=fun hF=>
 cw1 i1 n1 o1 k1 is hs hb hi hx hk hn (fun h _ _ hx=>hc h _ hx) hF fun x _ h y=>k x y h
theorem aFV{c1 c2:List SV}{a1 a2:α->ex->List SV}(i1 n1 o1 k1:Nat)(i2 n2 o2 k2:Nat)(is:List Nat)
  (hs:cpS (iW T n K cf m e L)=some (o,d,f,xs,cf1,cf2,K',m',e',L')) (hb:Z8 L' [(i1,n1,o1,k1),(i2,n2,o2,k2)]=some [c1,c2]) (hi:aR (fun i=>L'[i]?) is=some M) (hx:aR (rnP [(i1,n1,o1,k1),(i2,n2,o2,k2)] 0) xs=some xs0)
  (hk:(DA M && ([c1,c2].all (tF.okC 0) && (cJ (i1 :: i2 :: is) && (i1 :: i2 :: is).all fun j=>eZ j cf1.uR)))=true)
  (hc:∀{κ:Ctx},HG c κ L' (i1 :: i2 :: is)->∀{b1 b2:Nat×Nat},VS P κ f fo xs0 [b1,b2] (.box 0 c1 :: .box 1 c2 :: M) sv (fun x y=>.box 0 (a1 x y) :: .box 1 (a2 x y) :: Lr x y))
  (k:∀x,∀y:ex,W (G (.mk P T hT n c B0 N X Q) K' m' (W3 d (sv x y) e') (HL L' (D3 L' (i1 :: i2 :: is)++Lr x y) [(i1,n1,o1,k1),(i2,n2,o2,k2)] [a1 x y,a2 x y]) cf2) q (kf x)) (hn:∀x y,(TB [(i1,n1,o1,k1),(i2,n2,o2,k2)] [a1 x y,a2 x y] && ([a1 x y,a2 x y].all (tF.okC 0) && (DA (Lr x y) && tF 0 (sv x y))))=true:=by exact fun _ _=>rfl):W (G (.mk P T hT n c B0 N X Q) K m e L cf) q (fo.bind kf):=fun hF=>
 cw2 i1 n1 o1 k1 i2 n2 o2 k2 is hs hb hi hx hk hn (fun h _ _ _ hx=>hc h _ hx) hF fun x _ h y=>k x y h
theorem a2H{c1 c2 c3:List SV}{a1 a2 a3:α->ex->List SV}(i1 n1 o1 k1:Nat)(i2 n2 o2 k2:Nat)(i3 n3 o3 k3:Nat)(is:List Nat)
  (hs:cpS (iW T n K cf m e L)=some (o,d,f,xs,cf1,cf2,K',m',e',L')) (hb:Z8 L' [(i1,n1,o1,k1),(i2,n2,o2,k2),(i3,n3,o3,k3)]=some [c1,c2,c3]) (hi:aR (fun i=>L'[i]?) is=some M) (hx:aR (rnP [(i1,n1,o1,k1),(i2,n2,o2,k2),(i3,n3,o3,k3)] 0) xs=some xs0)
  (hk:(DA M && ([c1,c2,c3].all (tF.okC 0) && (cJ (i1 :: i2 :: i3 :: is) && (i1 :: i2 :: i3 :: is).all fun j=>eZ j cf1.uR)))=true)
  (hc:∀{κ:Ctx},HG c κ L' (i1 :: i2 :: i3 :: is)->∀{b1 b2 b3:Nat×Nat},VS P κ f fo xs0 [b1,b2,b3] (.box 0 c1 :: .box 1 c2 :: .box 2 c3 :: M) sv (fun x y=>.box 0 (a1 x y) :: .box 1 (a2 x y) :: .box 2 (a3 x y) :: Lr x y))
  (k:∀x,∀y:ex,W (G (.mk P T hT n c B0 N X Q) K' m' (W3 d (sv x y) e') (HL L' (D3 L' (i1 :: i2 :: i3 :: is)++Lr x y) [(i1,n1,o1,k1),(i2,n2,o2,k2),(i3,n3,o3,k3)] [a1 x y,a2 x y,a3 x y]) cf2) q (kf x)) (hn:∀x y,(TB [(i1,n1,o1,k1),(i2,n2,o2,k2),(i3,n3,o3,k3)] [a1 x y,a2 x y,a3 x y] && ([a1 x y,a2 x y,a3 x y].all (tF.okC 0) && (DA (Lr x y) && tF 0 (sv x y))))=true:=by exact fun _ _=>rfl):W (G (.mk P T hT n c B0 N X Q) K m e L cf) q (fo.bind kf):=fun hF=>
 cw3 i1 n1 o1 k1 i2 n2 o2 k2 i3 n3 o3 k3 is hs hb hi hx hk hn (fun h _ _ _ _ hx=>hc h _ hx) hF fun x _ h y=>k x y h
end
theorem aOR{α β:Type}{iR:aC α}{C:CB α}{sr:β->SV}{g:FuncId}{w:World}{p:α->Option β}(hc:∀args w,(callFunc g args).run P w=.ok (.enter g args) w)(hn:∀{κ:Ctx} {x y},C.sub κ.S0 κ.w0 x y->V0 P κ g (p x) [C.sv x y] sr):SS P (bT w) C sr g [] p:=fu1 hc (by intro κ x y h q hq;exact hn h _ hq)
theorem aCI{α β:Type}{iR:aC α}{C:CB α}{sr:β->SV}{g:FuncId}{w:World}{Bs:Bl}{cs:List (Nat×List SV)}{p:α->Option β}(hc:∀args w,(callFunc g args).run P w=.ok (.enter g args) w)(hB:∀w1,dC F0 w w1->j5 (bT w1) w1 Bs (roL 0 cs))(hl:aR (dU Bs) (aR1 0 cs)=some (HK Bs))(hn:∀{w1 x y},dC F0 w w1->C.sub (KH w1) w1 x y->VS P (bT w1) g (p x) (C.sv x y :: aR1 0 cs) Bs (roL 0 cs) (fun r (_:Unit)=>sr r) (fun _ _=>[]))(hz:∀q,tF 0 (sr q)=true:=by exact fun _=>rfl):SS P (bT w) C sr g (HK Bs) p:=fk1 hc hB hl hz (by intro w1 x y h h' q hq;exact hn h h' _ hq)
noncomputable section
variable {α β:Type} {fo:Option α} {kf:α->Option β} {q:β} {d:Nat} {f g:FuncId} {xs:List SV} {sv:α->SV}
theorem aHX{n1:Nat}{c1:List SV}(is:List Nat)(hs:iW T n K cf m e L=.callp o (some d) f xs cf1 cf2 K' m' e' L')(hk:kl L' is=[.ro n1 c1])(ho:(aCG [(n1,c1)] && okA xs.dropLast)=true)(hx:xs=xs.dropLast ++ [.f g [n1]])
  (hc:∀{w},HS c w L'->∀{b1:Nat×Nat},(∀w1,dC F0 w w1->j5 (bT w1) w1 [b1] [.ro 0 c1])->V0 P (bT w) f fo (xs.dropLast ++ [.k (.func (.func g) #[] (HK [b1]).toArray)]) sv)
  (k:∀x,W (G (.mk P T hT n c B0 N X Q) K' m' ((d,sv x) :: e') L' cf2) q (kf x)):W (G (.mk P T hT n c B0 N X Q) K m e L cf) q (fo.bind kf):=fun hF=>
 a18 is hs hk ho hx (fun h _ h2 _ hx=>hc h h2 _ hx) hF fun x _ h=>k x h
theorem a0V{n1 n2:Nat}{c1 c2:List SV}(is:List Nat)(hs:iW T n K cf m e L=.callp o (some d) f xs cf1 cf2 K' m' e' L')(hk:kl L' is=[.ro n1 c1,.ro n2 c2])(ho:(aCG [(n1,c1),(n2,c2)] && okA xs.dropLast)=true)(hx:xs=xs.dropLast ++ [.f g [n1,n2]])
  (hc:∀{w},HS c w L'->∀{b1 b2:Nat×Nat},(∀w1,dC F0 w w1->j5 (bT w1) w1 [b1,b2] [.ro 0 c1,.ro 1 c2])->V0 P (bT w) f fo (xs.dropLast ++ [.k (.func (.func g) #[] (HK [b1,b2]).toArray)]) sv)
  (k:∀x,W (G (.mk P T hT n c B0 N X Q) K' m' ((d,sv x) :: e') L' cf2) q (kf x)):W (G (.mk P T hT n c B0 N X Q) K m e L cf) q (fo.bind kf):=fun hF=>
 a19 is hs hk ho hx (fun h _ _ h2 _ hx=>hc h h2 _ hx) hF fun x _ h=>k x h
end
end
end Go.Gv
end
noncomputable section
namespace Go.Gv
def pV(y:Nat×Nat):Value:=.pointer (some ⟨y.1,y.2,none⟩)
noncomputable section
variable {P:Program} {T:TT} {hT:C9 P T} {n:Nat} {c:Ctx} {B0:Bl} {N:Act->World->Prop} {X:Nat->Act->World->Prop} {Q:Act->World->Prop} {K K':List Fr} {m m':Nat} {e e':SE} {L L':List Ch} {cf cf1 cf2:rR} {o:Oper}
abbrev VP(P:Program)(c:Ctx)(f:FuncId){ρ:Type}(F:Option ρ)(xs:List SV)(cs:ρ->List SV):Prop:=VS P c f F xs [] [] (fun _ (y:Nat×Nat)=>.k (pV y)) (fun r y=>[.o (LZ [y] 0 (cs r))])
theorem rtP{fn:Func}{ρ:Type}{r r':ρ}{t:Nat}{hr:fn.results=[ResultVar.tmp t].toArray}{zz:Option ρ}{cs:ρ->List SV}(is:List Nat)(hz:zz=some r')(hs:iW T n K cf m e L=.ret m' e' L')(hL:QH 0 m' e' L' is 1 [(t,.p 0 0)] [.box 0 (cs r')]=some ([(t,.p 0 0)],[.box 0 (cs r')]))(ho:tF.okC 0 (cs r')=true):W (G (.mk P T hT n c [] N X (QR P fn hr c [] (fun _ (y:Nat×Nat)=>.k (pV y)) (fun r y=>[.o (LZ [y] 0 (cs r))]) r)) K m e L cf) r zz:=fun hF=>by
 subst hz;cases hF
 refine fV (g:=.mk P T hT n c [] N X _) ?_
 rw [hs]
 intro a w hr'
 obtain⟨B,hm,hA,hS⟩:=mO.QH hr' is hL
 have hB:∃y,B=[y]:=by
  cases B with
  | nil=>simp at hm
  | cons y B => cases B with
   | nil=>exact⟨y,rfl⟩
   | cons z B=>simp at hm
 obtain⟨y,rfl⟩:=hB
 have hS:j5 c w [y] [.box 0 (cs r)]:=hS
 have hA:fI n [y] [(t,.p 0 0)] a:=hA
 have hv:aFA T [(t,.p 0 0)] [.box 0 (cs r)] [ResultVar.tmp t]=some (.p 0 0):=by simp [aFA,aRA,BV]
 obtain⟨v,h1,h2⟩:=Y1 hr hT hA hS hv
 have hv':v=pV y:=by
  simp only [dU,gV,bE,List.getElem?_cons_zero] at h1
  cases h1;rfl
 subst hv'
 refine⟨hA.d,_,h2,y,by simp [dU,gV,bE,pV,Value.oneCell'],?_⟩
 obtain⟨⟨R,s1,s2⟩,s0⟩:=hS
 exact⟨⟨R,s1.imp (.cons (fun F h=>h) .nil),fun x hx=>by rcases gI.1 hx with rfl | hx <;> first | trivial | simp at hx⟩,s0⟩
theorem cP{α β:Type}{fo:Option α}{kf:α->Option β}{q:β}{d:Nat}{f:FuncId}{xs:List SV}{cs:α->List SV}(hs:iW T n K cf m e L=.call o (some d) f xs cf1 cf2 K' m' e' L')
  (hc:∀{w},HS c w L'->VP P (bT w) f fo xs cs) (k:∀x,W (G (.mk P T hT n c B0 N X Q) K' (m'+1) ((d,.p m' 0) :: e') (L' ++ [.box m' (cs x)]) cf2) q (kf x)) (hk:∀x,tF.okC 0 (cs x)=true:=by exact fun _=>rfl):W (G (.mk P T hT n c B0 N X Q) K m e L cf) q (fo.bind kf):=fun hF=>by
 refine fV (g:=.mk P T hT n c B0 N X Q) ?_
 rw [hs]
 intro fo' args ats ho hd hf ⟨ys,hys,hxs⟩ hA0 hdn hE
 subst hxs
 cases hfo:fo with
 | none=>rw [hfo] at hF;cases hF
 | some x =>
  rw [hfo] at hF
  refine hE Unit (fun _=>m'+1) (fun _=>(d,.p m' 0) :: e') (fun _=>L' ++ [.box m' (cs x)]) (fun _=>tG _) (fun B a w next Q' hm hA hS hnext=>?_) (fun _=>k x hF)
  obtain⟨hcall,hrun⟩:=hc ⟨_,hS⟩ x hfo
  obtain⟨vs,h1,h2⟩:=RE hA hys
  obtain⟨v,h3,h4⟩:=dP hA hf
  simp [dU,aR] at h3
  subst h3
  have h5:=hrun vs (TA hA0 (by rw [H5];exact h1)) (aOM w)
  have h6:=KU (w:=w) hcall ho h4 h2
  unfold Oper.wp
  rw [h6 _ a hA.env,Oper.upon_enter]
  refine Calls.mono h5 fun en w' ⟨v,hv,y,g1,g2⟩=>?_
  subst hv
  rw [hd]
  have hv':v=pV y:=by simpa [dU,gV,bE,pV,Value.oneCell'] using g1.symm
  subst hv'
  have hb:∀{F:bW},(LZ [y] 0 (cs x)).P w' F->(LZ ((RD (.mk P T hT n c B0 N X Q) cf1++B) ++ [y]) m' (cs x)).P w' F:=fun⟨b,z,us,k1,k2,k3⟩=>by
   simp only [List.getElem?_cons_zero,Option.some.injEq] at k1
   refine⟨y.1,y.2,us,?_,?_,by rw [k1];exact k3⟩
   ·rw [BI (by omega),hm];simp
   ·simpa using dN (fun x v h=>by simpa using eR (B:=[]) (RD (.mk P T hT n c B0 N X Q) cf1++B ++ [y]) h) (wF (hk x) k2)
  have g3:dU ((RD (.mk P T hT n c B0 N X Q) cf1++B) ++ [y]) (.p m' 0)=some (pV y):=by
   simp only [dU,gV,bE]
   rw [BI (by omega),hm]
   simp [pV]
  refine hnext () _ _ ⟨[y],by simp only [pS,ER,aG7] at hm ⊢;omega,hA.ext g3 (hA.env.put (by simpa [nS,l6] using hdn) _),?_⟩
  obtain⟨⟨R,s1,s2⟩,s0⟩:=(hS.after (L2:=[.o (LZ [y] 0 (cs x))]) rfl g2).app [y]
  refine⟨⟨R,s1.imp ?_,fun z hz=>?_⟩,s0⟩
  ·rw [uI,uI]
   exact iH.append (iH.refl _) (.cons (fun F h=>hb h) .nil)
  ·rcases eX.1 hz with hz | hz
   ·exact s2 z (NB _ hz)
   ·rcases gI.1 hz with rfl | hz <;> first | trivial | simp at hz
def aYR(b:Bool)(off sz:Nat)(cs:List SV):Option SV:=match b with
 | true=>some (.g ((cs.drop off).take sz))
 | false => match cs[off]? with
  | some x => match x with
   | .g _=>none
   | .t _=>none
   | .f _ _=>none
   | .u=>none
   | y=>some y
  | none=>none
theorem a2I{α:Type}{F0:Option α}{q:α}{t ix sz d:Nat}{b:Bool}{k:TK}{z cs:List SV}{Fs:Array Field}{F:Field}{x:Operand}{r:SV}{Lv:List Ch}(hu:P.underlying t=some (.struct Fs))(hf:Fs[ix]?=some F)(hl:yS T F.type=some ⟨k,b,sz,z⟩)(hs:ZZ (iW T n K cf m e L)=some (o,Lv,cf1,cf2,K',m',e',L'))(ho:(o.op,o.dst)=(.field t x ix,some d))(hx:g9 e' x=some (.g cs))(hr:aYR b F.offset sz cs=some r)(hz:(!b || Nat.ble (F.offset+sz) cs.length)=true)
  (kk:W (G (.mk P T hT n c B0 N X Q) K' m' ((d,r) :: e') L' cf2) q F0):W (G (.mk P T hT n c B0 N X Q) K m e L cf) q F0:=fun hF=>
 pu hs (congrArg Prod.snd ho) (fun B a w hA _=>by
  obtain⟨v,h1,h2⟩:=dP hA hx
  simp only [dU,gV] at h1
  split at h1
  case h_2=>cases h1
  rename_i vs hv
  cases h1
  have hlen:=jR hv
  have h0:o.op=.field t x ix:=congrArg Prod.fst ho
  have hag:=hT.agg _ _ hl
  have hsz:=hT.size _ _ hl
  cases b with
  | true =>
   have hz':=rQ (by simpa using hz)
   simp only [aYR] at hr;cases hr
   refine⟨.agg ((vs.drop F.offset).take sz).toArray,by simp only [dU,gV,KS sz (KR F.offset hv)],fun _ a hA=>?_⟩
   have e:vs.toArray.extract F.offset (F.offset+sz)=((vs.drop F.offset).take sz).toArray:=by
    apply Array.ext'
    simp [List.extract_eq_take_drop]
   simp [execOp,h0,hA.eval h2,Instr.field,run_underlying hu,hf,part,asAgg,hag,hsz,e]
  | false =>
   simp only [aYR] at hr
   split at hr
   case h_2=>cases hr
   rename_i y hy
   obtain⟨u,h4,h5⟩:=KQ hv hy
   have hr':r=y:=by cases y <;> simp at hr <;> exact hr.symm
   subst hr'
   refine⟨u,aMF h4,fun _ a hA=>?_⟩
   simp [execOp,h0,hA.eval h2,Instr.field,run_underlying hu,hf,part,asAgg,hag,h5]) (kk hF)
end
end Go.Gv
end
noncomputable section
namespace Go.Gv
noncomputable section
variable {n:Nat} {c:Ctx} {B0:Bl} {m:Nat} {e:SE} {L:List Ch}
def kf(L xs:List Ch)(k:Nat):List Nat->List Ch
 | []=>[]
 | i :: is => match Nat.blt i k with
  | true => match L[i]? with
   | some x=>x :: kf L xs k is
   | none=>kf L xs k is
  | false => match xs[i - k]? with
   | some x=>x :: kf L xs k is
   | none=>kf L xs k is
end
end Go.Gv
end
noncomputable section
namespace Go.Gv
noncomputable section
variable {P:Program} {T:TT} {hT:C9 P T} {n:Nat} {c:Ctx} {B0:Bl} {N:Act->World->Prop} {X:Nat->Act->World->Prop} {Q:Act->World->Prop} {K K':List Fr} {m m':Nat} {e e':SE} {L L' Lv:List Ch} {cf cf' cf1 cf2:rR} {o:Oper}
theorem aHY{α β:Type}{f:α->Option β}:∀{xs ys:List α} {vs:List β},aR f (xs++ys)=some vs->∃v1 v2,aR f xs=some v1/\aR f ys=some v2/\vs=v1++v2
 | [],ys,vs,h=>⟨[],vs,rfl,h,rfl⟩
 | x :: xs, ys, vs, h => by
  simp only [ON,aR] at h
  split at h
  ·cases h
  ·rename_i h1
   split at h
   ·cases h
   ·rename_i h2
    cases h
    obtain⟨v1,v2,q1,q2,rfl⟩:=aHY h2
    exact⟨_ :: v1,v2,by simp [aR,h1,q1],q2,rfl⟩
theorem aHZ{α β:Type}{f:α->Option β}:∀{xs ys:List α} {v1 v2:List β},aR f xs=some v1->aR f ys=some v2->aR f (xs++ys)=some (v1++v2)
 | [],ys,v1,v2,h1,h2=>by cases h1;exact h2
 | x :: xs, ys, v1, v2, h1, h2 => by
  simp only [aR] at h1
  split at h1
  ·cases h1
  ·rename_i g1
   split at h1
   ·cases h1
   ·rename_i g2
    cases h1
    simp [aR,g1,aHZ g2 h2]
theorem a2J{α β:Type}{iR:aC α}{C:CB α}{sr:β->SV}{g:FuncId}{κ:Ctx}{b1:Nat×Nat}{c1:List SV}{p:α->Option β}(hc:∀args w,(callFunc g args).run P w=.ok (.enter g args) w)(hB:∀w1,dC κ.W κ.w0 w1->j5 (bT w1) w1 [b1] [.ro 0 c1])
  (hn:∀{w1 x y},C.sub (KH w1) w1 x y->VS P (bT w1) g (p x) [C.sv x y,.p 0 0] [b1] [.ro 0 c1] (fun r (_:Unit)=>sr r) (fun _ _=>[])) (hz:∀q,tF 0 (sr q)=true:=by exact fun _=>rfl):SS P κ C sr g (HK [b1]) p:=
 ⟨hc,fun w1 hk x y hy q hq v hv=>by
  have hv':dU [b1] (C.sv x y)=some v:=by simpa using rC (B:=[]) [b1] hv
  have hl:dU [b1] (.p 0 0)=some (.pointer (some ⟨b1.1,b1.2,none⟩)):=by simp [dU,gV,bE]
  refine Calls.mono ((hn hy _ hq).run (v :: HK [b1]) (by simp [aR,hv',hl,HK]) (hB w1 hk)) fun en w' ⟨v',h1,y',h2,h3⟩=>⟨v',h1,?_,?_⟩
  ·exact aD4 (hz q) h2
  ·simpa using S7 (m:=0) h3 rfl⟩
theorem a2K{α β ex:Type}{fo:Option α}{kf:α->Option β}{q:β}{d:Option Nat}{f g:FuncId}{xs xs0:List SV}{M:List Ch}{sv:α->ex->SV}{Lr:α->ex->List Ch}{n1:Nat}{c1:List SV}(jc:Nat)(is:List Nat)
  (hs:cpS (iW T n K cf m e L)=some (o,d,f,xs,cf1,cf2,K',m',e',L')) (hro:L'[jc]?=some (.ro n1 c1)) (hi:aR (fun i=>L'[i]?) is=some M) (hxl:xs=xs.dropLast ++ [.f g [n1]]) (hx:aR (rnP [] 0) xs.dropLast=some xs0)
  (hk:(tF.okC 0 c1 && (DA M && (cJ is && is.all fun j=>eZ j cf1.uR)))=true)
  (hc:∀{κ:Ctx},HG c κ L' is->∀{b1:Nat×Nat},(∀w1,dC κ.W κ.w0 w1->j5 (bT w1) w1 [b1] [.ro 0 c1])->VS P κ f fo (xs0 ++ [.k (.func (.func g) #[] (HK [b1]).toArray)]) [] M sv Lr)
  (k:∀x,∀y:ex,W (G (.mk P T hT n c B0 N X Q) K' m' (W3 d (sv x y) e') (D3 L' is++Lr x y) cf2) q (kf x)) (hn:∀x y,(DA (Lr x y) && tF 0 (sv x y))=true:=by exact fun _ _=>rfl):W (G (.mk P T hT n c B0 N X Q) K m e L cf) q (fo.bind kf):=fun hF=>by
 refine fV (g:=.mk P T hT n c B0 N X Q) (aSC hs ?_)
 intro fo' args ats ho hd hf ⟨ys,hys,hxs⟩ hdn hE
 simp only [xM] at hk hn
 obtain⟨hk1,hkM,hka,hkz⟩:=hk
 cases hfo:fo with
 | none=>rw [hfo] at hF;cases hF
 | some x =>
  rw [hfo] at hF
  refine hE ex (fun _=>m') (fun y=>W3 d (sv x y) e') (fun y=>D3 L' is++Lr x y) (fun y=>L5 _ hkz) (fun B a w next Q' hm hA hS hnext=>?_) (fun y=>k x y hF)
  generalize hBB:RD (.mk P T hT n c B0 N X Q) cf1++B=BB at hm hA hS hnext
  obtain⟨⟨R,s1,s2⟩,s0⟩:=hS
  have f1:=s1.front is hka
  rw [H8 hi] at f1
  obtain⟨κ,k1,k2,k3,k4,k5,k6,k7⟩:=f1.aW6 s0
  subst k1
  have hHG:HG c κ L' is:=by
   refine⟨fun{α} _ {s d} h=>k4 (xN [s.v d.length] d) h,fun{α} _ {s d} i hi hj=>?_,fun{α} _ {s d} i hi=>k5 _ (s2 _ (rP hi))⟩
   have:(blank (L'.map (jA BB)) is)[i]?=some (aW [s.v d.length] d):=by
    rw [U4 (VB hj),BJ,hi];rfl
   exact k6 _ (rP this) (xN [s.v d.length] d) fun w F h=>aC.own_rd h
  obtain⟨b,z,vs1,g1,g2,g3⟩:=s2 _ (rP hro)
  have hc0:=wF hk1 g2
  rw [WJ] at hc0
  have hB:∀w1,dC κ.W κ.w0 w1->j5 (bT w1) w1 [(b,z)] [.ro 0 c1]:=fun w1 hkp=>by
   have h1:=k5 _ g3
   have h2:(fAt b z vs1).P κ.S0 w1:=(fAt b z vs1).agree h1 fun b' o' hS=>hkp.cell b' o' (k2 b' o' hS) fun hw=>k3.apart b' o' hw hS
   have h3:(fAt b z vs1).P (KH w1) w1:=(fAt b z vs1).mono h2 fun b' o' hS=>KG (k2 b' o' hS) hkp.size
   have h4:St (bT w1) w1 [] [fAt b z vs1]:=St.enter (by simpa using h3)
   refine⟨⟨[fAt b z vs1],St.more (ch:=DZ) h4 (dC.refl _ _) ⟨F0,fun _ _ h=>h,fun _ _ h=>h.elim⟩,fun x hx=>?_⟩,fun _ _ h=>h⟩
   simp at hx;subst hx
   exact⟨b,z,vs1,by simp,dN (fun x v h=>by simpa using eR (B:=[]) _ h) hc0,by simp⟩
  obtain⟨hcall,hrun⟩:=hc hHG hB x hfo
  obtain⟨vs,h1,h2⟩:=RE hA hys
  obtain⟨v,h3,h4⟩:=dP hA hf
  simp [dU,aR] at h3
  subst h3
  have h1':aR (dU BB) xs=some vs:=by rw [<-hxs,H5];exact h1
  have hvs:aR (dU []) (xs0 ++ [.k (.func (.func g) #[] (HK [(b,z)]).toArray)])=some vs:=by
   rw [hxl] at h1'
   obtain⟨va,vb,q1,q2,rfl⟩:=aHY h1'
   have q3:=aFP (Bs:=[]) (ps:=[]) (ds:=[]) (pv:=[]) (L:=L') (B:=BB) trivial (fun i=>by simp [blP]) hx q1
   simp only [aR,dU,gV,LY,g1] at q2
   cases q2
   exact aHZ q3 (by simp [aR,dU,gV,bE,HK];rfl)
  have hst:j5 κ κ.w0 [] M:=by
   refine⟨⟨[],?_,fun x hx=>?_⟩,k2⟩
   ·rw [OY (B':=BB) hkM];exact k3
   ·exact OZ hkM x hx
  have h5:=hrun vs hvs hst
  have h6:=KU (w:=κ.w0) hcall ho h4 h2
  unfold Oper.wp
  rw [h6 _ a hA.env,Oper.upon_enter]
  refine Calls.mono h5 fun en w' ⟨v,hv,y,g1,g2⟩=>?_
  subst hv
  obtain⟨n3,n4⟩:=hn x y
  have g3:=rC BB (aD4 n4 g1)
  rw [ZJ] at g3
  obtain⟨⟨R',t1,t2⟩,t0⟩:=g2
  have t3:St κ w' ((Lr x y).map (jA BB)) R':=by rw [<-OY (B:=[]) n3];exact t1
  have t4:=k7 w' _ R' t3
  have t6:j5 c w' BB (D3 L' is++Lr x y):=by
   refine⟨⟨R,?_,fun z hz=>?_⟩,s0⟩
   ·rw [uI,CC]
    exact t4.rot
   ·rcases eX.1 hz with hz | hz
    ·rcases H7 _ _ hz with hz | hz
     ·exact s2 z hz
     ·subst hz;trivial
    ·exact OZ n3 z hz
  rw [hd]
  cases d with
  | none=>exact hnext y _ _ ⟨[],by simpa using hm,by simpa [W3,Act.put] using hA,by simpa using t6⟩
  | some d=>exact hnext y _ _ ⟨[],by simpa using hm,by simpa [W3] using hA.of g3 (hA.env.put (by simpa [nS,l6] using hdn) v),by simpa using t6⟩
end
end Go.Gv
end
noncomputable section
namespace Go.Gv
def tH(l:List Int):List Int:=l.foldl (fun a x=>if a.getLast?=some x then a else a ++ [x]) []
theorem VC(l:List Int)(x:Int):tH (l ++ [x])=if (tH l).getLast?=some x then tH l else tH l ++ [x]:=by
 unfold tH;rw [List.foldl_append];rfl
theorem aOS:∀(l:List Int),(tH l).getLast?=l.getLast?:=by
 intro l
 rcases ZF l with rfl | ⟨l,x,rfl⟩
 ·rfl
 ·rw [ZE,VC]
  split
  ·rename_i h;rw [h];simp
  ·simp
theorem aVT(l:List Int):(tH l).length<=l.length:=by
 suffices h:∀(l a:List Int),(l.foldl (fun a x=>if a.getLast?=some x then a else a ++ [x]) a).length<=a.length+l.length by
  have:=h l []
  rw [aG7,yO] at this
  exact this
 intro l
 induction l with
 | nil=>intro a;simp
 | cons x l ih =>
  intro a
  rw [List.foldl_cons]
  refine qZ (ih _) ?_
  split
  ·simp
  ·simp;omega
def slices_Compact_int(s:List Int):Option (List Int):=some (tH s)
end Go.Gv
end
noncomputable section
namespace Go.Gv
theorem aM9(l:List Int):Lib.compact l=tH l:=by
 have h:∀m,m<=l.length->Lib.compactUpTo l.toArray m=tH (l.take m):=by
  intro m
  induction m with
  | zero=>intro _;rfl
  | succ m ih =>
   intro hm
   have hm':m < l.length:=hm
   rw [Lib.compactUpTo_succ,ih (by omega),RC hm',VC,aOS]
   have e1:l.toArray[m]! = l[m]:=by simp [hm']
   have key:(Lib.keeps l.toArray m=true)↔¬(l.take m).getLast?=some l[m]:=by
    cases m with
    | zero=>simp [Lib.keeps]
    | succ k =>
     have e2:l.toArray[k]! = l[k]:=by simp [show k < l.length by omega]
     rw [RC (by omega:k < l.length),List.getLast?_concat]
     simp only [Lib.keeps,decide_eq_true_eq,e1,Nat.add_sub_cancel,e2]
     simp [eq_comm]
   rw [e1]
   by_cases hk:Lib.keeps l.toArray m=true
   ·rw [if_pos hk,if_neg (key.1 hk)]
   ·rw [if_neg hk,if_pos (Decidable.not_not.1 fun hh=>hk (key.2 hh)),uH]
 have:=h l.length (iC _)
 rw [OR] at this
 exact this
open Go.Sort in
theorem aH0{w:World}{b off q:Nat}{d0 d:Array Int}(h0:Holds (Value.int .i64) w b off d0)(hs:d.size=d0.size):dC (dD b off d.size) w (putRow (Value.int .i64) (Sort.ahead w q) b off d):=by
 have hc:∀b' o,b' < w.heap.size->¬dD b off d.size b' o->(putRow (Value.int .i64) (Sort.ahead w q) b off d).cell? ⟨b',o,none⟩=w.cell? ⟨b',o,none⟩:=fun b' o _ hn=>by
  rw [cell?_putRow_other _ _ _ _ _ _ (by
   by_cases e:b'=b
   ·right
    by_cases h1:o < off
    ·exact .inl h1
    ·right
     by_cases h2:o < off+d.size
     ·exact absurd ⟨e,by omega,h2⟩ hn
     ·show off+d.size<=o;omega
   ·exact .inl e)]
  rfl
 refine⟨rfl,rfl,rfl,by simp,fun b' hb hn=>?_,hc,fun b' o _=>by rw [frozen?_putRow];rfl,fun b' o h=>?_⟩
 ·show (w.heap.modify b _)[b']? = _
  rw [Array.getElem?_modify]
  split
  ·rename_i e
   subst e
   have hz:d.size=0:=by
    rcases Nat.eq_zero_or_pos d.size with h | h
    ·exact h
    ·exact absurd ⟨rfl,iC _,by omega⟩ (hn off)
   cases hh:w.heap[b]? with
   | none=>rfl
   | some o =>
    cases o with
    | cells c e fr =>
     simp only [HY,onCells]
     have:putCells (Value.int .i64) off d c=c:=by
      apply Array.ext_getElem?
      intro k
      simp only [putCells,Array.getElem?_mapIdx,hz]
      cases c[k]? with
      | none=>rfl
      | some y=>simp only [HY];rw [if_neg (by omega)]
     rw [this]
    | _=>rfl
  ·rfl
 ·by_cases hn:dD b off d.size b' o
  ·obtain⟨rfl,h1,h2⟩:=hn
   have:=cell?_putRow (Value.int .i64) (Sort.ahead w q) b' off d0 d h0 hs (o - off) (by omega)
   rw [show off+(o - off)=o from by omega] at this
   rw [this];rfl
  ·rw [hc b' o (iE h) hn];exact h
open Go.Proofs in
theorem a2L{P:Program}{ρ:_}{κ:Ctx}(Ly:Lays2.n20 P ρ)(hcall:∀args w,(callFunc (ρ.f 20) args).run P w=.ok (.enter (ρ.f 20) args) w){s:List Int}{s1:AC}:VS P κ (ρ.f 20) (slices_Compact_int s) [.h s1 s.length] [] [ow s1 s] (fun r (y:AC)=>.h y r.length) (fun r y=>[ow y r]):=fun r hr=>by
 cases hr
 refine⟨hcall,fun vs hv hS=>?_⟩
 simp [aR,dU,gV,bE] at hv
 subst hv
 obtain⟨⟨R,h1,h2⟩,h0⟩:=hS
 have h1:St κ κ.w0 [aW [s1.v s.length] s] R:=by simpa [jA] using h1
 obtain⟨F,hF⟩:=h1.chunk 0 rfl
 have hF:aC.own κ.w0 [s1.v s.length] s F:=hF
 obtain⟨a,cp,he,hl1,hl2,hrest⟩:=(show C8 κ.w0 _ s F from hF)
 obtain⟨sa,sc⟩:=s1
 simp only [AC.v,List.cons.injEq,Value.slice.injEq,and_true,true_and] at he
 obtain⟨rfl,rfl⟩:=he
 rcases hrest with ⟨rfl,rfl,hno⟩ | ⟨b,off,Fs,rfl,hrow,hel,hdj,hdr,hFF⟩
 ·have hs:s=[]:=kZ (by omega)
  subst hs
  refine(Any.slices_Compact_int_empty Ly none 0 κ.w0).mono ?_
  rintro e w' ⟨rfl,rfl⟩
  exact⟨_,rfl,⟨none,0⟩,by simp [dU,gV,bE,AC.v,tH],⟨R,by simpa [jA,AC.v,tH] using h1,fun x hx=>by simp at hx;subst hx;trivial⟩,h0⟩
 ·have hn:aC.n Int=1:=rfl
  have hH:Sort.Holds (Value.int .i64) κ.w0 b off s.toArray:=fun j hj=>by
   have hj':j < s.length:=by simpa using hj
   obtain⟨ec,c1,c2⟩:=hel j hj'
   have c3:ec=[Value.int .i64 s[j]]:=(show _=_/\_ from c2).1
   have:=c1 0 (.int .i64 s[j]) (by rw [c3];rfl)
   rw [hn,Nat.mul_one,HX] at this
   refine⟨by rw [this];simp [hj'],(hrow (off+j) ⟨rfl,by omega,by rw [hn];omega⟩).2⟩
  have hlen:(Lib.compact s).length<=s.length:=by
   rw [aM9];exact aVT s
  refine(Any.slices_Compact_int Ly b off sc s κ.w0 hH (qZ hl1 (qZ hl2 (by decide))) hl1).mono ?_
  rintro e w' ⟨rfl,q,rfl⟩
  rw [aM9] at hlen ⊢
  have hsz:(tH s++List.replicate (s.length - (tH s).length) 0).toArray.size=s.toArray.size:=by simp;omega
  have hsa:s.toArray.size=s.length:=by simp
  have hK:=aH0 (q:=q) hH hsz
  refine⟨_,rfl,⟨some ⟨b,off,none⟩,sc⟩,by simp [dU,gV,bE,AC.v],⟨R,?_,by simp [roF]⟩,h0⟩
  have := h1.SZ (w' := Sort.putRow (Value.int .i64) (Sort.ahead κ.w0 q) b off (tH s ++ List.replicate (s.length - (tH s).length) 0).toArray) (ch' := aW [(⟨some ⟨b, off, none⟩, sc⟩ : AC).v (tH s).length] (tH s)) 0 rfl fun F2 hF2 => by
   have hF2:aC.own κ.w0 [_] s F2:=hF2
   obtain⟨a',cp',he',_,_,hrest'⟩:=(show C8 κ.w0 _ s F2 from hF2)
   simp only [AC.v,List.cons.injEq,Value.slice.injEq,and_true,true_and] at he'
   obtain⟨rfl,rfl⟩:=he'
   rcases hrest' with ⟨h,_⟩ | ⟨b',off',Fs',h,hrow',hel',hdj',hdr',hFF'⟩
   ·cases h
   ·cases h
    have hemp:∀i (hi:i < s.length) b' o,¬Fs' i b' o:=fun i hi b' o h=>by
     obtain⟨ec,_,c2⟩:=hel' i hi
     exact(show _/\∀b o,¬Fs' i b o from c2).2 b' o h
    refine⟨dD b off (sc * 1),dD b off (tH s++List.replicate (s.length - (tH s).length) 0).toArray.size,hK,fun b' o h=>(hFF' b' o).2 (.inl ?_),?_,fun b' o h=>.inl ((hFF' b' o).2 (.inl h))⟩
    ·obtain⟨h3,h4,h5⟩:=h
     exact⟨h3,h4,by rw [hsz,hsa] at h5;rw [hn];omega⟩
    ·refine⟨_,sc,rfl,by omega,hl2,.inr ⟨b,off,fun _=>F0,rfl,fun o ho=>?_,fun i hi=>?_,fun _ _ _ _ _ _ _ h _=>h,fun _ _ _ _ h _=>h,fun b' o=>by simp [F0,hn]⟩⟩
     ·have:=hrow' o ho
      exact⟨hK.stay b o this.1,(hK.uR b o (iE this.1)).trans this.2⟩
     ·refine⟨[.int .i64 (tH s)[i]],fun j v hj=>?_,rfl,fun _ _ h=>h⟩
      have hj0:j=0:=by
       have:=(g7.1 hj).1
       simp at this;exact this
      subst hj0
      simp at hj;subst hj
      rw [hn,Nat.mul_one,HX]
      have:=Sort.cell?_putRow (Value.int .i64) (Sort.ahead κ.w0 q) b off s.toArray (tH s++List.replicate (s.length - (tH s).length) 0).toArray hH hsz i (by rw [hsz];simp;omega)
      rw [this]
      congr 2
      have hlt:i < (tH s++List.replicate (s.length - (tH s).length) 0).length:=by simp;omega
      rw [getElem!_pos _ i (by simpa using hlt)]
      show(tH s++List.replicate (s.length - (tH s).length) 0)[i]=_
      rw [List.getElem_append_left hi]
  simpa [jA] using this
end Go.Gv
end
noncomputable section
namespace Go.Gv
theorem fkP{P:Program}{α β:Type}{iR:aC α}{C:CB α}{sr:β->SV}{g:FuncId}{w:World}{Bs:Bl}{L0:List Ch}{xs:List SV}{cap:List Value}{p:α->Option β}(hc:∀args w,(callFunc g args).run P w=.ok (.enter g args) w)(hB:∀w1,dC F0 w w1->j5 (bT w1) w1 Bs L0)(hl:aR (dU Bs) xs=some cap)
  (hn:∀{w1 x y},dC F0 w w1->C.sub (KH w1) w1 x y->VS P (bT w1) g (p x) (C.sv x y :: xs) Bs L0 (fun r (_:Unit)=>sr r) (fun _ _=>[])) (hz:∀q,tF 0 (sr q)=true:=by exact fun _=>rfl):SS P (bT w) C sr g cap p:=
 ⟨hc,fun w1 hk x y hy q hq v hv=>by
  have hv':dU Bs (C.sv x y)=some v:=by simpa using rC (B:=[]) Bs hv
  refine Calls.mono ((hn hk hy q hq).run (v :: cap) (by simp [aR,hv',hl]) (hB w1 hk)) fun en w' ⟨v',h1,y',h2,h3⟩=>⟨v',h1,?_,?_⟩
  ·exact aD4 (hz q) h2
  ·simpa using S7 (m:=0) h3 rfl⟩
theorem aVU{c:Ctx}{w:World}{B:Bl}{L:List Ch}{n1 n2 n3:Nat}{c1 c3:List SV}{b1 b2:Nat×Nat}(hS:j5 c w B L)(h1:Ch.ro n1 c1∈L)(h2:Ch.ro n2 [.p n3 0]∈L)(h3:Ch.ro n3 c3∈L)(o1:tF.okC 0 c1=true)(o3:tF.okC 0 c3=true)(g1:B[n1]?=some b1)(g2:B[n2]?=some b2) :
  ∃b3:Nat×Nat,∀w1,dC F0 w w1->j5 (bT w1) w1 [b1,b2,b3] [.ro 0 c1,.ro 1 [.p 2 0],.ro 2 c3]:=by
 obtain⟨⟨R,s1,s2⟩,s0⟩:=hS
 obtain⟨p1,z1,v1,e1,m1,f1⟩:=s2 _ h1
 obtain⟨p2,z2,v2,e2,m2,f2⟩:=s2 _ h2
 obtain⟨p3,z3,v3,e3,m3,f3⟩:=s2 _ h3
 rw [g1] at e1;cases e1
 rw [g2] at e2;cases e2
 simp only [aR,bE,e3] at m2
 cases m2
 have q1:=wF o1 m1
 have q3:=wF o3 m3
 rw [WJ] at q1 q3
 refine⟨(p3,z3),fun w1 hkp=>?_⟩
 have fct:∀f∈R,f.P (KH w1) w1:=fun f hf=>by
  obtain⟨i,hi⟩:=ZG hf
  exact aWV (s1.fact i hi) hkp
 refine⟨⟨[fAt p1 z1 v1,fAt p2 z2 [.pointer (some ⟨p3,z3+0,none⟩)],fAt p3 z3 v3],?_,?_⟩,fun _ _ h=>h⟩
 ·have h4:St (bT w1) w1 [] [fAt p1 z1 v1,fAt p2 z2 [.pointer (some ⟨p3,z3+0,none⟩)],fAt p3 z3 v3]:=St.enter (by
   intro f hf
   simp only [gI,KF,or_false] at hf
   rcases hf with rfl | rfl | rfl
   ·exact fct _ f1
   ·exact fct _ f2
   ·exact fct _ f3)
  have more:∀{M:List Chunk} {R:List Fact},St (bT w1) w1 M R->St (bT w1) w1 (M ++ [DZ]) R:=fun h=>St.more (ch:=DZ) h (dC.refl _ _) ⟨F0,fun _ _ h=>h,fun _ _ h=>h.elim⟩
  exact more (more (more h4))
 ·intro x hx
  simp only [gI,KF,or_false] at hx
  rcases hx with rfl | rfl | rfl
  ·exact⟨p1,z1,v1,rfl,dN (fun x v h=>by simpa using eR (B:=[]) [(p1,z1),(p2,z2),(p3,z3)] h) q1,by simp⟩
  ·exact⟨p2,z2,_,rfl,rfl,by simp⟩
  ·exact⟨p3,z3,v3,rfl,dN (fun x v h=>by simpa using eR (B:=[]) [(p1,z1),(p2,z2),(p3,z3)] h) q3,by simp⟩
noncomputable section
variable {P:Program} {T:TT} {hT:C9 P T} {n:Nat} {c:Ctx} {B0:Bl} {N:Act->World->Prop} {X:Nat->Act->World->Prop} {Q:Act->World->Prop} {K K':List Fr} {m m':Nat} {e e':SE} {L L':List Ch} {cf cf1 cf2:rR} {o:Oper} {Lv:List Ch} {d:Nat}
theorem a2M{α β:Type}{fo:Option α}{kf:α->Option β}{q:β}{f g:FuncId}{xs:List SV}{sv:α->SV}{n1 n2 n3:Nat}{c1 c3:List SV}(is:List Nat)(hs:iW T n K cf m e L=.callp o (some d) f xs cf1 cf2 K' m' e' L')(hk:kl (shr [n3] L') is=[.ro n1 c1,.ro n2 [.p n3 0],.ro n3 c3])(ho:((tF.okC 0 c1 && tF.okC 0 c3) && okA xs.dropLast)=true)(hx:xs=xs.dropLast ++ [.f g [n1,n2]])
  (hc:∀{w},HS c w L'->∀{b1 b2 b3:Nat×Nat},(∀w1,dC F0 w w1->j5 (bT w1) w1 [b1,b2,b3] [.ro 0 c1,.ro 1 [.p 2 0],.ro 2 c3])->∀{x},fo=some x->Fn0 P f (bT w) (xs.dropLast ++ [.k (.func (.func g) #[] (HK [b1,b2]).toArray)]) sv x) (hF:fo.bind kf=some q)
  (k:∀x,fo=some x->kf x=some q->G (.mk P T hT n c B0 N X Q) K' m' ((d,sv x) :: e') L' cf2):G (.mk P T hT n c B0 N X Q) K m e L cf:=by
 refine fV (g:=.mk P T hT n c B0 N X Q) ?_
 rw [hs]
 intro fo' args ats ho' hd hf ⟨ys,hys,hxs⟩ hdn hE
 rw [xM] at ho
 cases hfo:fo with
 | none=>rw [hfo] at hF;cases hF
 | some x =>
  rw [hfo] at hF
  refine hE Unit (fun _=>m') (fun _=>(d,sv x) :: e') (fun _=>L') (fun _=>by simpa using tG (L:=L') []) (fun B a w next Q' hm hA hS hnext=>?_) (fun _=>k x hfo hF)
  obtain⟨vs,h1,h2⟩:=RE hA hys
  obtain⟨v,h3,h4⟩:=dP hA hf
  simp [dU,aR] at h3
  subst h3
  rw [<-H5,hxs] at h1
  rw [hx] at h1
  have split:∀{qs:List SV} {b:SV} {vs:List Value} {B:Bl},aR (dU B) (qs ++ [b])=some vs->∃us v,aR (dU B) qs=some us/\dU B b=some v/\vs=us ++ [v]:=by
   intro qs
   induction qs with
   | nil =>
    intro b vs B h
    simp only [ZJ,aR] at h
    split at h
    ·cases h
    ·rename_i v hv;cases h;exact⟨[],v,rfl,hv,rfl⟩
   | cons a qs ih =>
    intro b vs B h
    simp only [ON,aR] at h
    split at h
    ·cases h
    ·rename_i u hu
     split at h
     ·cases h
     ·rename_i us' hus
      cases h
      obtain⟨us,v,g1,g2,rfl⟩:=ih hus
      exact⟨u :: us,v,by simp [aR,hu,g1],g2,rfl⟩
  obtain⟨us,fv,g1,g2,rfl⟩:=split h1
  simp only [dU] at g2
  split at g2
  ·rename_i cap hcap
   cases g2
   obtain⟨Bs,b1,b2,b3⟩:=aR2 (cs:=[(n1,c1),(n2,[.p n3 0])]) hcap
   subst b1
   obtain⟨d1,d2,rfl⟩:∃d1 d2,Bs=[d1,d2]:=by
    match Bs,b2 with
    | [d1,d2],_=>exact⟨d1,d2,rfl⟩
   have hmem:∀x∈[Ch.ro n1 c1,.ro n2 [.p n3 0],.ro n3 c3],x∈shr [n3] L':=fun x hx=>Z3 (is:=is) (by rw [hk];exact hx)
   rw [xM] at ho
   obtain⟨q1,y1,y2⟩:=b3 0 n1 c1 rfl
   obtain⟨q2,y3,y4⟩:=b3 1 n2 _ rfl
   simp at y1 y3
   subst y1 y3
   obtain⟨d3,hst⟩:=aVU (n3:=n3) (c1:=c1) (c3:=c3) (aFK [n3] [] L' hS) (hmem (.ro n1 c1) (by simp)) (hmem (.ro n2 [.p n3 0]) (by simp)) (hmem (.ro n3 c3) (by simp)) ho.1.1 ho.1.2 y2 y4
   obtain⟨hcall,hrun⟩:=hc ⟨_,hS⟩ hst hfo
   have join:∀{qs:List SV} {us:List Value} {b:SV} {v:Value},aR (dU []) qs=some us->dU [] b=some v->aR (dU []) (qs ++ [b])=some (us ++ [v]):=by
    intro qs
    induction qs with
    | nil=>intro us b v h hb;cases h;simp [aR,hb]
    | cons a qs ih =>
     intro us b v h hb
     simp only [aR] at h
     split at h
     ·cases h
     ·rename_i u hu
      split at h
      ·cases h
      ·rename_i us' hus;cases h;simp [aR,hu,ih hus hb]
   have h5:=hrun (us ++ [.func (.func g) #[] (HK [d1,d2]).toArray]) (join (TA ho.2 g1) (by simp [dU,gV,bE,Value.oneCell'])) (aOM w)
   have h6:=KU (w:=w) hcall ho' h4 h2
   unfold Oper.wp
   rw [h6 _ a hA.env,Oper.upon_enter]
   refine Calls.mono h5 fun en w' ⟨v,hv,y,e1,e2⟩=>?_
   subst hv
   rw [hd]
   have g3:=rC (RD (.mk P T hT n c B0 N X Q) cf1++B) e1
   exact hnext () _ _ ⟨[],by simpa using hm,by simpa using hA.of (by simpa using g3) (hA.env.put (by simpa [nS,l6] using hdn) v),by simpa using hS.after (L2:=[]) rfl e2⟩
  ·cases g2
theorem clP{α β:Type}{fo:Option α}{kf:α->Option β}{q:β}{f g:FuncId}{xs:List SV}{sv:α->SV}{n1 n2 n3:Nat}{c1 c3:List SV}(is:List Nat)(hs:iW T n K cf m e L=.callp o (some d) f xs cf1 cf2 K' m' e' L')(hk:kl (shr [n3] L') is=[.ro n1 c1,.ro n2 [.p n3 0],.ro n3 c3])(ho:((tF.okC 0 c1 && tF.okC 0 c3) && okA xs.dropLast)=true)(hx:xs=xs.dropLast ++ [.f g [n1,n2]])
  (hc:∀{w},HS c w L'->∀{b1 b2 b3:Nat×Nat},(∀w1,dC F0 w w1->j5 (bT w1) w1 [b1,b2,b3] [.ro 0 c1,.ro 1 [.p 2 0],.ro 2 c3])->V0 P (bT w) f fo (xs.dropLast ++ [.k (.func (.func g) #[] (HK [b1,b2]).toArray)]) sv)
  (k:∀x,W (G (.mk P T hT n c B0 N X Q) K' m' ((d,sv x) :: e') L' cf2) q (kf x)):W (G (.mk P T hT n c B0 N X Q) K m e L cf) q (fo.bind kf):=fun hF=>
 a2M is hs hk ho hx (fun h _ _ _ h2 _ hx=>hc h h2 _ hx) hF fun x _ h=>k x h
def noD:rR->Bool
 | .d _ _ _ _ _ _=>false
 | .o _ _ _ _ _ _ _=>false
 | _=>true
theorem shS(ns:List Nat){cf':rR}(hs:QY (iW T n K cf m e L)=some (K',cf',m',e',L'))(hf:noD cf'=true)(k:G (.mk P T hT n c B0 N X Q) K' m' e' (shr ns L') cf'):G (.mk P T hT n c B0 N X Q) K m e L cf:=by
 refine go hs (chg (fun _:Unit=>m') (fun _=>e') (fun _=>shr ns L') (fun B a w hm hA hS=>⟨(),[],by simpa using hm,by simpa using hA,by simpa using aFK ns [] L' hS⟩) (fun _=>?_) (fun _=>k))
 cases cf' with
 | d _ _ _ _ _ _=>cases hf
 | o _ _ _ _ _ _ _=>cases hf
 | _=>trivial
end
end Go.Gv
end
noncomputable section
namespace Go.Gv
abbrev R2:=Raw×Raw
def U1:List Value->List R2
 | a :: b :: r=>(⟨a⟩,⟨b⟩) :: U1 r
 | _=>[]
theorem L7:∀{n:Nat} {cs:List Value},cs.length=n * 2->(U1 cs).length=n
 | 0, cs, h => by
  have:cs=[]:=kZ (by omega)
  rw [this];rfl
 | n + 1, cs, h => by
  match cs,h with
  | a :: b :: r,h=>simp only [U1,ER] at *;rw [L7 (n:=n) (by omega)]
  | [_],h=>simp at h;omega
  | [],h=>simp at h
theorem Y6:∀{n:Nat} {cs ds:List Value},cs.length=n * 2->U1 (cs++ds)=U1 cs++U1 ds
 | 0, cs, ds, h => by
  have:cs=[]:=kZ (by omega)
  rw [this];rfl
 | n + 1, cs, ds, h => by
  match cs,h with
  | a :: b :: r,h=>simp only [U1,ON,ER] at *;rw [Y6 (n:=n) (by omega)]
  | [_],h=>simp at h;omega
  | [],h=>simp at h
theorem aNA{w:World}{a b:Value}(ha:a.oneCell'=true)(hb:b.oneCell'=true):aC.own w [a,b] ((⟨a⟩,⟨b⟩):R2) F0:=
 ⟨[a],[b],F0,F0,rfl,⟨⟨rfl,ha⟩,fun _ _ h=>h⟩,⟨⟨rfl,hb⟩,fun _ _ h=>h⟩,fun _ _ h=>h.elim,fun _ _=>by simp [F0]⟩
theorem aVV{w:World}{cs:List Value}{u:R2}{F:bW}(h:aC.own w cs u F):cs=[u.1.v,u.2.v]/\∀b o,¬F b o:=by
 obtain⟨c1,c2,F1,F2,e,h1,h2,_,hF⟩:=h
 refine⟨by rw [e,h1.1.1,h2.1.1];rfl,fun b o p=>((hF b o).1 p).elim (h1.2 b o) (h2.2 b o)⟩
noncomputable section
variable {α:Type} [aC α] (hn:aC.n α=2) {w:World}
include hn
theorem aNB:∀{l:List α} {cs:List Value} {F:bW},b7 w cs l F->b7 w cs (U1 cs) F0
 | [],cs,F,h=>by rw [h.1];exact⟨rfl,fun _ _ h=>h⟩
 | x :: r, cs, F, ⟨c1, c2, F1, F2, e, h1, h2, hd, hF⟩ => by
  have a:=aC.i7 (aC.own_rd h1)
  have o:=aC.rd_one (aC.own_rd h1)
  rw [hn] at a
  match c1,a,o with
  | [u, v], _, o =>
   subst e
   exact⟨[u,v],c2,F0,F0,rfl,aNA (o u (by simp)) (o v (by simp)),aNB h2,fun _ _ h=>h.elim,fun _ _=>by simp [F0]⟩
theorem aFW{l:List α}{cs:List Value}{F:bW}(h:b7 w cs l F):cs.length=l.length * 2:=by rw [h.length,hn]
omit hn in
theorem aD5:∀{us:List R2} {cs:List Value} {F:bW},b7 w cs us F->us=U1 cs/\∀b o,¬F b o
 | [],cs,F,h=>by rw [h.1];exact⟨rfl,h.2⟩
 | u :: r, cs, F, ⟨c1, c2, F1, F2, e, h1, h2, hd, hF⟩ => by
  obtain⟨e1,f1⟩:=aVV h1
  obtain⟨e2,f2⟩:=aD5 h2
  subst e;subst e1
  exact⟨by rw [show U1 ([u.1.v,u.2.v]++c2)=u :: U1 c2 from rfl,<-e2],fun b o p=>((hF b o).1 p).elim (f1 b o) (f2 b o)⟩
theorem aSR{s:Value}{us:List R2}{l:List α}{cs:List Value}{G Fe:bW}(h:aC.own w [s] us G)(ho:b7 w cs l Fe)(hu:us=U1 cs)(hd:G.BA Fe):aC.own w [s] l (fun b o=>G b o\/Fe b o):=by
 have hcl:=aFW hn ho
 have hp:=L7 hcl
 rw [<-hu] at hp
 obtain⟨a,c,e,h1,h2,h3⟩:=j4.1 h
 refine j4.2 ⟨a,c,by rw [e,hp],by rw [<-hp];exact h1,h2,?_⟩
 rcases h3 with ⟨rfl,rfl,k⟩ | ⟨b,off,cc,Ge,rfl,hr,hc,ho',hdj,hFF⟩
 ·have hl:l=[]:=kZ (by omega)
  subst hl
  exact .inl ⟨rfl,rfl,fun b o p=>p.elim (k b o) (ho.2 b o)⟩
 ·obtain ⟨q1, q2⟩ := aD5 ho'
  have hcc:cc.length=us.length * 2:=ho'.length
  have e2:cc=cs:=by
   have hj:∀{n:Nat} {x y:List Value},x.length=n * 2->y.length=n * 2->U1 x=U1 y->x=y:=by
    intro n
    induction n with
    | zero=>intro x y hx hy _;rw [kZ (l:=x) (by omega),kZ (l:=y) (by omega)]
    | succ n ih =>
     intro x y hx hy hxy
     match x,y,hx,hy,hxy with
     | a :: b :: r, a' :: b' :: r', hx, hy, hxy =>
      simp only [U1,List.cons.injEq,Prod.mk.injEq,Raw.mk.injEq,ER] at *
      exact⟨hxy.1.1,hxy.1.2,ih (by omega) (by omega) hxy.2⟩
     | [],_,hx,_,_=>simp at hx
     | [_],_,hx,_,_=>simp at hx;omega
     | _ :: _ :: _,[],_,hy,_=>simp at hy
     | _ :: _ :: _,[_],_,hy,_=>simp at hy;omega
   exact hj (n:=us.length) hcc (by rw [hcl,hp]) (by rw [<-q1,hu])
  subst e2
  have hG:∀b' o,G b' o↔dD b off (c * 2) b' o:=fun b' o=>by
   rw [hFF];exact⟨fun q=>q.elim id fun q=>(q2 b' o q).elim,.inl⟩
  refine .inr ⟨b,off,cc,Fe,rfl,by rw [hn];exact hr,hc,ho,fun b' o p q=>hd b' o ((hG b' o).2 (by rw [hn] at q;exact q)) p,fun b' o=>by rw [hG,hn]⟩
def cIn(cs:List Value)(l:List α):Chunk:=⟨fun w F=>b7 w cs l F,fun h hk hd=>b7.keep hk h hd,fun h hf=>b7.lt h hf⟩
end
def a0W{α:Type}(l:List α)(i j:Int):Option (List α):=need (0<=i/\i<=j/\j<=(l.length:Int)) (some (l.take i.toNat++l.drop j.toNat))
def zR2:R2:=(⟨.bool false⟩,⟨.slice none 0 0⟩)
theorem aYS{w:World}:aC.rd F0 w [.bool false,.slice none 0 0] zR2:=⟨[_],[_],rfl,⟨rfl,rfl⟩,⟨rfl,rfl⟩⟩
theorem aVW{α:Type}{l:List α}{a b:Nat}(hab:a<=b)(hb:b<=l.length):((cA l a (l.drop b)).take (a+(l.length - b))).drop 0=l.take a++l.drop b:=by
 have h1:(l.take a).length=a:=by rw [yN];omega
 have h2:(l.drop b).length=l.length - b:=by simp
 unfold cA
 rw [NA,aDR (l:=l.drop b) (by rw [h2];omega),<-qR,show a+(l.length - b)=(l.take a++l.drop b).length by rw [pS,h1,h2]]
 exact List.take_left
theorem aH1{α:Type}{p:Prop}[Decidable p]{k:Option α}(h:p):need p k=k:=if_pos h
def aSS(s:List R2)(i j:Int):Option (List R2):=
 need (0<=(i:Int)/\(i:Int)<=(j:Int)/\(j:Int)<=((s.length:Int):Int)/\((s.length:Int):Int)<=(s.length:Int)) ((if i == j then some s else need (0<=(i:Int)/\(i:Int)<=(s.length:Int)) (need (0<=(j:Int)/\(j:Int)<=(s.length:Int)) (need (i.toNat<=j.toNat) (need (0<=(((((cA s i.toNat (s.drop j.toNat)).take (i.toNat+(s.length - j.toNat))).drop 0).length:Int):Int)/\(((((cA s i.toNat (s.drop j.toNat)).take (i.toNat+(s.length - j.toNat))).drop 0).length:Int):Int)<=((s.length:Int):Int)/\((s.length:Int):Int)<=((cA s i.toNat (s.drop j.toNat)).length:Int)) (some (((cA s i.toNat (s.drop j.toNat)).take (i.toNat+(s.length - j.toNat))).drop 0)))))))
theorem aVX{us:List R2}{i j:Int}(h:0<=i/\i<=j/\j<=(us.length:Int)):aSS us i j=some (us.take i.toNat++us.drop j.toNat):=by
 unfold aSS
 rw [aH1 (by omega)]
 by_cases e:i=j
 ·subst e
  rw [if_pos (by simp),RB]
 ·rw [if_neg (by simpa using e),aH1 (by omega),aH1 (by omega),aH1 (by omega),aVW (by omega) (by omega),aH1]
  rw [eG (by omega)]
  simp only [pS,yN,ES]
  omega
end Go.Gv
end
noncomputable section
namespace Go.Gv
theorem aST{α:Type}[aC α](hn:aC.n α=2){w:World}{s:Value}{l:List α}{ec:List Value}{F:bW}(hl:ec.length=2)(ho:∀v∈ec,v.oneCell'=true)(h:Sep w [oX s l 0,OJ (KK s) (KD (aC.n α) 0 s) ec] F) :
  ∃c2,c2.length=(l.drop 1).length * 2/\l.length=(l.drop 1).length+1/\∀F,Sep w [oX s l 0,OJ (KK s) (KD (aC.n α) 0 s) ec] F->∃G Fe,aC.own w [s] (U1 (ec++c2)) G/\b7 w c2 (l.drop 1) Fe/\G.BA Fe/\∀b o,F b o↔G b o\/Fe b o:=by
 obtain⟨G1,G2,⟨a,c,b,off,c1,c2,F1,F3,e,h1,h2,hk,rfl,hr,k1,k3,o1,o3,d1,d2,d3,hG1⟩,_,_,_⟩:=h
 have hc2:=aFW hn o3
 have hdl:(l.drop 1).length=l.length - 1:=by simp
 have hdl':(l.drop (0+1)).length=l.length - 1:=by simp
 refine⟨c2,hc2,by omega,fun F h=>?_⟩
 obtain⟨G1',G2',⟨a',c',b',off',c1',c2',F1',F3',e',h1',h2',hk',e3,hr',k1',k3',o1',o3',d1',d2',d3',hG1'⟩,hAt,dG,hF⟩:=h
 rw [e] at e';cases e';cases e3
 have hcc:c2'=c2:=RY k3' k3 (by rw [aFW hn o3',hc2])
 subst hcc
 have hAt:(OJ (KK s) (KD (aC.n α) 0 s) ec).P w G2':=Sep.one.1 hAt
 obtain⟨k2,hz,hH⟩:=hAt
 subst e
 simp only [KK,KD,Nat.zero_mul,HX,hl] at k2 hz hH
 have hF1:∀b o,¬F1' b o:=by
  have:l.take 0=[]:=rfl
  rw [this] at o1'
  exact o1'.2
 rw [hn] at hr' k3' d3' hG1'
 have hp:(U1 (ec++c2')).length=l.length:=by
  rw [Y6 (n:=1) (by omega),pS,L7 (n:=1) (by omega),L7 hc2];omega
 have hraw:b7 w (ec++c2') (U1 (ec++c2')) F0:=by
  match ec,hl,ho with
  | [u,v],_,ho=>exact⟨[u,v],c2',F0,F0,rfl,aNA (ho u (by simp)) (ho v (by simp)),aNB hn o3',fun _ _ h=>h.elim,fun _ _=>by simp [F0]⟩
 refine⟨dD b off (c * 2),F3',j4.2 ⟨_,c,by rw [hp],by rw [hp];exact h1',h2',.inr ⟨b,off,ec++c2',F0,rfl,fun o p=>?_,?_,hraw,fun _ _ h=>h.elim,fun _ _=>?_⟩⟩,o3',fun b o p q=>d3' b o q p,fun b' o=>?_⟩
 ·by_cases q:dD b off 2 b o
  ·refine⟨?_,hz o q⟩
   obtain⟨_,q1,q2⟩:=q
   have:=k2 (o - off) _ (fO (by omega))
   rw [show off+(o - off)=o by omega] at this
   rw [this];rfl
  ·exact hr' o p (by simpa using q)
 ·refine F9 k2 ?_
  rw [hl];simpa using k3'
 ·exact⟨.inl,fun q=>q.elim id fun q=>q.elim⟩
 ·rw [hF,hG1',hH]
  constructor
  ·rintro((⟨p,_⟩ | p | p) | p)
   ·exact .inl p
   ·exact(hF1 b' o p).elim
   ·exact .inr p
   ·obtain⟨rfl,p1,p2⟩:=p
    have:1 * 2<=c * 2:=nQ _ (by omega)
    exact .inl ⟨rfl,p1,by omega⟩
  ·rintro(p | p)
   ·by_cases q:dD b off 2 b' o
    ·exact .inr q
    ·exact .inl (.inl ⟨p,by simpa using q⟩)
   ·exact .inl (.inr (.inr p))
theorem aD6{B:Bl}:∀{cs:List SV} {vs:List Value},aR (bE B) cs=some vs->∀v∈vs,v.oneCell'=true
 | [],vs,h,v,hv=>by cases h;simp at hv
 | x :: r, vs, h, v, hv => by
  simp only [aR] at h
  split at h
  ·cases h
  ·rename_i y hy
   split at h
   ·cases h
   ·rename_i ys hys
    cases h
    rcases gI.1 hv with rfl | hv
    ·exact Z0 hy
    ·exact aD6 hys v hv
noncomputable section
variable {P:Program} {T:TT} {hT:C9 P T} {n:Nat} {c:Ctx} {B0:Bl} {N:Act->World->Prop} {X:Nat->Act->World->Prop} {Q:Act->World->Prop} {K K':List Fr} {m m':Nat} {e e':SE} {L L':List Ch} {cf cf' cf1 cf2:rR} {o:Oper} {Lv:List Ch} {d:Nat}
theorem hzR{α:Type}[aC α](hn:aC.n α=2){s:AC}{l:List α}{nb n0:Nat}{cs:List SV}(h h2 hv:Nat)(hs:QY (iW T n K cf m e L)=some (K',cf',m',e',L'))(hh:L'[h]?=some (.o (oX (s.v l.length) l 0)))(hb:L'[h2]?=some (.box nb cs))(hw:L'[hv]?=some (wOf α nb s n0 0))(hl:cs.length=2)(ha:cJ [h,h2]=true)(hz:([h,h2].all fun j=>eZ j cf'.uR)=true)
  (k:∀(us:List R2) (c2:List Value),us.length=l.length->us.drop 1=U1 c2->l.length=(l.drop 1).length+1->G (.mk P T hT n c B0 N X Q) K' m' e' (D3 L' [h,h2] ++ [ow s us,.o (cIn c2 (l.drop 1))]) cf'):G (.mk P T hT n c B0 N X Q) K m e L cf:=by
 refine go hs (chg (ι:={p:List R2×List Value // p.1.length=l.length/\p.1.drop 1=U1 p.2/\l.length=(l.drop 1).length+1}) (fun _=>m') (fun _=>e') (fun p=>D3 L' [h,h2] ++ [ow s p.1.1,.o (cIn p.1.2 (l.drop 1))]) (fun B a w hm hA hS=>?_) (fun _=>L5 _ hz) (fun p=>k p.1.1 p.1.2 p.2.1 p.2.2.1 p.2.2.2))
 obtain⟨⟨R,s1,s2⟩,s0⟩:=hS
 have f1:=s1.front [h,h2] ha
 rw [H8 (M:=[.o (oX (s.v l.length) l 0),.box nb cs]) (by simp [aR,hh,hb])] at f1
 obtain⟨F,S,hsep,_⟩:=f1.sep
 obtain⟨Fa,Fb,hab,_⟩:=Sep.append.1 hsep
 have hB:=s2 _ (rP hw)
 simp only [roF] at hB
 obtain⟨G1,G2,g1,g2,g3,g4⟩:=hab
 have g2:(LZ B nb cs).P w G2:=Sep.one.1 g2
 obtain⟨b,z,vs,q1,q2,q3⟩:=g2
 rw [hB] at q1;cases q1
 have hlv:vs.length=2:=by rw [<-hl];exact(jR q2)
 have e1:KK (s.v n0)=KK (s.v l.length):=aW9 s _ _
 have e2:KD (aC.n α) 0 (s.v n0)=KD (aC.n α) 0 (s.v l.length):=aXA s _ _ _ _
 rw [e1,e2] at q3
 obtain⟨c2,z1,z2,z3⟩:=aST hn hlv (aD6 q2) (F:=Fa) ⟨G1,G2,g1,Sep.one.2 q3,g3,g4⟩
 have hpl:(U1 (vs++c2)).length=l.length:=by rw [Y6 (n:=1) (by omega),pS,L7 (n:=1) (by omega),L7 z1];omega
 have hpd:(U1 (vs++c2)).drop 1=U1 c2:=by rw [Y6 (n:=1) (by omega)];exact List.drop_left' (L7 (n:=1) (by omega))
 refine⟨⟨(U1 (vs++c2),c2),hpl,hpd,z2⟩,[],by simpa using hm,by simpa using hA,⟨⟨R,?_,fun x hx=>?_⟩,s0⟩⟩
 ·rw [uH,uI,CC]
  have:=s1.shift [h,h2] ha (A':=[aW [s.v (U1 (vs++c2)).length] (U1 (vs++c2)),cIn c2 (l.drop 1)]) (fun F hF=>by
   rw [H8 (M:=[.o (oX (s.v l.length) l 0),.box nb cs]) (by simp [aR,hh,hb])] at hF
   obtain⟨G1,G2,g1,g2,g3,g4⟩:=hF
   have g2:(LZ B nb cs).P w G2:=Sep.one.1 g2
   obtain⟨b',z',vs',q1',q2',q3'⟩:=g2
   rw [hB] at q1';cases q1'
   rw [q2] at q2';cases q2'
   rw [e1,e2] at q3'
   obtain⟨G,Fe,a1,a2,a3,a4⟩:=z3 F ⟨G1,G2,g1,Sep.one.2 q3',g3,g4⟩
   rw [hpl]
   exact⟨G,Fe,a1,Sep.one.2 a2,a3,a4⟩)
  exact this
 ·rw [uH]
  rcases eX.1 hx with hx | hx
  ·rcases H7 _ _ hx with hx | hx
   ·exact s2 x hx
   ·subst hx;trivial
  ·simp only [gI,KF,or_false] at hx
   rcases hx with rfl | rfl <;> trivial
theorem joR{α:Type}[aC α](hn:aC.n α=2){s:AC}{us:List R2}{l:List α}{cs:List Value}(i j:Nat)(hi:L[i]?=some (ow s us))(hj:L[j]?=some (.o (cIn cs l)))(hu:us=U1 cs)(ha:cJ [i,j]=true)(hz:([i,j].all fun j=>eZ j cf.uR)=true)(hl:us.length=l.length)
  (k:G (.mk P T hT n c B0 N X Q) K m e (D3 L [i,j] ++ [ow s l]) cf):G (.mk P T hT n c B0 N X Q) K m e L cf:=by
 refine chg (fun _:Unit=>m) (fun _=>e) (fun _=>D3 L [i,j] ++ [ow s l]) (fun B a w hm hA hS=>?_) (fun _=>L5 _ hz) (fun _=>k)
 obtain⟨⟨R,s1,s2⟩,s0⟩:=hS
 refine⟨(),[],by simpa using hm,by simpa using hA,⟨⟨R,?_,fun x hx=>?_⟩,s0⟩⟩
 ·rw [uH,uI,CC]
  exact s1.shift [i,j] ha (A':=[aW [s.v l.length] l]) (fun F hF=>by
   rw [H8 (M:=[ow s us,.o (cIn cs l)]) (by simp [aR,hi,hj])] at hF
   obtain⟨G1,G2,g1,g2,g3,g4⟩:=hF
   have g2:b7 w cs l G2:=Sep.one.1 g2
   have g1:aC.own w [s.v us.length] us G1:=g1
   rw [hl] at g1
   have:=aSR hn g1 g2 hu g3
   exact Sep.one.2 (by
    have e:F=fun b o=>G1 b o\/G2 b o:=by funext b o;exact propext (g4 b o)
    rw [e];exact this))
 ·rw [uH]
  rcases eX.1 hx with hx | hx
  ·rcases H7 _ _ hx with hx | hx
   ·exact s2 x hx
   ·subst hx;trivial
  ·simp only [gI,KF,or_false] at hx
   subst hx;trivial
theorem dlW{α β:Type}[aC α](hn:aC.n α=2){f:FuncId}{kf:List α->Option β}{q:β}{s:AC}{l:List α}{us:List R2}{c2:List Value}(i j:Nat)
  (hs:cpS (iW T n K cf m e L)=some (o,some d,f,[.h s l.length,.i .i64 0,.i .i64 1],cf1,cf2,K',m',e',L')) (hi:L'[i]?=some (ow s us)) (hj:(D3 L' [i] ++ [ow s us])[j]?=some (.o (cIn c2 (l.drop 1)))) (hz:eZ i cf1.uR=true) (ha:cJ [L'.length,j]=true) (hz2:([L'.length,j].all fun j=>eZ j cf2.uR)=true)
  (hu:us.length=l.length) (hd:us.drop 1=U1 c2) (hl:l.length=(l.drop 1).length+1)
  (H:∀{κ:Ctx} {us:List R2},VS P κ f (aSS us 0 1) [.h s us.length,.i .i64 0,.i .i64 1] [] [ow s us] (fun(r:List R2) (y:AC)=>.h y r.length) (fun r y=>[ow y r]))
  (k:∀y:AC,W (G (.mk P T hT n c B0 N X Q) K' m' ((d,.h y (l.drop 1).length) :: e') (D3 (D3 L' [i] ++ [ow y (us.drop 1)]) [L'.length,j] ++ [ow y (l.drop 1)]) cf2) q (kf (l.drop 1))):W (G (.mk P T hT n c B0 N X Q) K m e L cf) q ((a0W l 0 1).bind kf):=fun hF=>by
 have hlen:(D3 L' [i]).length=L'.length:=by simp [D3]
 have hdl:∀{x},a0W l 0 1=some x->x=l.drop 1:=fun h=>by
  obtain⟨_,h⟩:=iG h
  cases h;simp
 refine cw0 (sv:=fun(r:List α) (y:AC)=>.h y r.length) (Lr:=fun _ y=>[ow y (us.drop 1)]) (M:=[ow s us]) (xs0:=[.h s l.length,.i .i64 0,.i .i64 1]) [i] hs (by simp [aR,hi]) rfl (by simp [DA,cJ,hz]) (fun _ _=>rfl) (fun{κ} _ {x} hx=>?_) hF (fun x h1 h2 y=>?_)
 ·have hr:aSS us 0 1=some (us.drop 1):=by rw [aVX (by omega)];simp
  have h:=H (κ:=κ) (us:=us) _ hr
  rw [hu] at h
  refine⟨h.call,fun vs hvs hst=>Calls.mono (h.run vs hvs hst) fun en w' hE=>?_⟩
  obtain⟨v,hv,y,e1,e2⟩:=hE
  refine⟨v,hv,y,?_,e2⟩
  rw [hdl hx,show(l.drop 1).length=(us.drop 1).length by simp [hu]];exact e1
 ·obtain rfl:=hdl h1
  refine joR hn L'.length j (by rw [BI (by omega)];simp [hlen]) ?_ hd ha hz2 (by simp [hu]) (k y h2)
  have hjl:j < L'.length:=by
   have h3:j < (D3 L' [i] ++ [ow s us]).length:=(g7.1 hj).1
   have h4:j≠L'.length:=by
    intro e;subst e;simp [cJ,eZ] at ha
   rw [pS,hlen] at h3;simp at h3;omega
  rw [F6 (by omega)] at hj ⊢
  exact hj
end
end Go.Gv
end
noncomputable section
namespace Go.Gv
open Go.Lib Go.Proofs
theorem L8{P:Program}(w:World)(dT sT ty elem:TypeId)(k b o dLen dCap:Nat)(a:Addr)(sLen sCap m:Nat)(cs:List Value)
  (hu:P.underlying dT=some (.slice elem)) (hs:(P.info? elem).map (·.size)=some k) (hm:Nat.min sLen dLen=m) (hn:cs.length=m * k)
  (hsrc:∀j v,cs[j]?=some v->w.cell? (a.add j)=some v) (hc:∀j,j < cs.length->(w.cell? ⟨b,o+j,none⟩).isSome=true) (hf:∀j,j < cs.length->w.frozen? ⟨b,o+j,none⟩=false) (h1:∀v∈cs,v.oneCell'=true) :
  (Builtin.copy_ #[dT,sT] ty #[.slice (some ⟨b,o,none⟩) dLen dCap,.slice (some a) sLen sCap]).run P w=.ok (goInt m) (w.setCells b o cs):=by
 have hl:=run_loadCells_list (P:=P) w a cs hsrc
 have hst:=run_storeCells_cells (P:=P) b o cs 0 w (by simpa using hc) (by simpa using hf) h1
 subst hm
 cases hq:P.info? elem with
 | none=>simp [hq] at hs
 | some i =>
  have hi:i.size=k:=by simpa [hq] using hs
  simp [Builtin.copy_,run_underlying hu,Builtin.lenOf,Builtin.firstCells,sizeOf,typeInfo,hq,hi,<-hn,hl,hst]
theorem vI(b o0 m:Nat):∀(vs:List Value) (o:Nat) (w:World),o0<=o->o+vs.length<=o0+m->dC (dD b o0 m) w (w.setCells b o vs)
 | [],_,w,_,_=>dC.refl _ _
 | v :: r, o, w, h1, h2 => by
  simp only [ER] at h2
  rw [World.setCells]
  exact(dC.setCell _ w ⟨b,o,none⟩ v ⟨rfl,h1,by show o < _;omega⟩ rfl).trans (vI b o0 m r (o+1) _ (by omega) (by omega)) fun _ _ _ h=>h
theorem WR{w w1:World}(b:Nat)(hb:w.heap.size<=b){vs:List Value}{o:Nat}(h:dC F0 w w1):dC F0 w (w1.setCells b o vs):=
 h.trans ((vI b o vs.length vs o w1 (iC _) (iC _)).mono (G:=dD b o vs.length) fun _ _ _ h=>h) (F:=F0) fun b' o' hlt hr=>by
  obtain⟨rfl,_⟩:=hr
  omega
theorem zC{w:World}{b o:Nat}{vs:List Value}(h:∀j,j < vs.length->(w.cell? ⟨b,o+j,none⟩).isSome=true):aV (w.setCells b o vs) b o vs:=fun j v hj=>by
 have hl:=(g7.1 hj).1
 rw [World.cell?_setCells_in b vs o w h j hl]
 exact(fO hl).symm.trans hj
theorem m4{w:World}{b o o':Nat}{vs cs:List Value}(h:aV w b o' cs)(hd:o'+cs.length<=o\/o+vs.length<=o'):aV (w.setCells b o vs) b o' cs:=fun j v hj=>by
 have hl:=(g7.1 hj).1
 rw [World.cell?_setCells_out b vs o w ⟨b,o'+j,none⟩ (fun _ _=>by show o'+j < o\/o+vs.length<=o'+j;omega)]
 exact h j v hj
theorem KW{w:World}{b o:Nat}{cs ds:List Value}(h:aV w b o cs)(k:aV w b (o+cs.length) ds):aV w b o (cs++ds):=fun j v hj=>by
 by_cases hl:j < cs.length
 ·rw [F6 hl] at hj;exact h j v hj
 ·rw [BI (by omega)] at hj
  have:=k _ v hj
  rw [show o+cs.length+(j - cs.length)=o+j by omega] at this
  exact this
theorem aKN{w:World}{b o n:Nat}{cs:List Value}(h:aV w b o cs):aV w b o (cs.take n):=fun j v hj=>by
 rw [BK] at hj
 split at hj
 ·exact h j v hj
 ·cases hj
theorem TD{w:World}{b o n o':Nat}{vs:List Value}(h:Row w b o n)(ho:o<=o'/\o'+vs.length<=o+n):Row (w.setCells b o' vs) b o n:=fun q hq=>by
 obtain⟨_,h2,h3⟩:=hq
 refine⟨Go.Proofs.isSome_setCells b vs o' w (fun j hj=>(h (o'+j) ⟨rfl,by omega,by omega⟩).1) q (h q ⟨rfl,h2,h3⟩).1,?_⟩
 rw [World.frozen?_setCells];exact(h q ⟨rfl,h2,h3⟩).2
def a2O(w:World)(k n:Nat)(ad:Option Addr)(c:Nat)(ccs:List Value)(e:Ending)(w':World):Prop:=
 ∃b o c',e=.returned (.slice (some ⟨b,o,none⟩) (n+1) c')/\n+1<=c'/\c'<=maxLen/\aV w' b o ccs/\Row w' b o (c' * k) /\
  ((ad=some ⟨b,o,none⟩/\c'=c/\dC (dD b o (c * k)) w w')\/(w.heap.size<=b/\dC F0 w w'))
def a2P(P:Program)(f k:Nat):Prop:=∀(b off n c i vb:Nat) (cs vs:List Value) (w:World),i < n->n+1<=c->c<=9223372036854775807->vb≠b->cs.length=n * k->vs.length=k ->
  aV w b off cs->(∀j,j < c * k->(w.cell? ⟨b,off+j,none⟩).isSome=true)->(∀j,j < c * k->w.frozen? ⟨b,off+j,none⟩=false) ->
  aV w vb 0 vs->(∀v∈cs,v.oneCell'=true)->(∀v∈vs,v.oneCell'=true) ->
  ∀(tA tB:TypeId) (kA kB:Nat),w.shape? vb=some (tA,kA)->w.shape? b=some (tB,kB)->kB≠0->w.frozen? ⟨vb,0,none⟩=false->w.frozen? ⟨vb,kA,none⟩=false ->
  Calls P f #[.slice (some ⟨b,off,none⟩) n c,.int .i64 i,.slice (some ⟨vb,0,none⟩) 1 1] w fun e w'=>
   e=.returned (.slice (some ⟨b,off,none⟩) (n+1) c)/\w'=(w.drew.setCells b (off+(i+1) * k) (cs.drop (i * k))).setCells b (off+i * k) vs
def a2Q(P:Program)(f k:Nat):Prop:=∀(b off n c vb:Nat) (vs:List Value) (w:World),n+1<=c->c<=9223372036854775807->vs.length=k ->
  (∀j,j < c * k->(w.cell? ⟨b,off+j,none⟩).isSome=true)->(∀j,j < c * k->w.frozen? ⟨b,off+j,none⟩=false)->aV w vb 0 vs->(∀v∈vs,v.oneCell'=true) ->
  Calls P f #[.slice (some ⟨b,off,none⟩) n c,.int .i64 n,.slice (some ⟨vb,0,none⟩) 1 1] w fun e w'=>
   e=.returned (.slice (some ⟨b,off,none⟩) (n+1) c)/\w'=w.setCells b (off+n * k) vs
def a2R(P:Program)(f k el:Nat)(z:Value):Prop:=∀(base:Option Addr) (n c vb:Nat) (cs vs:List Value) (w:World),n<=c->c < n+1->n+1<=1073741824->cs.length=n * k->vs.length=k->(base=none->n=0) ->
  (∀a,base=some a->∀j v,cs[j]?=some v->w.cell? (a.add j)=some v)->aV w vb 0 vs->(∀v∈vs,v.oneCell'=true) ->
  Calls P f #[.slice base n c,.int .i64 n,.slice (some ⟨vb,0,none⟩) 1 1] w fun e w'=>
   e=.returned (.slice (some ⟨w.heap.size,0,none⟩) (n+1) (grownCap w (n+1) c el)) /\
   w'=w.drew.alloc (.cells ((cs++vs).toArray++Builtin.zeroCells z.cells (grownCap w (n+1) c el - (n+1))) el)
def a2S(P:Program)(f k el:Nat)(z:Value):Prop:=∀(b off n c i vb:Nat) (cs vs:List Value) (w:World),i < n->n<=c->c < n+1->n+1<=1073741824->cs.length=n * k->vs.length=k ->
  aV w b off cs->aV w vb 0 vs->(∀v∈cs,v.oneCell'=true)->(∀v∈vs,v.oneCell'=true) ->
  Calls P f #[.slice (some ⟨b,off,none⟩) n c,.int .i64 i,.slice (some ⟨vb,0,none⟩) 1 1] w fun e w'=>
   e=.returned (.slice (some ⟨w.heap.size,0,none⟩) (n+1) (grownCap w (n+1) c el)) /\
   w'=(((w.alloc (.cells ((cs.take (i * k)).toArray++Builtin.zeroCells z.cells (n+1 - i)++Builtin.zeroCells z.cells (grownCap w (n+1) c el - (n+1))) el)).drew.setCells w.heap.size (i * k) vs).drew).setCells w.heap.size ((i+1) * k) (cs.drop (i * k))
def a0X(P:Program)(f k:Nat):Prop:=∀(ad:Option Addr) (n c i vb:Nat) (cs vs:List Value) (w:World),i<=n->n<=c->c<=maxLen->n+1<=1073741824->cs.length=n * k->vs.length=k ->
  aV w vb 0 vs->(∀v∈cs,v.oneCell'=true)->(∀v∈vs,v.oneCell'=true)->(∀o,w.frozen? ⟨vb,o,none⟩=false) ->
  ((ad=none/\c=0)\/∃b off,ad=some ⟨b,off,none⟩/\Row w b off (c * k)/\aV w b off cs/\(0 < c->vb≠b)) ->
  Calls P f #[.slice ad n c,.int .i64 i,.slice (some ⟨vb,0,none⟩) 1 1] w (a2O w k n ad c (cs.take (i * k)++vs++cs.drop (i * k)))
theorem aH2{w:World}{b o:Nat}(h:(w.cell? ⟨b,o,none⟩).isSome=true):∃t k,w.shape? b=some (t,k)/\k≠0:=by
 unfold World.cell? at h
 unfold World.shape?
 cases hh:w.heap[b]? with
 | none=>simp [hh] at h
 | some ob =>
  cases ob with
  | cells c el fr =>
   refine⟨el,c.size,rfl,?_⟩
   intro h0
   simp [hh,Array.eq_empty_of_size_eq_zero h0] at h
  | _=>simp [hh] at h
theorem aVY{P:Program}{f k el:Nat}{z:Value}(hk:0 < k)(hz:z.cells.size=k)(hS:a2P P f k)(hR:a2Q P f k)(hE:a2R P f k el z)(hG:a2S P f k el z):a0X P f k:=by
 intro ad n c i vb cs vs w hi hnc hcm hb hcl hvl hvs h1c h1v hfz hrow
 have hgc:n+1<=grownCap w (n+1) c el:=grownCap_ge _ _ _ _
 have hgm:grownCap w (n+1) c el<=maxLen:=grownCap_le_maxLen w (n+1) c el (by unfold maxLen;omega)
 have hnk:(n+1) * k=n * k+k:=by rw [fH];omega
 by_cases hin:i=n
 ·subst hin
  have e1:cs.take (i * k)=cs:=by rw [<-hcl];exact OR
  have e2:cs.drop (i * k)=[]:=by rw [<-hcl];exact List.drop_length
  rw [e1,e2,uH]
  by_cases hroom:i+1<=c
  ·rcases hrow with ⟨_,h0⟩ | ⟨b,off,rfl,hr,hc,_⟩
   ·omega
   have hck:(i+1) * k<=c * k:=nQ _ hroom
   refine(hR b off i c vb vs w hroom hcm hvl (fun j hj=>(hr _ ⟨rfl,by omega,by omega⟩).1) (fun j hj=>(hr _ ⟨rfl,by omega,by omega⟩).2) hvs h1v).mono ?_
   rintro e w' ⟨rfl,rfl⟩
   refine⟨b,off,c,rfl,hroom,hcm,KW (m4 hc (.inl (by omega))) (by rw [hcl];exact zC fun j hj=>(hr _ ⟨rfl,by omega,by omega⟩).1),TD hr ⟨by omega,by omega⟩,.inl ⟨rfl,rfl,vI b off _ vs _ w (by omega) (by omega)⟩⟩
  ·refine(hE ad i c vb cs vs w hnc (by omega) hb hcl hvl (fun h=>?_) (fun a ha=>?_) hvs h1v).mono ?_
   ·rcases hrow with ⟨_,h0⟩ | ⟨b,off,h1,_⟩
    ·omega
    ·rw [h] at h1;cases h1
   ·rcases hrow with ⟨h0,_⟩ | ⟨b,off,h1,hr,hc,_⟩
    ·rw [h0] at ha;cases ha
    ·rw [ha] at h1;cases h1
     intro j v hj
     rw [Addr.add_lit];exact hc j v hj
   rintro e w' ⟨rfl,rfl⟩
   have hsz:((cs++vs).toArray++Builtin.zeroCells z.cells (grownCap w (i+1) c el - (i+1))).size=grownCap w (i+1) c el * k:=by
    rw [Array.size_append,size_zeroCells,hz,List.size_toArray,pS,hcl,hvl,Nat.sub_mul,hnk]
    have:(i+1) * k<=grownCap w (i+1) c el * k:=nQ _ hgc
    omega
   refine⟨w.heap.size,0,_,rfl,hgc,hgm,fun j v hj=>?_,fun o ho=>⟨?_,World.frozen?_alloc_at (w:=w.drew) _ _ w.heap.size o rfl⟩,.inr ⟨iC _,(dC.drew F0 w).trans (dC.alloc _ _ _) fun _ _ _ h=>h⟩⟩
   ·rw [yO,World.cell?_alloc_at (w:=w.drew) _ _ w.heap.size j rfl]
    have hl:=(g7.1 hj).1
    rw [Array.getElem?_append_left (by simpa using hl)]
    simpa using hj
   ·obtain⟨_,_,h3⟩:=ho
    rw [World.cell?_alloc_at (w:=w.drew) _ _ w.heap.size o rfl,Array.getElem?_eq_getElem (by rw [hsz];omega)];rfl
 ·have hlt:i < n:=by omega
  have hik:(i+1) * k=i * k+k:=by rw [fH];omega
  have hink:(i+1) * k<=n * k:=nQ _ hlt
  have htl:(cs.take (i * k)).length=i * k:=by rw [yN];omega
  have hdl:(cs.drop (i * k)).length=n * k - i * k:=by rw [ES,hcl]
  rcases hrow with ⟨_,h0⟩ | ⟨b,off,rfl,hr,hc,hne⟩
  ·omega
  have hsv:=aH2 (w:=w) (b:=vb) (o:=0) (by rw [show(0:Nat)=0+0 from rfl,hvs 0 _ (fO (by omega))];rfl)
  obtain⟨tA,kA,hsa,_⟩:=hsv
  by_cases hroom:n+1<=c
  ·have hck:(n+1) * k<=c * k:=nQ _ hroom
   obtain⟨tB,kB,hsb,hkB⟩:=aH2 (w:=w) (b:=b) (o:=off) (hr off ⟨rfl,by omega,by omega⟩).1
   refine(hS b off n c i vb cs vs w hlt hroom hcm (hne (by omega)) hcl hvl hc (fun j hj=>(hr _ ⟨rfl,by omega,by omega⟩).1) (fun j hj=>(hr _ ⟨rfl,by omega,by omega⟩).2) hvs h1c h1v tA tB kA kB hsa hsb hkB (hfz _) (hfz _)).mono ?_
   rintro e w' ⟨rfl,rfl⟩
   have hc':aV w.drew b off cs:=hc
   have hr':Row w.drew b off (c * k):=hr
   have hr1:=TD (o':=off+(i+1) * k) (vs:=cs.drop (i * k)) hr' ⟨by omega,by omega⟩
   refine⟨b,off,c,rfl,hroom,hcm,?_,TD hr1 ⟨by omega,by omega⟩,.inl ⟨rfl,rfl,((dC.drew _ w).trans (vI b off _ _ _ _ (by omega) (by omega)) fun _ _ _ h=>h).trans (vI b off _ vs _ _ (by omega) (by omega)) fun _ _ _ h=>h⟩⟩
   refine KW (KW ?_ ?_) ?_
   ·exact m4 (m4 (aKN hc') (.inl (by omega))) (.inl (by omega))
   ·rw [htl];exact zC fun j hj=>(hr1 _ ⟨rfl,by omega,by omega⟩).1
   ·rw [pS,htl,hvl,<-hik]
    exact m4 (zC fun j hj=>(hr' _ ⟨rfl,by omega,by omega⟩).1) (.inr (by omega))
  ·refine(hG b off n c i vb cs vs w hlt hnc (by omega) hb hcl hvl hc hvs h1c h1v).mono ?_
   rintro e w' ⟨rfl,rfl⟩
   obtain⟨ROW,hROW⟩:∃ROW:Array Value,ROW=(cs.take (i * k)).toArray++Builtin.zeroCells z.cells (n+1 - i)++Builtin.zeroCells z.cells (grownCap w (n+1) c el - (n+1)):=⟨_,rfl⟩
   rw [<-hROW]
   have hsz:ROW.size=grownCap w (n+1) c el * k:=by
    rw [hROW,Array.size_append,Array.size_append,size_zeroCells,size_zeroCells,hz,List.size_toArray,htl,<-fH,<-fH]
    congr 1
    omega
   have hgk:(n+1) * k<=grownCap w (n+1) c el * k:=nQ _ hgc
   have hcN:∀j,(w.alloc (.cells ROW el)).cell? ⟨w.heap.size,j,none⟩=ROW[j]?:=fun j=>World.cell?_alloc_at (w:=w) ROW _ w.heap.size j rfl
   have hr0:Row (w.alloc (.cells ROW el)).drew w.heap.size 0 (grownCap w (n+1) c el * k):=fun o ho=>by
    obtain⟨_,_,h3⟩:=ho
    refine⟨?_,World.frozen?_alloc_at (w:=w) _ _ w.heap.size o rfl⟩
    show((w.alloc (.cells ROW el)).cell? _).isSome=true
    rw [hcN,Array.getElem?_eq_getElem (by rw [hsz];omega)];rfl
   have hc0:aV (w.alloc (.cells ROW el)).drew w.heap.size 0 (cs.take (i * k)):=fun j v hj=>by
    show(w.alloc (.cells ROW el)).cell? _=_
    have hl:=(g7.1 hj).1
    rw [yO,hcN,hROW,Array.append_assoc,Array.getElem?_append_left (by simpa using hl)]
    simpa using hj
   have hr1:=TD (o':=i * k) (vs:=vs) hr0 ⟨by omega,by omega⟩
   have hr1':Row ((w.alloc (.cells ROW el)).drew.setCells w.heap.size (i * k) vs).drew w.heap.size 0 (grownCap w (n+1) c el * k):=hr1
   refine⟨w.heap.size,0,_,rfl,hgc,hgm,?_,TD hr1' ⟨by omega,by omega⟩,.inr ⟨iC _,WR _ (iC _) ((WR _ (iC _) ((dC.alloc _ _ _).trans (dC.drew _ _) fun _ _ _ h=>h)).trans (dC.drew _ _) fun _ _ _ h=>h)⟩⟩
   refine KW (KW ?_ ?_) ?_
   ·exact m4 (show aV _ _ _ _ from m4 hc0 (.inl (by omega))) (.inl (by omega))
   ·rw [htl,yO]
    refine m4 (show aV _ _ _ _ from zC fun j hj=>?_) (.inl (by omega))
    have:=(hr0 (i * k+j) ⟨rfl,by omega,by omega⟩).1
    exact this
   ·rw [pS,htl,hvl,<-hik,yO]
    exact zC fun j hj=>(hr1' _ ⟨rfl,by omega,by omega⟩).1
def aYT{α:Type}[aC α](s:AC)(x:α):Chunk where
 P w F:=∃b cs,s=⟨some ⟨b,0,none⟩,1⟩/\b < w.heap.size/\(∀o,w.frozen? ⟨b,o,none⟩=false)/\aV w b 0 cs/\(∀w,aC.own w cs x F0)/\∀b' o,F b' o↔b'=b
 keep:=fun⟨b,cs,h1,h2,h3,h4,h5,h6⟩ hk hd=>⟨b,cs,h1,KG h2 hk.size,fun o=>(hk.uR b o h2).trans (h3 o),fun j v hj=>(hk.cell b _ h2 fun hg=>hd b _ ((h6 b _).2 rfl) hg).trans (h4 j v hj),h5,h6⟩
 lt:=fun⟨b,cs,h1,h2,h3,h4,h5,h6⟩ hF=>by rw [(h6 _ _).1 hF];exact h2
def cLs{α:Type}[aC α](s:AC)(v:List α):Chunk where
 P w F:=∃x,v=[x]/\(aYT s x).P w F
 keep:=fun⟨x,h1,h2⟩ hk hd=>⟨x,h1,(aYT s x).keep h2 hk hd⟩
 lt:=fun⟨x,_,h2⟩ hF=>(aYT s x).lt h2 hF
def a0Y{α:Type}(l:List α)(i:Int)(v:List α):Option (List α):=need (0<=i/\i<=(l.length:Int)/\l.length+v.length<=1073741824) (some (l.take i.toNat++v++l.drop i.toNat))
theorem aSU{α:Type}[aC α]{w:World}{cs:List Value}{x:α}(h:aC.own w cs x F0):b7 w cs [x] F0:=⟨cs,[],F0,F0,(uH _).symm,h,⟨rfl,fun _ _ h=>h⟩,fun _ _ h=>h.elim,fun _ _=>by simp [F0]⟩
theorem TE{α:Type}[aC α][Flat α]{w w':World}:∀{l:List α} {cs:List Value} {F:bW},b7 w cs l F->b7 w' cs l F0
 | [],cs,F,h=>⟨h.1,fun _ _ h=>h⟩
 | x :: r,cs,F,⟨c1,c2,F1,F2,e,h1,h2,hd,hF⟩=>⟨c1,c2,F0,F0,e,aQE h1,TE h2,fun _ _ h=>h.elim,fun _ _=>by simp [F0]⟩
theorem aNC{α:Type}[aC α]{w:World}:∀{l:List α} {cs:List Value} {F:bW},b7 w cs l F->∀v∈cs,v.oneCell'=true
 | [],cs,F,h,v,hv=>by rw [h.1] at hv;cases hv
 | x :: r, cs, F, ⟨c1, c2, F1, F2, e, h1, h2, hd, hF⟩, v, hv => by
  rw [e] at hv
  exact(eX.1 hv).elim (aC.rd_one (aC.own_rd h1) v) (aNC h2 v)
theorem a2T{P:Program}{κ:Ctx}{f:FuncId}{α:Type}[aC α][Flat α]{k:Nat}(hn:aC.n α=k)(hk:0 < k)(hC:a0X P f k)(hcall:∀args w,(callFunc f args).run P w=.ok (.enter f args) w){s v:List α}{i:Int}{s1 s2:AC} :
  VS P κ f (a0Y s i v) [.h s1 s.length,.i .i64 i,.h s2 v.length] [] [ow s1 s,.o (cLs s2 v)] (fun r (y:AC)=>.h y r.length) (fun r y=>[ow y r]):=fun r hr=>by
 unfold a0Y at hr
 obtain⟨⟨hi0,hi1,hb⟩,hr⟩:=iG hr
 obtain⟨j,rfl⟩:∃j:Nat,i=j:=⟨i.toNat,by omega⟩
 rw [I6] at hr
 cases hr
 refine⟨hcall,fun vs hv hS=>?_⟩
 simp [aR,dU,gV,bE] at hv
 subst hv
 obtain⟨⟨R,h1,h2⟩,h0⟩:=hS
 have h1:St κ κ.w0 [aW [s1.v s.length] s,cLs s2 v] R:=by simpa [jA] using h1
 obtain⟨F,S,⟨F1,F2,hs1,⟨F3,F4,hs2,_,_,hF34⟩,hdj,_⟩,_⟩:=h1.sep
 obtain⟨x,rfl,vb,cv,rfl,hvb,hvf,hvc,hvo,hvF⟩:=hs2
 have hs1:aC.own κ.w0 [s1.v s.length] s F1:=hs1
 obtain⟨a,c,he,hl1,hl2,hrest⟩:=j4.1 hs1
 obtain⟨sa,sc⟩:=s1
 simp only [AC.v,Value.slice.injEq,true_and] at he
 obtain⟨rfl,rfl⟩:=he
 have hvl:cv.length=k:=by rw [<-hn];exact aC.i7 (aC.own_rd (hvo κ.w0))
 have hv1:∀v∈cv,v.oneCell'=true:=aC.rd_one (aC.own_rd (hvo κ.w0))
 obtain⟨cs,hcl,hc1,hrow,hall⟩:∃cs,cs.length=s.length * k/\(∀v∈cs,v.oneCell'=true)/\((sa=none/\sc=0)\/∃b off,sa=some ⟨b,off,none⟩/\Row κ.w0 b off (sc * k)/\aV κ.w0 b off cs/\(0 < sc->vb≠b))/\∀w,b7 w cs s F0:=by
  rcases hrest with ⟨rfl,rfl,_⟩ | ⟨b,off,cc,Fe,rfl,hr,hc,ho,_,hF⟩
  ·have hsn:s=[]:=kZ (by omega)
   subst hsn
   exact⟨[],by simp,by simp,.inl ⟨rfl,rfl⟩,fun _=>⟨rfl,fun _ _ h=>h⟩⟩
  ·rw [hn] at hr hF
   refine⟨cc,by rw [<-hn];exact ho.length,aNC ho,.inr ⟨b,off,rfl,hr,hc,fun h0 e=>?_⟩,fun _=>TE ho⟩
   subst e
   have hk:0 < sc * k:=Nat.mul_pos h0 hk
   exact hdj vb off ((hF vb off).2 (.inl ⟨rfl,iC _,by omega⟩)) ((hF34 vb off).2 (.inl ((hvF vb off).2 rfl)))
 refine(hC sa s.length sc j vb cs cv κ.w0 (by omega) hl1 hl2 hb hcl hvl hvc hc1 hv1 hvf hrow).mono ?_
 rintro e w' ⟨b,o,c',rfl,hlc,hcm,hcc,hrw,hkk⟩
 have hlen:(s.take j ++ [x]++s.drop j).length=s.length+1:=by simp only [pS,yN,ER,aG7,ES];omega
 refine⟨_,rfl,⟨some ⟨b,o,none⟩,c'⟩,by simp [dU,gV,bE,AC.v];omega,⟨R,?_,by simp [roF]⟩,h0⟩
 have hcs:∀w,b7 w (cs.take (j * k)++cv++cs.drop (j * k)) (s.take j ++ [x]++s.drop j) F0:=fun w=>by
  have h:=hall w
  rw [<-RB j s] at h
  obtain⟨c1,c2,G1,G2,e,k1,k2,_,_⟩:=b7.split h
  have hl:c1.length=j * k:=by rw [k1.length,hn,yN];congr 1;omega
  rw [e,List.take_left' hl,List.drop_left' hl,qR,qR]
  exact b7.app (TE k1) (show b7 w (cv++c2) ([x]++s.drop j) F0 from b7.app (aSU (hvo w)) (TE k2) (fun _ _ h=>h.elim) fun _ _=>by simp [F0]) (fun _ _ h=>h.elim) fun _ _=>by simp [F0]
 have:=h1.aQI (w':=w') [0,1] rfl (A':=[aW [(⟨some ⟨b,o,none⟩,c'⟩:AC).v (s.take j ++ [x]++s.drop j).length] (s.take j ++ [x]++s.drop j)]) (fun F hF=>by
  obtain⟨F1',F2',q1,q2,q3,q4⟩:=hF
  have q1:aC.own κ.w0 [_] s F1':=q1
  have hown:aC.own w' [(⟨some ⟨b,o,none⟩,c'⟩:AC).v (s.take j ++ [x]++s.drop j).length] (s.take j ++ [x]++s.drop j) (dD b o (c' * k)):=
   j4.2 ⟨_,c',rfl,by rw [hlen];exact hlc,hcm,.inr ⟨b,o,_,F0,rfl,by rw [hn];exact hrw,hcc,hcs w',fun _ _ h=>h.elim,fun b' o'=>by rw [hn];simp [F0]⟩⟩
  rcases hkk with ⟨rfl,rfl,hK⟩ | ⟨hnew,hK⟩
  ·obtain⟨a',c'',he',_,_,hr'⟩:=j4.1 q1
   simp only [AC.v,Value.slice.injEq,true_and] at he'
   obtain⟨rfl,rfl⟩:=he'
   rcases hr' with ⟨h,_⟩ | ⟨b2,o2,cc2,Fe2,h,_,_,_,_,hF2⟩
   ·cases h
   ·cases h
    rw [hn] at hF2
    exact⟨_,_,hK,fun b' o' g=>(q4 b' o').2 (.inl ((hF2 b' o').2 (.inl g))),Sep.one.2 hown,fun b' o' g=>.inl ((q4 b' o').2 (.inl ((hF2 b' o').2 (.inl g))))⟩
  ·exact⟨_,F0,hK,fun _ _ h=>h.elim,Sep.one.2 hown,fun b' o' g=>.inr (by obtain⟨rfl,_⟩:=g;exact hnew)⟩)
 exact this.KN [2] rfl
noncomputable section
variable {P:Program} {T:TT} {hT:C9 P T} {n:Nat} {c:Ctx} {B0:Bl} {N:Act->World->Prop} {X:Nat->Act->World->Prop} {Q:Act->World->Prop} {K K':List Fr} {m m':Nat} {e e':SE} {L L' Lv:List Ch} {cf cf' cf1 cf2:rR} {o:Oper} {d:Nat}
variable {x:Operand} {t t2 el sz:Nat} {b1 b2 b3:Bool} {n1 n2 n3:Nat} {z1 z2 z3:List SV}
theorem ltL{α:Type}[aC α][Flat α](E:CO α)(y:E.ex)(q:α){zv:Value}(hinf:OK P el sz zv)(hs:iW T n K cf m e L=.op o Lv cf1 cf2 K' m' e' L')(ho:(o.op,o.dst)=(.buildSlice t 1 #[(0,x)],some d))(ht:yS T t=some ⟨.sl el,b1,n1,z1⟩)(hn:aC.n α=sz)(hm:Nat.ble 1 sz=true)(hsm:Nat.ble (1 * sz) 16777216=true)(hev:aR (fun p=>(g9 e' p.2).map fun v=>nbL (m0 v)) [((0:Nat),x)]=some ([q].map fun q=>E.cs q y))(hec:([q].all fun q=>Nat.beq (E.cs q y).length sz && (aR (bE []) (E.cs q y)).isSome)=true)(hL:∀q,E.Lx q y=[])
  (k:∀s':AC,G (.mk P T hT n c B0 N X Q) K' m' ((d,.h s' [q].length) :: e') (L' ++ [.o (cLs s' [q])]) cf2):G (.mk P T hT n c B0 N X Q) K m e L cf:=by
 refine aKE (l:=[q]) (fun s'=>L' ++ [.o (cLs s' [q])]) hs (congrArg Prod.snd ho) (fun _=>tG _) (fun B a w hA hS=>?_) k
 obtain⟨⟨R,s1,s2⟩,s0⟩:=hS
 obtain⟨vs,cells,g1,g2,g3,g4,g5⟩:=lits E y (sz:=sz) hA hL hev hec
 obtain⟨v,rfl⟩:∃v,vs=[v]:=by
  match vs,g2 with
  | [v],_=>exact⟨v,rfl⟩
 obtain⟨ti,hi,hz,hsz,hby⟩:=hinf
 obtain⟨h1,h2⟩:=g5.get hn
 have hcl:cells.length=sz:=by simpa using h1
 have hc:=ZX (len:=1) (m:=sz) (vs:=[v]) (ps:=[(0,x)]) (F:=fun i=>(if 1 * sz=0 then #[] else zv.cells)[i % (if 1 * sz=0 then #[] else zv.cells).size]!) rfl rfl g3 g4
 have hu:=D2 ht hT
 have hm0:¬1 * sz=0:=by have:=rQ hm;omega
 have hsm':¬1 * sz > 2 ^ 24:=by have:=rQ hsm;omega
 refine⟨⟨some ⟨w.heap.size,0,none⟩,1⟩,w.alloc (.cells cells.toArray el),fun _ a hA'=>?_,⟨R,?_,fun z hz=>?_⟩,s0⟩
 ·have hps:a.eval x=v:=by
   have:=E1 hA' g1
   simpa using this
  have ho':=congrArg Prod.fst ho
  simp only at ho'
  simp only [hm0,if_false] at hc
  have hm1:¬sz=0:=by omega
  have hs1:¬sz > 16777216:=by omega
  simp only [Nat.one_mul,hm1,if_false] at hc
  simp [execOp,ho',Instr.buildSlice,run_underlying hu,sizeOf,typeInfo,zeroValue,hi,hz,hsz,hps,hm1,hs1,AC.v]
  try simp at hc
  simp [hc,newRow]
 ·have:=s1.more (dC.alloc F0 w (.cells cells.toArray el)) (ch:=cLs ⟨some ⟨w.heap.size,0,none⟩,1⟩ [q]) ⟨fun b _=>b=w.heap.size,⟨q,rfl,w.heap.size,cells,rfl,by simp,fun o=>World.frozen?_alloc_at (w:=w) _ _ w.heap.size o rfl,fun j v hj=>?_,fun w'=>?_,fun _ _=>Iff.rfl⟩,fun b o hb=>NC hb.symm⟩
  ·simpa [jA] using this
  ·rw [yO,World.cell?_alloc_at (w:=w) _ _ w.heap.size j rfl];simpa using hj
  ·have:=h2 0 q rfl
   rw [show BL cells sz 0=cells by unfold BL;rw [Nat.zero_mul,NA,<-hcl];exact OR] at this
   exact Flat.own_of this
 ·rcases eX.1 hz with hz | hz
  ·exact s2 z hz
  ·simp at hz;subst hz;trivial
end
end Go.Gv
end
noncomputable section
namespace Go.Gv
def aH3(k:Nat):List Nat->Bool
 | []=>false
 | a :: r => match Nat.beq k a with
  | true=>true
  | false=>aH3 k r
def VD(is:List Nat):Nat->List Ch->List Ch
 | _,[]=>[]
 | k, x :: r => match aH3 k is with
  | true=>.no :: VD is (k+1) r
  | false=>x :: VD is (k+1) r
theorem aH4:∀(L:List Ch) (k:Nat),VD [] k L=L
 | [],_=>rfl
 | x :: L,k=>by simp only [VD,aH3,aH4 L]
theorem aND{k i:Nat}(r:List Nat)(h:k≠i):aH3 k (i :: r)=aH3 k r:=by
 have:Nat.beq k i=false:=by
  cases e:Nat.beq k i
  ·rfl
  ·exact absurd (i5 e) h
 simp only [aH3,this]
theorem aVZ(i:Nat)(r:List Nat):aH3 i (i :: r)=true:=by
 simp only [aH3,Nat.beq_refl]
theorem aNE(i:Nat)(r:List Nat):∀(L:List Ch) (k:Nat),i < k->VD (i :: r) k L=VD r k L
 | [],_,_=>rfl
 | x :: L, k, h => by
  simp only [VD,aND r (show k≠i by omega),aNE i r L (k+1) (by omega)]
theorem aH5(i:Nat)(r:List Nat):∀(L:List Ch) (k:Nat),k<=i->VD (i :: r) k L=VD r k (L.set (i - k) .no)
 | [],_,_=>rfl
 | x :: L, k, h => by
  by_cases e:k=i
  ·subst e
   rw [Nat.sub_self]
   simp only [List.set,VD,aVZ,aNE k r L (k+1) (by omega)]
   split <;> rfl
  ·obtain⟨d,hd⟩:∃d,i - k=d+1:=⟨i - k - 1,by omega⟩
   have h2:i - (k+1)=d:=by omega
   rw [hd]
   simp only [List.set,VD,aND r e,aH5 i r L (k+1) (by omega),h2]
theorem aSV:∀(is:List Nat) (L:List Ch),D3 L is=VD is 0 L
 | [],L=>(aH4 L 0).symm
 | i :: r, L => by
  rw [aH5 i r L 0 (gR _),Nat.sub_zero]
  exact aSV r _
noncomputable section
variable {P:Program} {T:TT} {hT:C9 P T} {n:Nat} {c:Ctx} {B0:Bl} {N:Act->World->Prop} {X:Nat->Act->World->Prop} {Q:Act->World->Prop} {K K':List Fr} {m m':Nat} {e e':SE} {L L' Lv:List Ch} {cf cf' cf1 cf2:rR} {o:Oper}
variable {α β ex:Type} {fo:Option α} {kf:α->Option β} {q:β} {d:Option Nat} {f:FuncId} {xs xs0:List SV} {M:List Ch} {sv:α->ex->SV} {Lr:α->ex->List Ch}
theorem a0Z{c1 c2 c3:List SV}{a1 a2 a3:α->ex->List SV}(i1 n1 o1 k1:Nat)(i2 n2 o2 k2:Nat)(i3 n3 o3 k3:Nat)(is:List Nat)
  (hs:cpS (iW T n K cf m e L)=some (o,d,f,xs,cf1,cf2,K',m',e',L')) (hb:Z8 L' [(i1,n1,o1,k1),(i2,n2,o2,k2),(i3,n3,o3,k3)]=some [c1,c2,c3]) (hi:aR (fun i=>L'[i]?) is=some M) (hx:aR (rnP [(i1,n1,o1,k1),(i2,n2,o2,k2),(i3,n3,o3,k3)] 0) xs=some xs0)
  (hk:(DA M && ([c1,c2,c3].all (tF.okC 0) && (cJ (i1 :: i2 :: i3 :: is) && (i1 :: i2 :: i3 :: is).all fun j=>eZ j cf1.uR)))=true)
  (hc:∀{κ:Ctx},HG c κ L' (i1 :: i2 :: i3 :: is)->∀{b1 b2 b3:Nat×Nat},VS P κ f fo xs0 [b1,b2,b3] (.box 0 c1 :: .box 1 c2 :: .box 2 c3 :: M) sv (fun x y=>.box 0 (a1 x y) :: .box 1 (a2 x y) :: .box 2 (a3 x y) :: Lr x y))
  (k:∀x,∀y:ex,W (G (.mk P T hT n c B0 N X Q) K' m' (W3 d (sv x y) e') (HL L' (VD (i1 :: i2 :: i3 :: is) 0 L'++Lr x y) [(i1,n1,o1,k1),(i2,n2,o2,k2),(i3,n3,o3,k3)] [a1 x y,a2 x y,a3 x y]) cf2) q (kf x)) (hn:∀x y,(TB [(i1,n1,o1,k1),(i2,n2,o2,k2),(i3,n3,o3,k3)] [a1 x y,a2 x y,a3 x y] && ([a1 x y,a2 x y,a3 x y].all (tF.okC 0) && (DA (Lr x y) && tF 0 (sv x y))))=true:=by exact fun _ _=>rfl):W (G (.mk P T hT n c B0 N X Q) K m e L cf) q (fo.bind kf):=
 a2H i1 n1 o1 k1 i2 n2 o2 k2 i3 n3 o3 k3 is hs hb hi hx hk hc (fun x y=>by rw [aSV];exact k x y) hn
end
end Go.Gv
end
noncomputable section
namespace Go.Gv
structure cL where
 b:List UInt8
 i:Int
 h:Int
 deriving DecidableEq,Inhabited
instance:aC cL:=aC.via (fun d=>(d.b,d.i,d.h))
instance:Fits cL:=Fits.via (fun d=>(d.b,d.i,d.h))
structure iD where
 Kind:Int
 Key:Int
 eH:Int
 deriving DecidableEq,Inhabited
instance:aC iD:=aC.via (fun d=>(d.Kind,d.Key,d.eH))
instance:Fits iD:=Fits.via (fun d=>(d.Kind,d.Key,d.eH))
theorem aYU{S:bW}{w:World}{cs:List Value}{d:iD}(h:aC.rd S w cs d):cs=[.int .i64 (d.Kind),.int .i64 (d.Key),.int .i64 (d.eH)]:=by
 obtain⟨c0,r0,e0,h0,n0⟩:=h
 have q0:c0=[_]:=h0
 obtain⟨c1,r1,e1,h1,n1⟩:=n0
 have q1:c1=[_]:=h1
 have q2:r1=[_]:=n1
 exact by rw [e0,e1,q0,q1,q2];rfl
instance:Flat iD:=⟨fun h=>Flat.own_of (α:=Int×Int×Int) h,fun h=>Flat.no (α:=Int×Int×Int) h⟩
theorem aYV(d:iD):OP [.int .i64 (d.Kind),.int .i64 (d.Key),.int .i64 (d.eH)] d []:=(show OP (α:=Int×Int×Int) _ (d.Kind,d.Key,d.eH) _ from (dL (c1:=[.int .i64 (d.Kind)]) (c2:=[.int .i64 (d.Key),.int .i64 (d.eH)]) (A:=[]) (B:=[]) (dE rfl) (dL (c1:=[.int .i64 (d.Key)]) (c2:=[.int .i64 (d.eH)]) (A:=[]) (B:=[]) (dE rfl) (dE rfl) rfl) rfl))
structure Batch where
 Collect:Bool
 bK:List iD
 deriving DecidableEq,Inhabited
instance:aC Batch:=aC.via (fun d=>(d.Collect,d.bK))
instance:Fits Batch:=Fits.via (fun d=>(d.Collect,d.bK))
theorem aH6{S:bW}{w:World}{cs:List Value}{d:Batch}(h:aC.rd S w cs d):∃v0:Value,cs=[.bool (d.Collect),v0]/\aC.rd S w [v0] d.bK:=by
 obtain⟨c0,r0,e0,h0,n0⟩:=h
 have q0:c0=[_]:=h0
 obtain⟨u1,q1⟩:=g8 n0
 rw [q1] at n0
 exact⟨u1,by rw [e0,q0,q1];rfl,n0⟩
theorem aH7(d:Batch){v0:Value}:OP [.bool (d.Collect),v0] d [aW [v0] d.bK]:=(show OP (α:=Bool×(List iD)) _ (d.Collect,d.bK) _ from (dL (c1:=[.bool (d.Collect)]) (c2:=[v0]) (A:=[]) (B:=[aW [v0] d.bK]) (dE rfl) D1 rfl))
structure aI where
 List:List Batch
 deriving DecidableEq,Inhabited
instance:aC aI:=aC.via (fun d=>(d.List))
instance:Fits aI:=Fits.via (fun d=>(d.List))
theorem aOT{S:bW}{w:World}{cs:List Value}{d:aI}(h:aC.rd S w cs d):∃v0:Value,cs=[v0]/\aC.rd S w [v0] d.List:=by
 obtain⟨u0,q0⟩:=g8 h
 rw [q0] at h
 exact⟨u0,q0,h⟩
theorem aOU(d:aI){v0:Value}:OP [v0] d [aW [v0] d.List]:=(show OP (α:=(List Batch)) _ (d.List) _ from D1)
structure tI where
 gL:List aI
 iI:List Int
 deriving DecidableEq,Inhabited
instance:aC tI:=aC.via (fun d=>(d.gL,d.iI))
instance:Fits tI:=Fits.via (fun d=>(d.gL,d.iI))
structure Heap where
 Bytes:List Int
 Class:List Int
 deriving DecidableEq,Inhabited
instance:aC Heap:=aC.via (fun d=>(d.Bytes,d.Class))
instance:Fits Heap:=Fits.via (fun d=>(d.Bytes,d.Class))
structure aO where
 aQ:List Int
 deriving DecidableEq,Inhabited
instance:aC aO:=aC.via (fun d=>(d.aQ))
instance:Fits aO:=Fits.via (fun d=>(d.aQ))
theorem aH8{S:bW}{w:World}{cs:List Value}{d:aO}(h:aC.rd S w cs d):∃v0:Value,cs=[v0]/\aC.rd S w [v0] d.aQ:=by
 obtain⟨u0,q0⟩:=g8 h
 rw [q0] at h
 exact⟨u0,q0,h⟩
theorem zD(d:aO){v0:Value}:OP [v0] d [aW [v0] d.aQ]:=(show OP (α:=(List Int)) _ (d.aQ) _ from D1)
theorem _root_.Go.Gv.St.aSW{c:Ctx}{L:List Chunk}{R:List Fact}{w:World}{s:Value}{l:List aO}{i:Nat}{x:aO}(h:St c w L R)(j:Nat)(hj:R[j]?=some (xN [s] l))(hi:l[i]?=some x):∃v0:Value,aV w (KK s) (KD 1 i s) [v0]/\St c w L (R ++ [xN [v0] x.aQ]):=by
 obtain⟨S,hS,hk⟩:=h.aQB hj
 obtain⟨ec,h1,h2⟩:=aG9 hS hi
 obtain⟨v0,q,q0⟩:=aH8 h2
 rw [q] at h1
 exact⟨v0,h1,hk _ (by intro f hf;simp only [gI,KF,or_false] at hf;subst hf;exact q0)⟩
structure aA where
 Global:List aO
 Own:List aO
 deriving DecidableEq,Inhabited
instance:aC aA:=aC.via (fun d=>(d.Global,d.Own))
instance:Fits aA:=Fits.via (fun d=>(d.Global,d.Own))
structure Mem where
 Heap:Heap
 aA:aA
 deriving DecidableEq,Inhabited
instance:aC Mem:=aC.via (fun d=>(d.Heap,d.aA))
instance:Fits Mem:=Fits.via (fun d=>(d.Heap,d.aA))
structure qT where
 On:Bool
 aN:Int
 gG:Bool
 Seen:Int
 deriving DecidableEq,Inhabited
instance:aC qT:=aC.via (fun d=>(d.On,d.aN,d.gG,d.Seen))
instance:Fits qT:=Fits.via (fun d=>(d.On,d.aN,d.gG,d.Seen))
theorem aYW{S:bW}{w:World}{cs:List Value}{d:qT}(h:aC.rd S w cs d):cs=[.bool (d.On),.int .i64 (d.aN),.bool (d.gG),.int .i64 (d.Seen)]:=by
 obtain⟨c0,r0,e0,h0,n0⟩:=h
 have q0:c0=[_]:=h0
 obtain⟨c1,r1,e1,h1,n1⟩:=n0
 have q1:c1=[_]:=h1
 obtain⟨c2,r2,e2,h2,n2⟩:=n1
 have q2:c2=[_]:=h2
 have q3:r2=[_]:=n2
 exact by rw [e0,e1,e2,q0,q1,q2,q3];rfl
theorem aSX{S:bW}{w:World}(d:qT):aC.rd S w [.bool (d.On),.int .i64 (d.aN),.bool (d.gG),.int .i64 (d.Seen)] d:=⟨[.bool (d.On)],[.int .i64 (d.aN),.bool (d.gG),.int .i64 (d.Seen)],rfl,rfl,⟨[.int .i64 (d.aN)],[.bool (d.gG),.int .i64 (d.Seen)],rfl,rfl,⟨[.bool (d.gG)],[.int .i64 (d.Seen)],rfl,rfl,rfl⟩⟩⟩
instance:Flat qT:=⟨fun h=>Flat.own_of (α:=Bool×Int×Bool×Int) h,fun h=>Flat.no (α:=Bool×Int×Bool×Int) h⟩
theorem aYX(d:qT):OP [.bool (d.On),.int .i64 (d.aN),.bool (d.gG),.int .i64 (d.Seen)] d []:=(show OP (α:=Bool×Int×Bool×Int) _ (d.On,d.aN,d.gG,d.Seen) _ from (dL (c1:=[.bool (d.On)]) (c2:=[.int .i64 (d.aN),.bool (d.gG),.int .i64 (d.Seen)]) (A:=[]) (B:=[]) (dE rfl) (dL (c1:=[.int .i64 (d.aN)]) (c2:=[.bool (d.gG),.int .i64 (d.Seen)]) (A:=[]) (B:=[]) (dE rfl) (dL (c1:=[.bool (d.gG)]) (c2:=[.int .i64 (d.Seen)]) (A:=[]) (B:=[]) (dE rfl) (dE rfl) rfl) rfl) rfl))
structure aJ where
 aN:Int
 cN:List qT
 deriving DecidableEq,Inhabited
instance:aC aJ:=aC.via (fun d=>(d.aN,d.cN))
instance:Fits aJ:=Fits.via (fun d=>(d.aN,d.cN))
structure dI where
 Handle:Int
 aN:Int
 deriving DecidableEq,Inhabited
instance:aC dI:=aC.via (fun d=>(d.Handle,d.aN))
instance:Fits dI:=Fits.via (fun d=>(d.Handle,d.aN))
theorem aNF{S:bW}{w:World}{cs:List Value}{d:dI}(h:aC.rd S w cs d):cs=[.int .i64 (d.Handle),.int .i64 (d.aN)]:=by
 obtain⟨c0,r0,e0,h0,n0⟩:=h
 have q0:c0=[_]:=h0
 have q1:r0=[_]:=n0
 exact by rw [e0,q0,q1];rfl
theorem aV0{S:bW}{w:World}(d:dI):aC.rd S w [.int .i64 (d.Handle),.int .i64 (d.aN)] d:=⟨[.int .i64 (d.Handle)],[.int .i64 (d.aN)],rfl,rfl,rfl⟩
instance:Flat dI:=⟨fun h=>Flat.own_of (α:=Int×Int) h,fun h=>Flat.no (α:=Int×Int) h⟩
theorem aV1(d:dI):OP [.int .i64 (d.Handle),.int .i64 (d.aN)] d []:=(show OP (α:=Int×Int) _ (d.Handle,d.aN) _ from (dL (c1:=[.int .i64 (d.Handle)]) (c2:=[.int .i64 (d.aN)]) (A:=[]) (B:=[]) (dE rfl) (dE rfl) rfl))
theorem aV2{S:bW}{w:World}{s:Value}{l:List dI}{i:Nat}{x:dI}(h:aC.rd S w [s] l)(hi:l[i]?=some x):aV w (KK s) (KD 2 i s) [.int .i64 (x.Handle),.int .i64 (x.aN)]:=by
 obtain⟨ec,h1,h2⟩:=aG9 h hi
 rw [aNF h2] at h1;exact h1
structure a8 where
 Rows:List dI
 deriving DecidableEq,Inhabited
instance:aC a8:=aC.via (fun d=>(d.Rows))
instance:Fits a8:=Fits.via (fun d=>(d.Rows))
theorem aH9{S:bW}{w:World}{cs:List Value}{d:a8}(h:aC.rd S w cs d):∃v0:Value,cs=[v0]/\aC.rd S w [v0] d.Rows:=by
 obtain⟨u0,q0⟩:=g8 h
 rw [q0] at h
 exact⟨u0,q0,h⟩
theorem aAB(d:a8){v0:Value}:OP [v0] d [aW [v0] d.Rows]:=(show OP (α:=(List dI)) _ (d.Rows) _ from D1)
theorem _root_.Go.Gv.St.aIA{c:Ctx}{L:List Chunk}{R:List Fact}{w:World}{s:Value}{l:List a8}{i:Nat}{x:a8}(h:St c w L R)(j:Nat)(hj:R[j]?=some (xN [s] l))(hi:l[i]?=some x):∃v0:Value,aV w (KK s) (KD 1 i s) [v0]/\St c w L (R ++ [xN [v0] x.Rows]):=by
 obtain⟨S,hS,hk⟩:=h.aQB hj
 obtain⟨ec,h1,h2⟩:=aG9 hS hi
 obtain⟨v0,q,q0⟩:=aH9 h2
 rw [q] at h1
 exact⟨v0,h1,hk _ (by intro f hf;simp only [gI,KF,or_false] at hf;subst hf;exact q0)⟩
structure aB where
 Mem:Mem
 aJ:aJ
 bO:List a8
 BW:List Int
 deriving DecidableEq,Inhabited
instance:aC aB:=aC.via (fun d=>(d.Mem,d.aJ,d.bO,d.BW))
instance:Fits aB:=Fits.via (fun d=>(d.Mem,d.aJ,d.bO,d.BW))
structure bV where
 Head:Int
 fX:Int
 jB:Int
 deriving DecidableEq,Inhabited
instance:aC bV:=aC.via (fun d=>(d.Head,d.fX,d.jB))
instance:Fits bV:=Fits.via (fun d=>(d.Head,d.fX,d.jB))
theorem aYY{S:bW}{w:World}{cs:List Value}{d:bV}(h:aC.rd S w cs d):cs=[.int .i64 (d.Head),.int .i64 (d.fX),.int .i64 (d.jB)]:=by
 obtain⟨c0,r0,e0,h0,n0⟩:=h
 have q0:c0=[_]:=h0
 obtain⟨c1,r1,e1,h1,n1⟩:=n0
 have q1:c1=[_]:=h1
 have q2:r1=[_]:=n1
 exact by rw [e0,e1,q0,q1,q2];rfl
theorem qU{S:bW}{w:World}(d:bV):aC.rd S w [.int .i64 (d.Head),.int .i64 (d.fX),.int .i64 (d.jB)] d:=⟨[.int .i64 (d.Head)],[.int .i64 (d.fX),.int .i64 (d.jB)],rfl,rfl,⟨[.int .i64 (d.fX)],[.int .i64 (d.jB)],rfl,rfl,rfl⟩⟩
instance:Flat bV:=⟨fun h=>Flat.own_of (α:=Int×Int×Int) h,fun h=>Flat.no (α:=Int×Int×Int) h⟩
theorem aYZ(d:bV):OP [.int .i64 (d.Head),.int .i64 (d.fX),.int .i64 (d.jB)] d []:=(show OP (α:=Int×Int×Int) _ (d.Head,d.fX,d.jB) _ from (dL (c1:=[.int .i64 (d.Head)]) (c2:=[.int .i64 (d.fX),.int .i64 (d.jB)]) (A:=[]) (B:=[]) (dE rfl) (dL (c1:=[.int .i64 (d.fX)]) (c2:=[.int .i64 (d.jB)]) (A:=[]) (B:=[]) (dE rfl) (dE rfl) rfl) rfl))
structure bN where
 Key:Int
 eH:Int
 Next:Int
 deriving DecidableEq,Inhabited
instance:aC bN:=aC.via (fun d=>(d.Key,d.eH,d.Next))
instance:Fits bN:=Fits.via (fun d=>(d.Key,d.eH,d.Next))
theorem aSY{S:bW}{w:World}{cs:List Value}{d:bN}(h:aC.rd S w cs d):cs=[.int .i64 (d.Key),.int .i64 (d.eH),.int .i64 (d.Next)]:=by
 obtain⟨c0,r0,e0,h0,n0⟩:=h
 have q0:c0=[_]:=h0
 obtain⟨c1,r1,e1,h1,n1⟩:=n0
 have q1:c1=[_]:=h1
 have q2:r1=[_]:=n1
 exact by rw [e0,e1,q0,q1,q2];rfl
theorem aSZ{S:bW}{w:World}(d:bN):aC.rd S w [.int .i64 (d.Key),.int .i64 (d.eH),.int .i64 (d.Next)] d:=⟨[.int .i64 (d.Key)],[.int .i64 (d.eH),.int .i64 (d.Next)],rfl,rfl,⟨[.int .i64 (d.eH)],[.int .i64 (d.Next)],rfl,rfl,rfl⟩⟩
instance:Flat bN:=⟨fun h=>Flat.own_of (α:=Int×Int×Int) h,fun h=>Flat.no (α:=Int×Int×Int) h⟩
structure Sub where
 Kind:Int
 A:Int
 Pc:Int
 E:Int
 Row:Int
 B:Int
 H:Int
 Out:Int
 Code:Int
 dS:Bool
 deriving DecidableEq,Inhabited
instance:aC Sub:=aC.via (fun d=>(d.Kind,d.A,d.Pc,d.E,d.Row,d.B,d.H,d.Out,d.Code,d.dS))
instance:Fits Sub:=Fits.via (fun d=>(d.Kind,d.A,d.Pc,d.E,d.Row,d.B,d.H,d.Out,d.Code,d.dS))
theorem aY0{S:bW}{w:World}{cs:List Value}{d:Sub}(h:aC.rd S w cs d):cs=[.int .i64 (d.Kind),.int .i64 (d.A),.int .i64 (d.Pc),.int .i64 (d.E),.int .i64 (d.Row),.int .i64 (d.B),.int .i64 (d.H),.int .i64 (d.Out),.int .i64 (d.Code),.bool (d.dS)]:=by
 obtain⟨c0,r0,e0,h0,n0⟩:=h
 have q0:c0=[_]:=h0
 obtain⟨c1,r1,e1,h1,n1⟩:=n0
 have q1:c1=[_]:=h1
 obtain⟨c2,r2,e2,h2,n2⟩:=n1
 have q2:c2=[_]:=h2
 obtain⟨c3,r3,e3,h3,n3⟩:=n2
 have q3:c3=[_]:=h3
 obtain⟨c4,r4,e4,h4,n4⟩:=n3
 have q4:c4=[_]:=h4
 obtain⟨c5,r5,e5,h5,n5⟩:=n4
 have q5:c5=[_]:=h5
 obtain⟨c6,r6,e6,h6,n6⟩:=n5
 have q6:c6=[_]:=h6
 obtain⟨c7,r7,e7,h7,n7⟩:=n6
 have q7:c7=[_]:=h7
 obtain⟨c8,r8,e8,h8,n8⟩:=n7
 have q8:c8=[_]:=h8
 have q9:r8=[_]:=n8
 exact by rw [e0,e1,e2,e3,e4,e5,e6,e7,e8,q0,q1,q2,q3,q4,q5,q6,q7,q8,q9];rfl
theorem aY1{S:bW}{w:World}(d:Sub):aC.rd S w [.int .i64 (d.Kind),.int .i64 (d.A),.int .i64 (d.Pc),.int .i64 (d.E),.int .i64 (d.Row),.int .i64 (d.B),.int .i64 (d.H),.int .i64 (d.Out),.int .i64 (d.Code),.bool (d.dS)] d:=⟨[.int .i64 (d.Kind)],[.int .i64 (d.A),.int .i64 (d.Pc),.int .i64 (d.E),.int .i64 (d.Row),.int .i64 (d.B),.int .i64 (d.H),.int .i64 (d.Out),.int .i64 (d.Code),.bool (d.dS)],rfl,rfl,⟨[.int .i64 (d.A)],[.int .i64 (d.Pc),.int .i64 (d.E),.int .i64 (d.Row),.int .i64 (d.B),.int .i64 (d.H),.int .i64 (d.Out),.int .i64 (d.Code),.bool (d.dS)],rfl,rfl,⟨[.int .i64 (d.Pc)],[.int .i64 (d.E),.int .i64 (d.Row),.int .i64 (d.B),.int .i64 (d.H),.int .i64 (d.Out),.int .i64 (d.Code),.bool (d.dS)],rfl,rfl,⟨[.int .i64 (d.E)],[.int .i64 (d.Row),.int .i64 (d.B),.int .i64 (d.H),.int .i64 (d.Out),.int .i64 (d.Code),.bool (d.dS)],rfl,rfl,⟨[.int .i64 (d.Row)],[.int .i64 (d.B),.int .i64 (d.H),.int .i64 (d.Out),.int .i64 (d.Code),.bool (d.dS)],rfl,rfl,⟨[.int .i64 (d.B)],[.int .i64 (d.H),.int .i64 (d.Out),.int .i64 (d.Code),.bool (d.dS)],rfl,rfl,⟨[.int .i64 (d.H)],[.int .i64 (d.Out),.int .i64 (d.Code),.bool (d.dS)],rfl,rfl,⟨[.int .i64 (d.Out)],[.int .i64 (d.Code),.bool (d.dS)],rfl,rfl,⟨[.int .i64 (d.Code)],[.bool (d.dS)],rfl,rfl,rfl⟩⟩⟩⟩⟩⟩⟩⟩⟩
instance:Flat Sub:=⟨fun h=>Flat.own_of (α:=Int×Int×Int×Int×Int×Int×Int×Int×Int×Bool) h,fun h=>Flat.no (α:=Int×Int×Int×Int×Int×Int×Int×Int×Int×Bool) h⟩
structure Seen where
 bV:Int
 fX:Int
 deriving DecidableEq,Inhabited
instance:aC Seen:=aC.via (fun d=>(d.bV,d.fX))
instance:Fits Seen:=Fits.via (fun d=>(d.bV,d.fX))
theorem aV3{S:bW}{w:World}{cs:List Value}{d:Seen}(h:aC.rd S w cs d):cs=[.int .i64 (d.bV),.int .i64 (d.fX)]:=by
 obtain⟨c0,r0,e0,h0,n0⟩:=h
 have q0:c0=[_]:=h0
 have q1:r0=[_]:=n0
 exact by rw [e0,q0,q1];rfl
instance:Flat Seen:=⟨fun h=>Flat.own_of (α:=Int×Int) h,fun h=>Flat.no (α:=Int×Int) h⟩
theorem aV4(d:Seen):OP [.int .i64 (d.bV),.int .i64 (d.fX)] d []:=(show OP (α:=Int×Int) _ (d.bV,d.fX) _ from (dL (c1:=[.int .i64 (d.bV)]) (c2:=[.int .i64 (d.fX)]) (A:=[]) (B:=[]) (dE rfl) (dE rfl) rfl))
structure aU where
 Key:Int
 HJ:Bool
 eH:Int
 deriving DecidableEq,Inhabited
instance:aC aU:=aC.via (fun d=>(d.Key,d.HJ,d.eH))
instance:Fits aU:=Fits.via (fun d=>(d.Key,d.HJ,d.eH))
theorem aS0{S:bW}{w:World}{cs:List Value}{d:aU}(h:aC.rd S w cs d):cs=[.int .i64 (d.Key),.bool (d.HJ),.int .i64 (d.eH)]:=by
 obtain⟨c0,r0,e0,h0,n0⟩:=h
 have q0:c0=[_]:=h0
 obtain⟨c1,r1,e1,h1,n1⟩:=n0
 have q1:c1=[_]:=h1
 have q2:r1=[_]:=n1
 exact by rw [e0,e1,q0,q1,q2];rfl
theorem aS1{S:bW}{w:World}(d:aU):aC.rd S w [.int .i64 (d.Key),.bool (d.HJ),.int .i64 (d.eH)] d:=⟨[.int .i64 (d.Key)],[.bool (d.HJ),.int .i64 (d.eH)],rfl,rfl,⟨[.bool (d.HJ)],[.int .i64 (d.eH)],rfl,rfl,rfl⟩⟩
instance:Flat aU:=⟨fun h=>Flat.own_of (α:=Int×Bool×Int) h,fun h=>Flat.no (α:=Int×Bool×Int) h⟩
theorem aS2(d:aU):OP [.int .i64 (d.Key),.bool (d.HJ),.int .i64 (d.eH)] d []:=(show OP (α:=Int×Bool×Int) _ (d.Key,d.HJ,d.eH) _ from (dL (c1:=[.int .i64 (d.Key)]) (c2:=[.bool (d.HJ),.int .i64 (d.eH)]) (A:=[]) (B:=[]) (dE rfl) (dL (c1:=[.bool (d.HJ)]) (c2:=[.int .i64 (d.eH)]) (A:=[]) (B:=[]) (dE rfl) (dE rfl) rfl) rfl))
structure eN where
 Is:Bool
 eH:Int
 deriving DecidableEq,Inhabited
instance:aC eN:=aC.via (fun d=>(d.Is,d.eH))
instance:Fits eN:=Fits.via (fun d=>(d.Is,d.eH))
theorem aY2{S:bW}{w:World}{cs:List Value}{d:eN}(h:aC.rd S w cs d):cs=[.bool (d.Is),.int .i64 (d.eH)]:=by
 obtain⟨c0,r0,e0,h0,n0⟩:=h
 have q0:c0=[_]:=h0
 have q1:r0=[_]:=n0
 exact by rw [e0,q0,q1];rfl
instance:Flat eN:=⟨fun h=>Flat.own_of (α:=Bool×Int) h,fun h=>Flat.no (α:=Bool×Int) h⟩
theorem aY3(d:eN):OP [.bool (d.Is),.int .i64 (d.eH)] d []:=(show OP (α:=Bool×Int) _ (d.Is,d.eH) _ from (dL (c1:=[.bool (d.Is)]) (c2:=[.int .i64 (d.eH)]) (A:=[]) (B:=[]) (dE rfl) (dE rfl) rfl))
structure aG where
 eA:Bool
 Batch:Batch
 aE:Int
 Pc:Int
 At:Int
 K:Int
 bV:Int
 fX:Int
 H:Int
 fP:Int
 Node:bN
 Found:Bool
 Code:Int
 Sub:Sub
 Reads:List Seen
 aL:List aU
 eN:List eN
 fQ:List Int
 bR:List Int
 cE:List Int
 deriving DecidableEq,Inhabited
instance:aC aG:=aC.via (fun d=>(d.eA,d.Batch,d.aE,d.Pc,d.At,d.K,d.bV,d.fX,d.H,d.fP,d.Node,d.Found,d.Code,d.Sub,d.Reads,d.aL,d.eN,d.fQ,d.bR,d.cE))
instance:Fits aG:=Fits.via (fun d=>(d.eA,d.Batch,d.aE,d.Pc,d.At,d.K,d.bV,d.fX,d.H,d.fP,d.Node,d.Found,d.Code,d.Sub,d.Reads,d.aL,d.eN,d.fQ,d.bR,d.cE))
theorem aV5{S:bW}{w:World}{cs:List Value}{d:aG}(h:aC.rd S w cs d):∃v0 v1 v2 v3 v4 v5 v6:Value,cs=[.bool (d.eA),.bool (d.Batch.Collect),v0,.int .i64 (d.aE),.int .i64 (d.Pc),.int .i64 (d.At),.int .i64 (d.K),.int .i64 (d.bV),.int .i64 (d.fX),.int .i64 (d.H),.int .i64 (d.fP),.int .i64 (d.Node.Key),.int .i64 (d.Node.eH),.int .i64 (d.Node.Next),.bool (d.Found),.int .i64 (d.Code),.int .i64 (d.Sub.Kind),.int .i64 (d.Sub.A),.int .i64 (d.Sub.Pc),.int .i64 (d.Sub.E),.int .i64 (d.Sub.Row),.int .i64 (d.Sub.B),.int .i64 (d.Sub.H),.int .i64 (d.Sub.Out),.int .i64 (d.Sub.Code),.bool (d.Sub.dS),v1,v2,v3,v4,v5,v6]/\aC.rd S w [v0] d.Batch.bK/\aC.rd S w [v1] d.Reads/\aC.rd S w [v2] d.aL/\aC.rd S w [v3] d.eN/\aC.rd S w [v4] d.fQ/\aC.rd S w [v5] d.bR/\aC.rd S w [v6] d.cE:=by
 obtain⟨c0,r0,e0,h0,n0⟩:=h
 have q0:c0=[_]:=h0
 obtain⟨c1,r1,e1,h1,n1⟩:=n0
 obtain⟨u1_0,q1,hq1_0⟩:=aH6 h1
 obtain⟨c2,r2,e2,h2,n2⟩:=n1
 have q2:c2=[_]:=h2
 obtain⟨c3,r3,e3,h3,n3⟩:=n2
 have q3:c3=[_]:=h3
 obtain⟨c4,r4,e4,h4,n4⟩:=n3
 have q4:c4=[_]:=h4
 obtain⟨c5,r5,e5,h5,n5⟩:=n4
 have q5:c5=[_]:=h5
 obtain⟨c6,r6,e6,h6,n6⟩:=n5
 have q6:c6=[_]:=h6
 obtain⟨c7,r7,e7,h7,n7⟩:=n6
 have q7:c7=[_]:=h7
 obtain⟨c8,r8,e8,h8,n8⟩:=n7
 have q8:c8=[_]:=h8
 obtain⟨c9,r9,e9,h9,n9⟩:=n8
 have q9:c9=[_]:=h9
 obtain⟨c10,r10,e10,h10,n10⟩:=n9
 have q10:=aSY h10
 obtain⟨c11,r11,e11,h11,n11⟩:=n10
 have q11:c11=[_]:=h11
 obtain⟨c12,r12,e12,h12,n12⟩:=n11
 have q12:c12=[_]:=h12
 obtain⟨c13,r13,e13,h13,n13⟩:=n12
 have q13:=aY0 h13
 obtain⟨c14,r14,e14,h14,n14⟩:=n13
 obtain⟨u14,q14⟩:=g8 h14
 rw [q14] at h14
 obtain⟨c15,r15,e15,h15,n15⟩:=n14
 obtain⟨u15,q15⟩:=g8 h15
 rw [q15] at h15
 obtain⟨c16,r16,e16,h16,n16⟩:=n15
 obtain⟨u16,q16⟩:=g8 h16
 rw [q16] at h16
 obtain⟨c17,r17,e17,h17,n17⟩:=n16
 obtain⟨u17,q17⟩:=g8 h17
 rw [q17] at h17
 obtain⟨c18,r18,e18,h18,n18⟩:=n17
 obtain⟨u18,q18⟩:=g8 h18
 rw [q18] at h18
 obtain⟨u19,q19⟩:=g8 n18
 rw [q19] at n18
 exact⟨u1_0,u14,u15,u16,u17,u18,u19,by rw [e0,e1,e2,e3,e4,e5,e6,e7,e8,e9,e10,e11,e12,e13,e14,e15,e16,e17,e18,q0,q1,q2,q3,q4,q5,q6,q7,q8,q9,q10,q11,q12,q13,q14,q15,q16,q17,q18,q19];rfl,hq1_0,h14,h15,h16,h17,h18,n18⟩
theorem kV(d:aG){v0:Value}{v1:Value}{v2:Value}{v3:Value}{v4:Value}{v5:Value}{v6:Value}:OP [.bool (d.eA),.bool (d.Batch.Collect),v0,.int .i64 (d.aE),.int .i64 (d.Pc),.int .i64 (d.At),.int .i64 (d.K),.int .i64 (d.bV),.int .i64 (d.fX),.int .i64 (d.H),.int .i64 (d.fP),.int .i64 (d.Node.Key),.int .i64 (d.Node.eH),.int .i64 (d.Node.Next),.bool (d.Found),.int .i64 (d.Code),.int .i64 (d.Sub.Kind),.int .i64 (d.Sub.A),.int .i64 (d.Sub.Pc),.int .i64 (d.Sub.E),.int .i64 (d.Sub.Row),.int .i64 (d.Sub.B),.int .i64 (d.Sub.H),.int .i64 (d.Sub.Out),.int .i64 (d.Sub.Code),.bool (d.Sub.dS),v1,v2,v3,v4,v5,v6] d [aW [v0] d.Batch.bK,aW [v1] d.Reads,aW [v2] d.aL,aW [v3] d.eN,aW [v4] d.fQ,aW [v5] d.bR,aW [v6] d.cE]:=(show OP (α:=Bool×Batch×Int×Int×Int×Int×Int×Int×Int×Int×bN×Bool×Int×Sub×(List Seen)×(List aU)×(List eN)×(List Int)×(List Int)×(List Int)) _ (d.eA,d.Batch,d.aE,d.Pc,d.At,d.K,d.bV,d.fX,d.H,d.fP,d.Node,d.Found,d.Code,d.Sub,d.Reads,d.aL,d.eN,d.fQ,d.bR,d.cE) _ from (dL (c1:=[.bool (d.eA)]) (c2:=[.bool (d.Batch.Collect),v0,.int .i64 (d.aE),.int .i64 (d.Pc),.int .i64 (d.At),.int .i64 (d.K),.int .i64 (d.bV),.int .i64 (d.fX),.int .i64 (d.H),.int .i64 (d.fP),.int .i64 (d.Node.Key),.int .i64 (d.Node.eH),.int .i64 (d.Node.Next),.bool (d.Found),.int .i64 (d.Code),.int .i64 (d.Sub.Kind),.int .i64 (d.Sub.A),.int .i64 (d.Sub.Pc),.int .i64 (d.Sub.E),.int .i64 (d.Sub.Row),.int .i64 (d.Sub.B),.int .i64 (d.Sub.H),.int .i64 (d.Sub.Out),.int .i64 (d.Sub.Code),.bool (d.Sub.dS),v1,v2,v3,v4,v5,v6]) (A:=[]) (B:=[aW [v0] d.Batch.bK,aW [v1] d.Reads,aW [v2] d.aL,aW [v3] d.eN,aW [v4] d.fQ,aW [v5] d.bR,aW [v6] d.cE]) (dE rfl) (dL (c1:=[.bool (d.Batch.Collect),v0]) (c2:=[.int .i64 (d.aE),.int .i64 (d.Pc),.int .i64 (d.At),.int .i64 (d.K),.int .i64 (d.bV),.int .i64 (d.fX),.int .i64 (d.H),.int .i64 (d.fP),.int .i64 (d.Node.Key),.int .i64 (d.Node.eH),.int .i64 (d.Node.Next),.bool (d.Found),.int .i64 (d.Code),.int .i64 (d.Sub.Kind),.int .i64 (d.Sub.A),.int .i64 (d.Sub.Pc),.int .i64 (d.Sub.E),.int .i64 (d.Sub.Row),.int .i64 (d.Sub.B),.int .i64 (d.Sub.H),.int .i64 (d.Sub.Out),.int .i64 (d.Sub.Code),.bool (d.Sub.dS),v1,v2,v3,v4,v5,v6]) (A:=[aW [v0] d.Batch.bK]) (B:=[aW [v1] d.Reads,aW [v2] d.aL,aW [v3] d.eN,aW [v4] d.fQ,aW [v5] d.bR,aW [v6] d.cE]) (aH7 _) (dL (c1:=[.int .i64 (d.aE)]) (c2:=[.int .i64 (d.Pc),.int .i64 (d.At),.int .i64 (d.K),.int .i64 (d.bV),.int .i64 (d.fX),.int .i64 (d.H),.int .i64 (d.fP),.int .i64 (d.Node.Key),.int .i64 (d.Node.eH),.int .i64 (d.Node.Next),.bool (d.Found),.int .i64 (d.Code),.int .i64 (d.Sub.Kind),.int .i64 (d.Sub.A),.int .i64 (d.Sub.Pc),.int .i64 (d.Sub.E),.int .i64 (d.Sub.Row),.int .i64 (d.Sub.B),.int .i64 (d.Sub.H),.int .i64 (d.Sub.Out),.int .i64 (d.Sub.Code),.bool (d.Sub.dS),v1,v2,v3,v4,v5,v6]) (A:=[]) (B:=[aW [v1] d.Reads,aW [v2] d.aL,aW [v3] d.eN,aW [v4] d.fQ,aW [v5] d.bR,aW [v6] d.cE]) (dE rfl) (dL (c1:=[.int .i64 (d.Pc)]) (c2:=[.int .i64 (d.At),.int .i64 (d.K),.int .i64 (d.bV),.int .i64 (d.fX),.int .i64 (d.H),.int .i64 (d.fP),.int .i64 (d.Node.Key),.int .i64 (d.Node.eH),.int .i64 (d.Node.Next),.bool (d.Found),.int .i64 (d.Code),.int .i64 (d.Sub.Kind),.int .i64 (d.Sub.A),.int .i64 (d.Sub.Pc),.int .i64 (d.Sub.E),.int .i64 (d.Sub.Row),.int .i64 (d.Sub.B),.int .i64 (d.Sub.H),.int .i64 (d.Sub.Out),.int .i64 (d.Sub.Code),.bool (d.Sub.dS),v1,v2,v3,v4,v5,v6]) (A:=[]) (B:=[aW [v1] d.Reads,aW [v2] d.aL,aW [v3] d.eN,aW [v4] d.fQ,aW [v5] d.bR,aW [v6] d.cE]) (dE rfl) (dL (c1:=[.int .i64 (d.At)]) (c2:=[.int .i64 (d.K),.int .i64 (d.bV),.int .i64 (d.fX),.int .i64 (d.H),.int .i64 (d.fP),.int .i64 (d.Node.Key),.int .i64 (d.Node.eH),.int .i64 (d.Node.Next),.bool (d.Found),.int .i64 (d.Code),.int .i64 (d.Sub.Kind),.int .i64 (d.Sub.A),.int .i64 (d.Sub.Pc),.int .i64 (d.Sub.E),.int .i64 (d.Sub.Row),.int .i64 (d.Sub.B),.int .i64 (d.Sub.H),.int .i64 (d.Sub.Out),.int .i64 (d.Sub.Code),.bool (d.Sub.dS),v1,v2,v3,v4,v5,v6]) (A:=[]) (B:=[aW [v1] d.Reads,aW [v2] d.aL,aW [v3] d.eN,aW [v4] d.fQ,aW [v5] d.bR,aW [v6] d.cE]) (dE rfl) (dL (c1:=[.int .i64 (d.K)]) (c2:=[.int .i64 (d.bV),.int .i64 (d.fX),.int .i64 (d.H),.int .i64 (d.fP),.int .i64 (d.Node.Key),.int .i64 (d.Node.eH),.int .i64 (d.Node.Next),.bool (d.Found),.int .i64 (d.Code),.int .i64 (d.Sub.Kind),.int .i64 (d.Sub.A),.int .i64 (d.Sub.Pc),.int .i64 (d.Sub.E),.int .i64 (d.Sub.Row),.int .i64 (d.Sub.B),.int .i64 (d.Sub.H),.int .i64 (d.Sub.Out),.int .i64 (d.Sub.Code),.bool (d.Sub.dS),v1,v2,v3,v4,v5,v6]) (A:=[]) (B:=[aW [v1] d.Reads,aW [v2] d.aL,aW [v3] d.eN,aW [v4] d.fQ,aW [v5] d.bR,aW [v6] d.cE]) (dE rfl) (dL (c1:=[.int .i64 (d.bV)]) (c2:=[.int .i64 (d.fX),.int .i64 (d.H),.int .i64 (d.fP),.int .i64 (d.Node.Key),.int .i64 (d.Node.eH),.int .i64 (d.Node.Next),.bool (d.Found),.int .i64 (d.Code),.int .i64 (d.Sub.Kind),.int .i64 (d.Sub.A),.int .i64 (d.Sub.Pc),.int .i64 (d.Sub.E),.int .i64 (d.Sub.Row),.int .i64 (d.Sub.B),.int .i64 (d.Sub.H),.int .i64 (d.Sub.Out),.int .i64 (d.Sub.Code),.bool (d.Sub.dS),v1,v2,v3,v4,v5,v6]) (A:=[]) (B:=[aW [v1] d.Reads,aW [v2] d.aL,aW [v3] d.eN,aW [v4] d.fQ,aW [v5] d.bR,aW [v6] d.cE]) (dE rfl) (dL (c1:=[.int .i64 (d.fX)]) (c2:=[.int .i64 (d.H),.int .i64 (d.fP),.int .i64 (d.Node.Key),.int .i64 (d.Node.eH),.int .i64 (d.Node.Next),.bool (d.Found),.int .i64 (d.Code),.int .i64 (d.Sub.Kind),.int .i64 (d.Sub.A),.int .i64 (d.Sub.Pc),.int .i64 (d.Sub.E),.int .i64 (d.Sub.Row),.int .i64 (d.Sub.B),.int .i64 (d.Sub.H),.int .i64 (d.Sub.Out),.int .i64 (d.Sub.Code),.bool (d.Sub.dS),v1,v2,v3,v4,v5,v6]) (A:=[]) (B:=[aW [v1] d.Reads,aW [v2] d.aL,aW [v3] d.eN,aW [v4] d.fQ,aW [v5] d.bR,aW [v6] d.cE]) (dE rfl) (dL (c1:=[.int .i64 (d.H)]) (c2:=[.int .i64 (d.fP),.int .i64 (d.Node.Key),.int .i64 (d.Node.eH),.int .i64 (d.Node.Next),.bool (d.Found),.int .i64 (d.Code),.int .i64 (d.Sub.Kind),.int .i64 (d.Sub.A),.int .i64 (d.Sub.Pc),.int .i64 (d.Sub.E),.int .i64 (d.Sub.Row),.int .i64 (d.Sub.B),.int .i64 (d.Sub.H),.int .i64 (d.Sub.Out),.int .i64 (d.Sub.Code),.bool (d.Sub.dS),v1,v2,v3,v4,v5,v6]) (A:=[]) (B:=[aW [v1] d.Reads,aW [v2] d.aL,aW [v3] d.eN,aW [v4] d.fQ,aW [v5] d.bR,aW [v6] d.cE]) (dE rfl) (dL (c1:=[.int .i64 (d.fP)]) (c2:=[.int .i64 (d.Node.Key),.int .i64 (d.Node.eH),.int .i64 (d.Node.Next),.bool (d.Found),.int .i64 (d.Code),.int .i64 (d.Sub.Kind),.int .i64 (d.Sub.A),.int .i64 (d.Sub.Pc),.int .i64 (d.Sub.E),.int .i64 (d.Sub.Row),.int .i64 (d.Sub.B),.int .i64 (d.Sub.H),.int .i64 (d.Sub.Out),.int .i64 (d.Sub.Code),.bool (d.Sub.dS),v1,v2,v3,v4,v5,v6]) (A:=[]) (B:=[aW [v1] d.Reads,aW [v2] d.aL,aW [v3] d.eN,aW [v4] d.fQ,aW [v5] d.bR,aW [v6] d.cE]) (dE rfl) (dL (c1:=[.int .i64 (d.Node.Key),.int .i64 (d.Node.eH),.int .i64 (d.Node.Next)]) (c2:=[.bool (d.Found),.int .i64 (d.Code),.int .i64 (d.Sub.Kind),.int .i64 (d.Sub.A),.int .i64 (d.Sub.Pc),.int .i64 (d.Sub.E),.int .i64 (d.Sub.Row),.int .i64 (d.Sub.B),.int .i64 (d.Sub.H),.int .i64 (d.Sub.Out),.int .i64 (d.Sub.Code),.bool (d.Sub.dS),v1,v2,v3,v4,v5,v6]) (A:=[]) (B:=[aW [v1] d.Reads,aW [v2] d.aL,aW [v3] d.eN,aW [v4] d.fQ,aW [v5] d.bR,aW [v6] d.cE]) (dE (aSZ _)) (dL (c1:=[.bool (d.Found)]) (c2:=[.int .i64 (d.Code),.int .i64 (d.Sub.Kind),.int .i64 (d.Sub.A),.int .i64 (d.Sub.Pc),.int .i64 (d.Sub.E),.int .i64 (d.Sub.Row),.int .i64 (d.Sub.B),.int .i64 (d.Sub.H),.int .i64 (d.Sub.Out),.int .i64 (d.Sub.Code),.bool (d.Sub.dS),v1,v2,v3,v4,v5,v6]) (A:=[]) (B:=[aW [v1] d.Reads,aW [v2] d.aL,aW [v3] d.eN,aW [v4] d.fQ,aW [v5] d.bR,aW [v6] d.cE]) (dE rfl) (dL (c1:=[.int .i64 (d.Code)]) (c2:=[.int .i64 (d.Sub.Kind),.int .i64 (d.Sub.A),.int .i64 (d.Sub.Pc),.int .i64 (d.Sub.E),.int .i64 (d.Sub.Row),.int .i64 (d.Sub.B),.int .i64 (d.Sub.H),.int .i64 (d.Sub.Out),.int .i64 (d.Sub.Code),.bool (d.Sub.dS),v1,v2,v3,v4,v5,v6]) (A:=[]) (B:=[aW [v1] d.Reads,aW [v2] d.aL,aW [v3] d.eN,aW [v4] d.fQ,aW [v5] d.bR,aW [v6] d.cE]) (dE rfl) (dL (c1:=[.int .i64 (d.Sub.Kind),.int .i64 (d.Sub.A),.int .i64 (d.Sub.Pc),.int .i64 (d.Sub.E),.int .i64 (d.Sub.Row),.int .i64 (d.Sub.B),.int .i64 (d.Sub.H),.int .i64 (d.Sub.Out),.int .i64 (d.Sub.Code),.bool (d.Sub.dS)]) (c2:=[v1,v2,v3,v4,v5,v6]) (A:=[]) (B:=[aW [v1] d.Reads,aW [v2] d.aL,aW [v3] d.eN,aW [v4] d.fQ,aW [v5] d.bR,aW [v6] d.cE]) (dE (aY1 _)) (dL (c1:=[v1]) (c2:=[v2,v3,v4,v5,v6]) (A:=[aW [v1] d.Reads]) (B:=[aW [v2] d.aL,aW [v3] d.eN,aW [v4] d.fQ,aW [v5] d.bR,aW [v6] d.cE]) D1 (dL (c1:=[v2]) (c2:=[v3,v4,v5,v6]) (A:=[aW [v2] d.aL]) (B:=[aW [v3] d.eN,aW [v4] d.fQ,aW [v5] d.bR,aW [v6] d.cE]) D1 (dL (c1:=[v3]) (c2:=[v4,v5,v6]) (A:=[aW [v3] d.eN]) (B:=[aW [v4] d.fQ,aW [v5] d.bR,aW [v6] d.cE]) D1 (dL (c1:=[v4]) (c2:=[v5,v6]) (A:=[aW [v4] d.fQ]) (B:=[aW [v5] d.bR,aW [v6] d.cE]) D1 (dL (c1:=[v5]) (c2:=[v6]) (A:=[aW [v5] d.bR]) (B:=[aW [v6] d.cE]) D1 D1 rfl) rfl) rfl) rfl) rfl) rfl) rfl) rfl) rfl) rfl) rfl) rfl) rfl) rfl) rfl) rfl) rfl) rfl) rfl))
structure jS where
 Kind:Int
 Who:Int
 aE:Int
 Code:Int
 bK:List iD
 eN:List eN
 deriving DecidableEq,Inhabited
instance:aC jS:=aC.via (fun d=>(d.Kind,d.Who,d.aE,d.Code,d.bK,d.eN))
instance:Fits jS:=Fits.via (fun d=>(d.Kind,d.Who,d.aE,d.Code,d.bK,d.eN))
theorem aY4{S:bW}{w:World}{cs:List Value}{d:jS}(h:aC.rd S w cs d):∃v0 v1:Value,cs=[.int .i64 (d.Kind),.int .i64 (d.Who),.int .i64 (d.aE),.int .i64 (d.Code),v0,v1]/\aC.rd S w [v0] d.bK/\aC.rd S w [v1] d.eN:=by
 obtain⟨c0,r0,e0,h0,n0⟩:=h
 have q0:c0=[_]:=h0
 obtain⟨c1,r1,e1,h1,n1⟩:=n0
 have q1:c1=[_]:=h1
 obtain⟨c2,r2,e2,h2,n2⟩:=n1
 have q2:c2=[_]:=h2
 obtain⟨c3,r3,e3,h3,n3⟩:=n2
 have q3:c3=[_]:=h3
 obtain⟨c4,r4,e4,h4,n4⟩:=n3
 obtain⟨u4,q4⟩:=g8 h4
 rw [q4] at h4
 obtain⟨u5,q5⟩:=g8 n4
 rw [q5] at n4
 exact⟨u4,u5,by rw [e0,e1,e2,e3,e4,q0,q1,q2,q3,q4,q5];rfl,h4,n4⟩
theorem aY5(d:jS){v0:Value}{v1:Value}:OP [.int .i64 (d.Kind),.int .i64 (d.Who),.int .i64 (d.aE),.int .i64 (d.Code),v0,v1] d [aW [v0] d.bK,aW [v1] d.eN]:=(show OP (α:=Int×Int×Int×Int×(List iD)×(List eN)) _ (d.Kind,d.Who,d.aE,d.Code,d.bK,d.eN) _ from (dL (c1:=[.int .i64 (d.Kind)]) (c2:=[.int .i64 (d.Who),.int .i64 (d.aE),.int .i64 (d.Code),v0,v1]) (A:=[]) (B:=[aW [v0] d.bK,aW [v1] d.eN]) (dE rfl) (dL (c1:=[.int .i64 (d.Who)]) (c2:=[.int .i64 (d.aE),.int .i64 (d.Code),v0,v1]) (A:=[]) (B:=[aW [v0] d.bK,aW [v1] d.eN]) (dE rfl) (dL (c1:=[.int .i64 (d.aE)]) (c2:=[.int .i64 (d.Code),v0,v1]) (A:=[]) (B:=[aW [v0] d.bK,aW [v1] d.eN]) (dE rfl) (dL (c1:=[.int .i64 (d.Code)]) (c2:=[v0,v1]) (A:=[]) (B:=[aW [v0] d.bK,aW [v1] d.eN]) (dE rfl) (dL (c1:=[v0]) (c2:=[v1]) (A:=[aW [v0] d.bK]) (B:=[aW [v1] d.eN]) D1 D1 rfl) rfl) rfl) rfl) rfl))
structure Table where
 aB:aB
 cH:List bV
 aP:List aG
 gL:List aI
 Log:List jS
 aE:Int
 deriving DecidableEq,Inhabited
instance:aC Table:=aC.via (fun d=>(d.aB,d.cH,d.aP,d.gL,d.Log,d.aE))
instance:Fits Table:=Fits.via (fun d=>(d.aB,d.cH,d.aP,d.gL,d.Log,d.aE))
end Go.Gv
end
