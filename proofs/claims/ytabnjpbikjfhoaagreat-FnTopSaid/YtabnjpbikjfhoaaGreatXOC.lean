import Derived.Test.YtabnjpbikjfhoaaGreatXOB
import Derived.RangeFuncWrites
import Derived.RangeFuncBox
import Derived.RangeFuncLeaves
import Derived.Shelf.Abstract
import Derived.WalkKit
import Derived.OwnWalkIn
import Derived.TacticsInMore
import Derived.LoopNIn
import Derived.LoopIn
import Derived.Shelf.Slices.CompactI
set_option linter.unusedVariables false
set_option linter.unusedSimpArgs false
set_option linter.unusedSectionVars false
set_option linter.constructorNameAsVariable false
set_option linter.unnecessarySimpa false
noncomputable section
namespace Go.Gv
universe u
theorem Q{α:Sort u}{a:α}:a=a:=Eq.refl a
def W{ρ:Type}(C:Prop)(r:ρ)(F:Option ρ):Prop:=F=some r->C
theorem wm{ρ:Type}{C:Prop}{r:ρ}{F F':Option ρ}(h:F'=F)(k:W C r F):W C r F':=h ▸ k
theorem wi{ρ:Type}{C:Prop}{r:ρ}{F:Option ρ}(h:F=some r)(k:W C r F):C:=k h
def VS(P:Program)(c:Ctx)(f:FuncId){ρ ex:Type}(F:Option ρ)(xs:List SV)(B0:Bl)(L0:List Ch)(sv:ρ->ex->SV)(Lf:ρ->ex->List Ch):Prop:=∀r,F=some r->FnS P f c xs B0 L0 sv Lf r
abbrev V0(P:Program)(c:Ctx)(f:FuncId){ρ:Type}(F:Option ρ)(xs:List SV)(sv:ρ->SV):Prop:=VS P c f F xs [] [] (fun r (_:Unit)=>sv r) (fun _ _=>[])
theorem VS.r{P:Program}{c:Ctx}{f:FuncId}{ρ ex:Type}{F:Option ρ}{xs:List SV}{B0:Bl}{L0:List Ch}{sv:ρ->ex->SV}{Lf:ρ->ex->List Ch}(h:VS P c f F xs B0 L0 sv Lf){r:ρ}(hF:F=some r):FnS P f c xs B0 L0 sv Lf r:=h r hF
def QR(P:Program)(fn:Func){rs:List ResultVar}(_:fn.results=rs.toArray)(c:Ctx)(B0:Bl){ρ ex:Type}(sv:ρ->ex->SV)(Lf:ρ->ex->List Ch)(r:ρ):Act->World->Prop:=QS P fn c B0 sv Lf r
def aXJ(T:TT)(rs:List ResultVar)(is:List Nat)(b0:Nat)(L2:List Ch):Stop->Option (SV×List Ch)
 | .ret m e L => match aKT T e L rs with
  | some x => match JD b0 (nbS x) with
   | true => match VM b0 m e L is b0 [] L2 with
    | some ([],L3)=>some (nbS x,L3)
    | _=>none
   | false=>none
  | none=>none
 | _=>none
def aS9(is:List Nat)(b0 mj:Nat)(ej:SE)(Lj:List Ch):Stop->Option (SE×List Ch)
 | .fin m e L=>VM b0 m e L is mj ej Lj
 | _=>none
def exQ(is:List Nat)(id b0 mj:Nat)(ej:SE)(Lj:List Ch):Stop->Option (SE×List Ch)
 | .ex i m e L => match Nat.beq i id with
  | true=>VM b0 m e L is mj ej Lj
  | false=>none
 | _=>none
def a6A:Stop->Stop
 | .fin m e L=>.ret m e L
 | _=>.stuck
def ixT(T:TT)(t n:Nat):Bool:=match C8 T t with
 | some ⟨.sl el, _, _, _⟩ => match C8 T el with
  | some ⟨_,_,sz,_⟩=>Nat.beq n sz
  | none=>false
 | _=>false
noncomputable section
variable {P:Program} {T:TT} {hT:JE P T} {n:Nat} {c:Ctx} {B0:Bl} {N:Act->World->Prop} {X:Nat->Act->World->Prop} {Q:Act->World->Prop} {K K':List Fr} {m m':Nat} {e e':SE} {L L' Lv:List Ch} {cf cf' cf1 cf2:yU} {o:Oper}
theorem c9(hT:JE P T){f:FuncId}{fn:Func}{cd:Code}{xs:List SV}{L0:List Ch}{ρ ex:Type}{sv:ρ->ex->SV}{Lf:ρ->ex->List Ch}{F:Option ρ}{rs:List ResultVar}(hc:∀args w,(callFunc f args).run P w=.ok (.enter f args) w)(hf:P.funcs[f]?=some fn)(hr:fn.results=rs.toArray)(hb:fn.body=some cd)(hm:fn.ntmps=n)
  (k:∀{r},W (G (.mk P T hT n c B0 (QR P fn hr c B0 sv Lf r) (fun _ _ _=>False) (QR P fn hr c B0 sv Lf r)) [] B0.length (aJY 0 xs) L0 (.c cd)) r F) (hl:Nat.ble xs.length n=true:=by exact rfl):VS P c f F xs B0 L0 sv Lf:=
 fun _ hF=>en n hc hf hT hb hm hl (k hF)
theorem aSB{rs:List ResultVar}{is:List Nat}{b0:Nat}{L2 L3:List Ch}{s:SV}{st:Stop}(h:aXJ T rs is b0 L2 st=some (s,L3)):∃m' e' L' x,st=.ret m' e' L'/\aKT T e' L' rs=some x/\nbS x=s/\JD b0 s=true/\VM b0 m' e' L' is b0 [] L2=some ([],L3):=by
 unfold aXJ at h
 split at h
 ·split at h
  ·rename_i h1
   split at h
   ·rename_i h2
    split at h
    ·rename_i h3
     cases h
     exact⟨_,_,_,_,rfl,h1,rfl,h2,h3⟩
    ·cases h
   ·cases h
  ·cases h
 ·cases h
theorem oL{fn:Func}{ρ ex:Type}{sv:ρ->ex->SV}{Lf:ρ->ex->List Ch}{r r':ρ}{rs:List ResultVar}{hr:fn.results=rs.toArray}{zz:Option ρ}(y:ex)(is:List Nat)(hz:zz=some r')(h:aXJ T rs is B0.length (Lf r' y) (kV T n K cf m e L)=some (sv r' y,Lf r' y)):W (G (.mk P T hT n c B0 N X (QR P fn hr c B0 sv Lf r)) K m e L cf) r zz:=fun hF=>by
 obtain⟨_,_,_,_,h1,h2,h3,h4,h5⟩:=aSB h
 exact rt y is hF hz h1 hr h2 h3 h4 h5
theorem cM{fn:Func}{ρ:Type}{sv:ρ->Unit->SV}{Lf:ρ->Unit->List Ch}{r r':ρ}{rs:List ResultVar}{hr:fn.results=rs.toArray}{zz:Option ρ}(hz:zz=some r')(h:aXJ T rs [] B0.length (Lf r' ()) (kV T n K cf m e L)=some (sv r' (),Lf r' ())):W (G (.mk P T hT n c B0 N X (QR P fn hr c B0 sv Lf r)) K m e L cf) r zz:=oL () [] hz h
theorem ON{fn:Func}{ρ ex:Type}{sv:ρ->ex->SV}{Lf:ρ->ex->List Ch}{r r':ρ}{rs:List ResultVar}{hr:fn.results=rs.toArray}{zz:Option ρ}(y:ex)(is:List Nat)(hz:zz=some r')(h:aXJ T rs is B0.length (Lf r' y) (a6A (kV T n K cf m e L))=some (sv r' y,Lf r' y)):W (G (.mk P T hT n c B0 (QR P fn hr c B0 sv Lf r) X Q) K m e L cf) r zz:=fun hF=>by
 obtain⟨m',e',L',_,h1,h2,h3,h4,h5⟩:=aSB h
 refine rf y is hF hz (m':=m') (e':=e') (L':=L') ?_ hr h2 h3 h4 h5
 unfold a6A at h1
 split at h1
 ·rename_i h0;rw [h0];cases h1;rfl
 ·cases h1
theorem aSC{is:List Nat}{b0 mj:Nat}{ej e3:SE}{Lj L3:List Ch}{st:Stop}(h:aS9 is b0 mj ej Lj st=some (e3,L3)):∃m' e' L',st=.fin m' e' L'/\VM b0 m' e' L' is mj ej Lj=some (e3,L3):=by
 unfold aS9 at h
 split at h
 ·exact⟨_,_,_,rfl,h⟩
 ·cases h
theorem pG{π υ α:Type}{eq:π->Prop}{mj:Nat}{ej:π->υ->SE}{Lj:π->υ->List Ch}{p:π}{q:α}{zz:Option α}(u:υ)(is:List Nat)(hz:(zz=some q)=eq p)(h:aS9 is B0.length mj (ej p u) (Lj p u) (kV T n K cf m e L)=some (ej p u,Lj p u)):W (G (.mk P T hT n c B0 (JP n c B0 eq mj ej Lj) X Q) K m e L cf) q zz:=fun hF=>by
 obtain⟨_,_,_,h1,h2⟩:=aSC h
 exact jn u is (hz ▸ hF) h1 h2
theorem bR{π α:Type}{eq:π->Prop}{mj:Nat}{ej:π->Unit->SE}{Lj:π->Unit->List Ch}{p:π}{q:α}{zz:Option α}(is:List Nat)(hz:(zz=some q)=eq p)(h:aS9 is B0.length mj (ej p ()) (Lj p ()) (kV T n K cf m e L)=some (ej p (),Lj p ())):W (G (.mk P T hT n c B0 (JP n c B0 eq mj ej Lj) X Q) K m e L cf) q zz:=pG () is hz h
theorem nxW{σ ρ υ:Type}{o:Step σ ρ}{mj:Nat}{el:σ->υ->SE}{Ll:σ->υ->List Ch}{s:σ}(u:υ)(is:List Nat)(h:aS9 is B0.length mj (el s u) (Ll s u) (kV T n K cf m e L)=some (el s u,Ll s u)):W (G (.mk P T hT n c B0 (NxP n c B0 o mj el Ll) X Q) K m e L cf) o (some (Step.next s)):=fun hF=>by
 obtain⟨_,_,_,h1,h2⟩:=aSC h
 exact nx u is hF h1 h2
theorem JG{σ ρ:Type}{o:Step σ ρ}{mj:Nat}{el:σ->Unit->SE}{Ll:σ->Unit->List Ch}{s:σ}(is:List Nat)(h:aS9 is B0.length mj (el s ()) (Ll s ()) (kV T n K cf m e L)=some (el s (),Ll s ())):W (G (.mk P T hT n c B0 (NxP n c B0 o mj el Ll) X Q) K m e L cf) o (some (Step.next s)):=nxW () is h
def BkR(n:Nat)(c:Ctx)(B0:Bl){β ρ σ υ:Type}{o:Step σ ρ}{ro:ρ}(_:∀p,o=.stop p->p=ro)(enc:β->ρ)(m:Nat)(ej:β->υ->SE)(Lj:β->υ->List Ch)(id:Nat)(X:Nat->Act->World->Prop):Nat->Act->World->Prop:=BkP n c B0 ro enc m ej Lj id X
theorem bkW{σ ρ β υ:Type}{o:Step σ ρ}{ro:ρ}{enc:β->ρ}{mj id:Nat}{ej:β->υ->SE}{Lj:β->υ->List Ch}{b:β}{hr:∀p,o=.stop p->p=ro}(u:υ)(is:List Nat)(h:exQ is id B0.length mj (ej b u) (Lj b u) (kV T n K cf m e L)=some (ej b u,Lj b u)):W (G (.mk P T hT n c B0 N (BkR n c B0 hr enc mj ej Lj id X) Q) K m e L cf) o (some (Step.stop (enc b))):=fun hF=>by
 unfold exQ at h
 split at h
 ·rename_i h0
  split at h
  ·rename_i hb
   rw [mR hb] at h0
   exact bk u is hF hr h0 h
  ·cases h
 ·cases h
theorem FV{σ ρ β:Type}{o:Step σ ρ}{ro:ρ}{enc:β->ρ}{mj id:Nat}{ej:β->Unit->SE}{Lj:β->Unit->List Ch}{b:β}{hr:∀p,o=.stop p->p=ro}(is:List Nat)(h:exQ is id B0.length mj (ej b ()) (Lj b ()) (kV T n K cf m e L)=some (ej b (),Lj b ())):W (G (.mk P T hT n c B0 N (BkR n c B0 hr enc mj ej Lj id X) Q) K m e L cf) o (some (Step.stop (enc b))):=bkW () is h
theorem MC{σ ρ α:Type}{o:Step σ ρ}{p ro:ρ}{F:ρ->Option α}{q:α}{C:Prop}(hr:∀p,o=.stop p->p=ro)(hF:F ro=some q)(k:W C q (F p)):W C o (some (Step.stop p)):=fun h=>k (re h rfl hr hF)
noncomputable section
variable {b:Bool} {α:Type} {A B':Option α} {q:α}
theorem bU{o:Operand}{x y:Code}(ss:List Nat)(hs:kV T n K cf m e L=.cond o b x y K' m' e' L')(ho:bA (F5 e') ss=some (ss.map fun _=>SV.b b))
  (k1:W (G (.mk P T hT n c B0 N X Q) K' m' (ovr true e' ss) L' (.c x)) q A) (k2:W (G (.mk P T hT n c B0 N X Q) K' m' (ovr false e' ss) L' (.c y)) q B'):W (G (.mk P T hT n c B0 N X Q) K m e L cf) q (if b=true then A else B'):=fun hF=>cs ss hs ho hF k1 k2
theorem aNT{o:Operand}{x y:Code}(ss:List Nat)(hs:kV T n K cf m e L=.cond o b x y K' m' e' L')(ho:bA (F5 e') ss=some (ss.map fun _=>SV.b b))
  (k1:b=true->W (G (.mk P T hT n c B0 N X Q) K' m' (ovr true e' ss) L' (.c x)) q A) (k2:b=false->W (G (.mk P T hT n c B0 N X Q) K' m' (ovr false e' ss) L' (.c y)) q B'):W (G (.mk P T hT n c B0 N X Q) K m e L cf) q (if b=true then A else B'):=fun hF=>csK ss hs ho hF k1 k2
theorem eA(ss:List Nat)(hs:kV T n K cf m e L=.case b cf' K' m' e' L')(ho:bA (F5 e') ss=some (ss.map fun _=>SV.b b))
  (k1:W (G (.mk P T hT n c B0 N X Q) K' m' (ovr true e' ss) L' cf') q A) (k2:W (G (.mk P T hT n c B0 N X Q) K' m' (ovr false e' ss) L' cf') q B'):W (G (.mk P T hT n c B0 N X Q) K m e L cf) q (if b=true then A else B'):=fun hF=>ca ss hs ho hF k1 k2
theorem aNU(ss:List Nat)(hs:kV T n K cf m e L=.case b cf' K' m' e' L')(ho:bA (F5 e') ss=some (ss.map fun _=>SV.b b))
  (k1:b=true->W (G (.mk P T hT n c B0 N X Q) K' m' (ovr true e' ss) L' cf') q A) (k2:b=false->W (G (.mk P T hT n c B0 N X Q) K' m' (ovr false e' ss) L' cf') q B'):W (G (.mk P T hT n c B0 N X Q) K m e L cf) q (if b=true then A else B'):=fun hF=>caK ss hs ho hF k1 k2
end
noncomputable section
variable {α β:Type} {fo:Option α} {kf:α->Option β} {q:β} {d:Nat} {f:FuncId} {xs:List SV}
theorem c0{sv:α->SV}(hs:kV T n K cf m e L=.call o (some d) f xs cf1 cf2 K' m' e' L')
  (hc:∀{w},HS c w L'->V0 P (cL w) f fo xs sv) (k:∀x,W (G (.mk P T hT n c B0 N X Q) K' m' ((d,sv x) :: e') L' cf2) q (kf x)):W (G (.mk P T hT n c B0 N X Q) K m e L cf) q (fo.bind kf):=fun hF=>cl0 hs (fun h _ hx=>hc h _ hx) hF fun x _ h=>k x h
theorem c1{ex:Type}{sv:α->ex->SV}{Lf:α->ex->List Ch}(hs:kV T n K cf m e L=.call o (some d) f xs cf1 cf2 K' m' e' L')
  (hc:∀{w},HS c w L'->VS P (cL w) f fo xs [] [] sv Lf) (k:∀x,∀y:ex,W (G (.mk P T hT n c B0 N X Q) K' m' ((d,sv x y) :: e') (L'++Lf x y) cf2) q (kf x)) (hn:∀x y,noF (Lf x y)=true:=by exact fun _ _=>rfl):W (G (.mk P T hT n c B0 N X Q) K m e L cf) q (fo.bind kf):=fun hF=>cl hs hn (fun h _ hx=>hc h _ hx) hF fun x _ h y=>k x y h
theorem DG{β:Type}{kf:α->Option β}{q:β}{iR:aK α}(C:MB α){d t:Nat}{s:AC}{i:Int}{ls:List α}(hs:kV T n K cf m e L=.idx o d t s ls.length i Lv cf1 cf2 K' m' e' L')(h1:bB c s ls)(ht:ixT T t (aK.n α)=true)
  (k:∀x,∀y:C.ex,C.sub c.S0 c.w0 x y->W (G (.mk P T hT n c B0 N X Q) K' (m'+1) ((d,.p m' 0) :: e') (L' ++ [.ro m' (C.cs x y)]) (cf2.ext [.ro m' (C.cs x y)])) q (kf x)):W (G (.mk P T hT n c B0 N X Q) K m e L cf) q ((idx ls i).bind kf):=fun hF=>by
 unfold ixT at ht
 split at ht
 ·rename_i h2
  split at ht
  ·rename_i h3
   exact ix C hs h1 hF h2 h3 (mR ht) fun x _ h y hy=>k x y hy h
  ·cases ht
 ·cases ht
theorem V5{β:Type}{kf:Int->Option β}{q:β}{d t:Nat}{s:AC}{i:Int}{ls:List Int}(hs:kV T n K cf m e L=.idx o d t s ls.length i Lv cf1 cf2 K' m' e' L')(h1:bB c s ls)(ht:ixT T t 1=true)
  (k:∀x,W (G (.mk P T hT n c B0 N X Q) K' (m'+1) ((d,.p m' 0) :: e') (L' ++ [.ro m' [.i .i64 x]]) (cf2.ext [.ro m' [.i .i64 x]])) q (kf x)):W (G (.mk P T hT n c B0 N X Q) K m e L cf) q ((idx ls i).bind kf):=DG cI hs h1 ht fun x _ _=>k x
theorem pP(hm:P.follows .mixedOrders=true){id:Nat}{ops:Array Oper}{zz:Option β}(is:List Nat)(hs:kV T n K cf m e L=.rgn id ops K' m' e' L')
  (k:∀{B1},W (G (.mk P T hT n c B0 N X Q) K' m' e' L' (.d B1 ops (List.replicate ops.size false) is (kl L' is) (kl L' is))) q zz) (hf:(aM7 ops && (okL m' (kl L' is) && (dV is && is.all fun j=>Nat.blt j L'.length)))=true:=by kernel_rfl):W (G (.mk P T hT n c B0 N X Q) K m e L cf) q zz:=fun hF=>dr is hs hm hf fun _=>k hF
theorem jC{π υ:Type}{zz:Option β}(j mj:Nat)(Fj:π->Option β)(ks:List Nat)(ej:π->υ->SE)(is:List Nat)(Lj:π->υ->List Ch)(hs:TH (kV T n K cf m e L)=some (K',cf',m',e',L'))
  (k1:W (G (.mk P T hT n c B0 (JP n c B0 (fun p=>Fj p=some q) mj (fun p u=>ej p u++kp e' ks) (fun p u=>Lj p u++kl L' is)) (XK (.mk P T hT n c B0 N X Q) (K'.drop j)) Q) (K'.take j) m' e' L' cf') q zz)
  (k2:∀p u,W (G (.mk P T hT n c B0 N X Q) (K'.drop j) mj (ej p u++kp e' ks) (Lj p u++kl L' is) .n) q (Fj p)):W (G (.mk P T hT n c B0 N X Q) K m e L cf) q zz:=fun hF=>cut j mj (fun p=>Fj p=some q) ks ej is Lj hs (k1 hF) fun p u h=>k2 p u h
theorem cV{zz:Option β}(j mj:Nat)(Fj:Bool->Option β)(ks:List Nat)(v:Nat)(is:List Nat)(hs:TH (kV T n K cf m e L)=some (K',cf',m',e',L'))
  (k1:W (G (.mk P T hT n c B0 (JP n c B0 (fun p=>Fj p=some q) mj (fun p (_:Unit)=>[(v,.b p)]++kp e' ks) (fun _ _=>[]++kl L' is)) (XK (.mk P T hT n c B0 N X Q) (K'.drop j)) Q) (K'.take j) m' e' L' cf') q zz)
  (k2:∀p,W (G (.mk P T hT n c B0 N X Q) (K'.drop j) mj ([(v,.b p)]++kp e' ks) ([]++kl L' is) .n) q (Fj p)):W (G (.mk P T hT n c B0 N X Q) K m e L cf) q zz:=jC j mj Fj ks (fun p (_:Unit)=>[(v,.b p)]) is (fun _ _=>[]) hs k1 fun p _=>k2 p
theorem QF{σ ρ υ γ ω:Type}{id:Nat}{y:Code}{fb:σ->Option (Step σ ρ)}{s0:σ}{gk:ρ->Option β}(u0:υ)(ks:List Nat)(el:σ->υ->SE)(is0 is:List Nat)(Ll:σ->υ->List Ch)(enc:γ->ρ)(kb:List Nat)(ej:γ->ω->SE)(ib:List Nat)(Lj:γ->ω->List Ch)
  (hs:kV T n K cf m e L=.loop id y K' m' e' L')
  (h0:VM B0.length m' e' L' is0 m' (el s0 u0++kp e' ks) (Ll s0 u0++kl L' is)=some (el s0 u0++kp e' ks,Ll s0 u0++kl L' is))
  (k1:∀{ro o},gk ro=some q->∀s u,(hr:∀p,o=.stop p->p=ro)->W (G (.mk P T hT n c B0 (NxP n c B0 o m' (fun s u=>el s u++kp e' ks) (fun s u=>Ll s u++kl L' is)) (BkR n c B0 hr enc m' (fun b u=>ej b u++kp e' kb) (fun b u=>Lj b u++kl L' ib) id (XK (.mk P T hT n c B0 N X Q) K')) Q) [] m' (el s u++kp e' ks) (Ll s u++kl L' is) (.c y)) o (fb s))
  (k2:∀b u,W (G (.mk P T hT n c B0 N X Q) K' m' (ej b u++kp e' kb) (Lj b u++kl L' ib) .n) q (gk (enc b))):W (G (.mk P T hT n c B0 N X Q) K m e L cf) q ((loop fb s0).bind gk):=fun hF=>
 lp u0 ks el is0 is Ll enc kb ej ib Lj hs hF h0 (fun ro h1 s u o h2 h3=>k1 h1 s u h3 h2) fun b u h=>k2 b u h
theorem OO{ρ:Type}{id:Nat}{y:Code}{fb:Int->Option (Step Int ρ)}{s0:Int}{gk:ρ->Option β}(v:Nat)(ks:List Nat)(is:List Nat)(enc:Unit->ρ)(kb:List Nat)(ib:List Nat)
  (hs:kV T n K cf m e L=.loop id y K' m' e' L')
  (h0:VM B0.length m' e' L' is m' ([(v,.i .i64 s0)]++kp e' ks) ([]++kl L' is)=some ([(v,.i .i64 s0)]++kp e' ks,[]++kl L' is))
  (k1:∀{ro o},gk ro=some q->∀s,(hr:∀p,o=.stop p->p=ro)->W (G (.mk P T hT n c B0 (NxP n c B0 o m' (fun s (_:Unit)=>[(v,.i .i64 s)]++kp e' ks) (fun _ _=>[]++kl L' is)) (BkR n c B0 hr enc m' (fun _ (_:Unit)=>[]++kp e' kb) (fun _ _=>[]++kl L' ib) id (XK (.mk P T hT n c B0 N X Q) K')) Q) [] m' ([(v,.i .i64 s)]++kp e' ks) ([]++kl L' is) (.c y)) o (fb s))
  (k2:W (G (.mk P T hT n c B0 N X Q) K' m' ([]++kp e' kb) ([]++kl L' ib) .n) q (gk (enc ()))):W (G (.mk P T hT n c B0 N X Q) K m e L cf) q ((loop fb s0).bind gk):=
 QF () ks (fun s (_:Unit)=>[(v,.i .i64 s)]) is is (fun _ _=>[]) enc kb (fun _ (_:Unit)=>[]) ib (fun _ _=>[]) hs h0 (fun h s _ hr=>k1 h s hr) fun _ _=>k2
theorem lrW{σ ρ υ:Type}{id:Nat}{y:Code}{fb:σ->Option (Step σ ρ)}{s0:σ}{gk:ρ->Option β}(u0:υ)(ks:List Nat)(el:σ->υ->SE)(is0 is:List Nat)(Ll:σ->υ->List Ch)
  (hs:kV T n K cf m e L=.loop id y K' m' e' L')
  (h0:VM B0.length m' e' L' is0 m' (el s0 u0++kp e' ks) (Ll s0 u0++kl L' is)=some (el s0 u0++kp e' ks,Ll s0 u0++kl L' is))
  (k1:∀{ro o},gk ro=some q->∀s u,(hr:∀p,o=.stop p->p=ro)->W (G (.mk P T hT n c B0 (NxP n c B0 o m' (fun s u=>el s u++kp e' ks) (fun s u=>Ll s u++kl L' is)) (BkP n c B0 ro (fun b:Empty=>nomatch b) m' (fun(b:Empty) (_:Unit)=>nomatch b) (fun b _=>nomatch b) id (XK (.mk P T hT n c B0 N X Q) K')) Q) [] m' (el s u++kp e' ks) (Ll s u++kl L' is) (.c y)) o (fb s)):W (G (.mk P T hT n c B0 N X Q) K m e L cf) q ((loop fb s0).bind gk):=fun hF=>
 lr u0 ks el is0 is Ll hs hF h0 fun ro h1 s u o h2 h3=>k1 h1 s u h3 h2
theorem uF{β:Type}{kf:α->Option β}{q:β}[aK α](E:CO α)(j:Nat){t:TypeId}{s:AC}{i:Int}{ls:List α}(hs:kV T n K cf m e L=.idx o d t s ls.length i Lv cf1 cf2 K' m' e' L')(hj:L'[j]?=some (ow s ls))(hz:hU j cf1.B8=true)
  (k:∀x,idx ls i=some x->∀y:E.ex,Shp s ls.length->W (G (.mk P T hT n c B0 N X Q) K' (m'+1) e' (L'.set j .no++([.o (yO (s.v ls.length) ls i.toNat),.box m' (E.cs x y),wOf α m' s ls.length i.toNat]++E.Lx x y)) (cf1.ext [wOf α m' s ls.length i.toNat])) q (kf x)):W (G (.mk P T hT n c B0 N X Q) K m e L cf) q ((idx ls i).bind kf):=fun hF=>oe E j hs hj hz hF fun x h1 h2 y h3=>k x h1 y h3 h2
end
noncomputable section
variable {α β ex:Type} {fo:Option α} {kf:α->Option β} {q:β} {d:Option Nat} {f:FuncId} {xs xs0:List SV} {M:List Ch} {sv:α->ex->SV} {Lr:α->ex->List Ch}
theorem QG(is:List Nat)
  (hs:cpS (kV T n K cf m e L)=some (o,d,f,xs,cf1,cf2,K',m',e',L')) (hi:bA (fun i=>L'[i]?) is=some M) (hx:bA (rnP [] 0) xs=some xs0)
  (hk:(TM M && (dV is && is.all fun j=>hU j cf1.B8))=true)
  (hc:∀{κ:Ctx},HG c κ L' is->VS P κ f fo xs0 [] M sv Lr)
  (k:∀x,∀y:ex,W (G (.mk P T hT n c B0 N X Q) K' m' (dse d (sv x y) e') (TL L' is++Lr x y) cf2) q (kf x)) (hn:∀x y,(TM (Lr x y) && JD 0 (sv x y))=true:=by exact fun _ _=>rfl):W (G (.mk P T hT n c B0 N X Q) K m e L cf) q (fo.bind kf):=fun hF=>
 cw0 is hs hi hx hk hn (fun h _ hx=>hc h _ hx) hF fun x _ h y=>k x y h
theorem dW{c1:List SV}{a1:α->ex->List SV}(i1 n1 o1 k1:Nat)(is:List Nat)
  (hs:cpS (kV T n K cf m e L)=some (o,d,f,xs,cf1,cf2,K',m',e',L')) (hb:aNJ L' [(i1,n1,o1,k1)]=some [c1]) (hi:bA (fun i=>L'[i]?) is=some M) (hx:bA (rnP [(i1,n1,o1,k1)] 0) xs=some xs0)
  (hk:(TM M && ([c1].all (JD.okC 0) && (dV (i1 :: is) && (i1 :: is).all fun j=>hU j cf1.B8)))=true)
  (hc:∀{κ:Ctx},HG c κ L' (i1 :: is)->∀{b1:Nat×Nat},VS P κ f fo xs0 [b1] (.box 0 c1 :: M) sv (fun x y=>.box 0 (a1 x y) :: Lr x y))
  (k:∀x,∀y:ex,W (G (.mk P T hT n c B0 N X Q) K' m' (dse d (sv x y) e') (QE L' (TL L' (i1 :: is)++Lr x y) [(i1,n1,o1,k1)] [a1 x y]) cf2) q (kf x)) (hn:∀x y,(aFF [(i1,n1,o1,k1)] [a1 x y] && ([a1 x y].all (JD.okC 0) && (TM (Lr x y) && JD 0 (sv x y))))=true:=by exact fun _ _=>rfl):W (G (.mk P T hT n c B0 N X Q) K m e L cf) q (fo.bind kf):=fun hF=>
 cw1 i1 n1 o1 k1 is hs hb hi hx hk hn (fun h _ _ hx=>hc h _ hx) hF fun x _ h y=>k x y h
theorem aB8{c1 c2:List SV}{a1 a2:α->ex->List SV}(i1 n1 o1 k1:Nat)(i2 n2 o2 k2:Nat)(is:List Nat)
  (hs:cpS (kV T n K cf m e L)=some (o,d,f,xs,cf1,cf2,K',m',e',L')) (hb:aNJ L' [(i1,n1,o1,k1),(i2,n2,o2,k2)]=some [c1,c2]) (hi:bA (fun i=>L'[i]?) is=some M) (hx:bA (rnP [(i1,n1,o1,k1),(i2,n2,o2,k2)] 0) xs=some xs0)
  (hk:(TM M && ([c1,c2].all (JD.okC 0) && (dV (i1 :: i2 :: is) && (i1 :: i2 :: is).all fun j=>hU j cf1.B8)))=true)
  (hc:∀{κ:Ctx},HG c κ L' (i1 :: i2 :: is)->∀{b1 b2:Nat×Nat},VS P κ f fo xs0 [b1,b2] (.box 0 c1 :: .box 1 c2 :: M) sv (fun x y=>.box 0 (a1 x y) :: .box 1 (a2 x y) :: Lr x y))
  (k:∀x,∀y:ex,W (G (.mk P T hT n c B0 N X Q) K' m' (dse d (sv x y) e') (QE L' (TL L' (i1 :: i2 :: is)++Lr x y) [(i1,n1,o1,k1),(i2,n2,o2,k2)] [a1 x y,a2 x y]) cf2) q (kf x)) (hn:∀x y,(aFF [(i1,n1,o1,k1),(i2,n2,o2,k2)] [a1 x y,a2 x y] && ([a1 x y,a2 x y].all (JD.okC 0) && (TM (Lr x y) && JD 0 (sv x y))))=true:=by exact fun _ _=>rfl):W (G (.mk P T hT n c B0 N X Q) K m e L cf) q (fo.bind kf):=fun hF=>
 cw2 i1 n1 o1 k1 i2 n2 o2 k2 is hs hb hi hx hk hn (fun h _ _ _ hx=>hc h _ hx) hF fun x _ h y=>k x y h
end
theorem aNV{α β:Type}{iR:aK α}{C:MB α}{sr:β->SV}{g:FuncId}{w:World}{p:α->Option β}(hc:∀args w,(callFunc g args).run P w=.ok (.enter g args) w)(hn:∀{κ:Ctx} {x y},C.sub κ.S0 κ.w0 x y->V0 P κ g (p x) [C.sv x y] sr):Fu1 P (cL w) C sr g [] p:=fu1 hc (by intro κ x y h q hq;exact hn h _ hq)
theorem aLA{α β:Type}{iR:aK α}{C:MB α}{sr:β->SV}{g:FuncId}{w:World}{Bs:Bl}{cs:List (Nat×List SV)}{p:α->Option β}(hc:∀args w,(callFunc g args).run P w=.ok (.enter g args) w)(hB:∀w1,gX F0 w w1->nJ (cL w1) w1 Bs (roL 0 cs))(hl:bA (gQ Bs) (aW5 0 cs)=some (aFD Bs))(hn:∀{w1 x y},gX F0 w w1->C.sub (RR w1) w1 x y->VS P (cL w1) g (p x) (C.sv x y :: aW5 0 cs) Bs (roL 0 cs) (fun r (_:Unit)=>sr r) (fun _ _=>[]))(hz:∀q,JD 0 (sr q)=true:=by exact fun _=>rfl):Fu1 P (cL w) C sr g (aFD Bs) p:=fk1 hc hB hl hz (by intro w1 x y h h' q hq;exact hn h h' _ hq)
noncomputable section
variable {α β:Type} {fo:Option α} {kf:α->Option β} {q:β} {d:Nat} {f g:FuncId} {xs:List SV} {sv:α->SV}
theorem aLB{n1:Nat}{c1:List SV}(is:List Nat)(hs:kV T n K cf m e L=.callp o (some d) f xs cf1 cf2 K' m' e' L')(hk:kl L' is=[.ro n1 c1])(ho:(aNF [(n1,c1)] && okA xs.dropLast)=true)(hx:xs=xs.dropLast ++ [.f g [n1]])
  (hc:∀{w},HS c w L'->∀{b1:Nat×Nat},(∀w1,gX F0 w w1->nJ (cL w1) w1 [b1] [.ro 0 c1])->V0 P (cL w) f fo (xs.dropLast ++ [.k (.func (.func g) #[] (aFD [b1]).toArray)]) sv)
  (k:∀x,W (G (.mk P T hT n c B0 N X Q) K' m' ((d,sv x) :: e') L' cf2) q (kf x)):W (G (.mk P T hT n c B0 N X Q) K m e L cf) q (fo.bind kf):=fun hF=>
 a7P is hs hk ho hx (fun h _ h2 _ hx=>hc h h2 _ hx) hF fun x _ h=>k x h
end
end
end Go.Gv
end
noncomputable section
namespace Go.Gv
def pV(y:Nat×Nat):Value:=.pointer (some ⟨y.1,y.2,none⟩)
noncomputable section
variable {P:Program} {T:TT} {hT:JE P T} {n:Nat} {c:Ctx} {B0:Bl} {N:Act->World->Prop} {X:Nat->Act->World->Prop} {Q:Act->World->Prop} {K K':List Fr} {m m':Nat} {e e':SE} {L L':List Ch} {cf cf1 cf2:yU} {o:Oper}
abbrev VP(P:Program)(c:Ctx)(f:FuncId){ρ:Type}(F:Option ρ)(xs:List SV)(cs:ρ->List SV):Prop:=VS P c f F xs [] [] (fun _ (y:Nat×Nat)=>.k (pV y)) (fun r y=>[.o (SX [y] 0 (cs r))])
theorem rtP{fn:Func}{ρ:Type}{r r':ρ}{t:Nat}{hr:fn.results=[ResultVar.tmp t].toArray}{zz:Option ρ}{cs:ρ->List SV}(is:List Nat)(hz:zz=some r')(hs:kV T n K cf m e L=.ret m' e' L')(hL:VM 0 m' e' L' is 1 [(t,.p 0 0)] [.box 0 (cs r')]=some ([(t,.p 0 0)],[.box 0 (cs r')]))(ho:JD.okC 0 (cs r')=true):W (G (.mk P T hT n c [] N X (QR P fn hr c [] (fun _ (y:Nat×Nat)=>.k (pV y)) (fun r y=>[.o (SX [y] 0 (cs r))]) r)) K m e L cf) r zz:=fun hF=>by
 subst hz;cases hF
 refine iG (g:=.mk P T hT n c [] N X _) ?_
 rw [hs]
 intro a w hr'
 obtain⟨B,hm,hA,hS⟩:=rO.VM hr' is hL
 have hB:∃y,B=[y]:=by
  cases B with
  | nil=>simp at hm
  | cons y B => cases B with
   | nil=>exact⟨y,rfl⟩
   | cons z B=>simp at hm
 obtain⟨y,rfl⟩:=hB
 have hS:nJ c w [y] [.box 0 (cs r)]:=hS
 have hA:gZ n [y] [(t,.p 0 0)] a:=hA
 have hv:aKT T [(t,.p 0 0)] [.box 0 (cs r)] [ResultVar.tmp t]=some (.p 0 0):=by simp [aKT,aWD,F5]
 obtain⟨v,h1,h2⟩:=aEC hr hT hA hS hv
 have hv':v=pV y:=by
  simp only [gQ,gV,bT,List.getElem?_cons_zero] at h1
  cases h1;rfl
 subst hv'
 refine⟨hA.d,_,h2,y,by simp [gQ,gV,bT,pV,Value.oneCell'],?_⟩
 obtain⟨⟨R,s1,s2⟩,s0⟩:=hS
 exact⟨⟨R,s1.imp (.cons (fun F h=>h) .nil),fun x hx=>by rcases fA.1 hx with rfl | hx <;> first | trivial | simp at hx⟩,s0⟩
theorem cP{α β:Type}{fo:Option α}{kf:α->Option β}{q:β}{d:Nat}{f:FuncId}{xs:List SV}{cs:α->List SV}(hs:kV T n K cf m e L=.call o (some d) f xs cf1 cf2 K' m' e' L')
  (hc:∀{w},HS c w L'->VP P (cL w) f fo xs cs) (k:∀x,W (G (.mk P T hT n c B0 N X Q) K' (m'+1) ((d,.p m' 0) :: e') (L' ++ [.box m' (cs x)]) cf2) q (kf x)) (hk:∀x,JD.okC 0 (cs x)=true:=by exact fun _=>rfl):W (G (.mk P T hT n c B0 N X Q) K m e L cf) q (fo.bind kf):=fun hF=>by
 refine iG (g:=.mk P T hT n c B0 N X Q) ?_
 rw [hs]
 intro fo' args ats ho hd hf ⟨ys,hys,hxs⟩ hA0 hdn hE
 subst hxs
 cases hfo:fo with
 | none=>rw [hfo] at hF;cases hF
 | some x =>
  rw [hfo] at hF
  refine hE Unit (fun _=>m'+1) (fun _=>(d,.p m' 0) :: e') (fun _=>L' ++ [.box m' (cs x)]) (fun _=>A2 _) (fun B a w next Q' hm hA hS hnext=>?_) (fun _=>k x hF)
  obtain⟨hcall,hrun⟩:=hc ⟨_,hS⟩ x hfo
  obtain⟨vs,h1,h2⟩:=aBU hA hys
  obtain⟨v,h3,h4⟩:=fC hA hf
  simp [gQ,bA] at h3
  subst h3
  have h5:=hrun vs (aED hA0 (by rw [VO];exact h1)) (aS6 w)
  have h6:=YX (w:=w) hcall ho h4 h2
  unfold Oper.wp
  rw [h6 _ a hA.env,Oper.upon_enter]
  refine Calls.mono h5 fun en w' ⟨v,hv,y,g1,g2⟩=>?_
  subst hv
  rw [hd]
  have hv':v=pV y:=by simpa [gQ,gV,bT,pV,Value.oneCell'] using g1.symm
  subst hv'
  have hb:∀{F:cK},(SX [y] 0 (cs x)).P w' F->(SX ((YC (.mk P T hT n c B0 N X Q) cf1++B) ++ [y]) m' (cs x)).P w' F:=fun⟨b,z,us,k1,k2,k3⟩=>by
   simp only [List.getElem?_cons_zero,YO] at k1
   refine⟨y.1,y.2,us,?_,?_,by rw [k1];exact k3⟩
   ·rw [MJ (by omega),hm];simp
   ·simpa using gA (fun x v h=>by simpa using iB (B:=[]) (YC (.mk P T hT n c B0 N X Q) cf1++B ++ [y]) h) (JJ (hk x) k2)
  have g3:gQ ((YC (.mk P T hT n c B0 N X Q) cf1++B) ++ [y]) (.p m' 0)=some (pV y):=by
   simp only [gQ,gV,bT]
   rw [MJ (by omega),hm]
   simp [pV]
  refine hnext () _ _ ⟨[y],by simp only [FX,yL,S8] at hm ⊢;omega,hA.ext g3 (hA.env.put (by simpa [sY,pO] using hdn) _),?_⟩
  obtain⟨⟨R,s1,s2⟩,s0⟩:=(hS.after (L2:=[.o (SX [y] 0 (cs x))]) rfl g2).app [y]
  refine⟨⟨R,s1.imp ?_,fun z hz=>?_⟩,s0⟩
  ·rw [y7,y7]
   exact j7.append (j7.refl _) (.cons (fun F h=>hb h) .nil)
  ·rcases e9.1 hz with hz | hz
   ·exact s2 z (V9 _ hz)
   ·rcases fA.1 hz with rfl | hz <;> first | trivial | simp at hz
def a4A(b:Bool)(off sz:Nat)(cs:List SV):Option SV:=match b with
 | true=>some (.g ((cs.drop off).take sz))
 | false => match cs[off]? with
  | some x => match x with
   | .g _=>none
   | .t _=>none
   | .f _ _=>none
   | .u=>none
   | y=>some y
  | none=>none
theorem a6B{α:Type}{F0:Option α}{q:α}{t ix sz d:Nat}{b:Bool}{k:TK}{z cs:List SV}{Fs:Array Field}{F:Field}{x:Operand}{r:SV}{Lv:List Ch}(hu:P.underlying t=some (.struct Fs))(hf:Fs[ix]?=some F)(hl:C8 T F.type=some ⟨k,b,sz,z⟩)(hs:opS (kV T n K cf m e L)=some (o,Lv,cf1,cf2,K',m',e',L'))(ho:(o.op,o.dst)=(.field t x ix,some d))(hx:jL e' x=some (.g cs))(hr:a4A b F.offset sz cs=some r)(hz:(!b || Nat.ble (F.offset+sz) cs.length)=true)
  (kk:W (G (.mk P T hT n c B0 N X Q) K' m' ((d,r) :: e') L' cf2) q F0):W (G (.mk P T hT n c B0 N X Q) K m e L cf) q F0:=fun hF=>
 pu hs (congrArg Prod.snd ho) (fun B a w hA _=>by
  obtain⟨v,h1,h2⟩:=fC hA hx
  simp only [gQ,gV] at h1
  split at h1
  case h_2=>cases h1
  rename_i vs hv
  cases h1
  have hlen:=mA hv
  have h0:o.op=.field t x ix:=congrArg Prod.fst ho
  have hag:=hT.agg _ _ hl
  have hsz:=hT.size _ _ hl
  cases b with
  | true =>
   have hz':=y9 (by simpa using hz)
   simp only [a4A] at hr;cases hr
   refine⟨.agg ((vs.drop F.offset).take sz).toArray,by simp only [gQ,gV,O3 sz (O2 F.offset hv)],fun _ a hA=>?_⟩
   have e:vs.toArray.extract F.offset (F.offset+sz)=((vs.drop F.offset).take sz).toArray:=by
    apply Array.ext'
    simp [List.extract_eq_take_drop]
   simp [execOp,h0,hA.eval h2,Instr.field,run_underlying hu,hf,part,asAgg,hag,hsz,e]
  | false =>
   simp only [a4A] at hr
   split at hr
   case h_2=>cases hr
   rename_i y hy
   obtain⟨u,h4,h5⟩:=O1 hv hy
   have hr':r=y:=by cases y <;> simp at hr <;> exact hr.symm
   subst hr'
   refine⟨u,aRG h4,fun _ a hA=>?_⟩
   simp [execOp,h0,hA.eval h2,Instr.field,run_underlying hu,hf,part,asAgg,hag,h5]) (kk hF)
end
end Go.Gv
end
noncomputable section
namespace Go.Gv
noncomputable section
variable {n:Nat} {c:Ctx} {B0:Bl} {m:Nat} {e:SE} {L:List Ch}
def kf(L xs:List Ch)(k:Nat):List Nat->List Ch
 | []=>[]
 | i :: is => match Nat.blt i k with
  | true => match L[i]? with
   | some x=>x :: kf L xs k is
   | none=>kf L xs k is
  | false => match xs[i - k]? with
   | some x=>x :: kf L xs k is
   | none=>kf L xs k is
end
end Go.Gv
end
noncomputable section
namespace Go.Gv
open Go Go.RowKit
noncomputable section
variable {F:Fence} {n:Nat} {P:Program}
def rfE{α:Type}(B n₀:Nat)(I Ix:List α->World->Prop)(xs:List α)(W:World):Exit->Act->World->Prop
 | .normal,_,W'=>KeepsFrom B W W'/\Below n₀ W W'/\I xs W'
 | .ret,_,W'=>KeepsFrom B W W'/\Ix xs W'
 | _,_,_=>False
theorem aXK{α:Type}{g:Operand}{ps:Array Tmp}{assign body:Code}{Q:Exit->Act->World->Prop}{a:Act}{w w0:World}{gf n₀ N:Nat}{lb:Array Value}{encs:α->Array Value}{S Sp:List α->Prop}
  (hro:F.round=none) (h1:1<=n) (hg:a.eval g=.func (.func gf) #[] lb) (hf:F.fn gf) (eg:∀args w,(callFunc gf args).run P w=.ok (.enter gf args) w)
  (hseq:SeqStopsK F (n - 1) P gf lb encs (Below n₀) S Sp N w0) (hn:n₀<=w.heap.size) (hb0:Below w0.heap.size w0 w) (hps:∀x,(encs x).size=ps.size)
  (I Ix:List α->World->Prop) (I2:List α->α->Act->World->Prop) (hI:OwnFrom w.heap.size I) (hIx:OwnFrom w.heap.size Ix) (hI2:∀x a1,OwnFrom w.heap.size fun pre W=>I2 pre x a1 W) (h0:I [] w)
  (hassign:∀(l:Nat) (pre:List α) (x:α) (W:World),w.heap.size<=W.heap.size->I pre W->pre.length < N->assign.wpIn (F.inRound l) (n - 1 - 1) P (Exit.then (fun a1 W1=>KeepsFrom w.heap.size W W1/\Below n₀ W W1/\I2 pre x a1 W1) (fun _ _ _=>False)) {tmps:=(ps.zip (encs x)).foldl (fun t (p,v)=>t.setIfInBounds p v) a.tmps,defers:=[]} W)
  (hbody:∀(l:Nat) (pre:List α) (x:α) (a1:Act) (W:World),I2 pre x a1 W->body.wpIn (F.inRound l) (n - 1 - 1) P (rfE w.heap.size n₀ I Ix (pre ++ [x]) W) a1 W)
  (hdone:∀(D:Nat) (xs:List α) (W:World),w.heap.size<=D->S xs->I xs W->W.heap[D]?=some (.deferred (some []))->Q .normal {a with defers:={target:=.collected D,args:=#[]} :: a.defers} W)
  (hstop:∀(D:Nat) (pre:List α) (W:World),w.heap.size<=D->Sp pre->Ix pre W->W.heap[D]?=some (.deferred (some []))->Code.ret.wpIn F n P Q {a with defers:={target:=.collected D,args:=#[]} :: a.defers} W) :
  (Code.rangeFunc g ps assign body).wpIn F n P Q a w:=by
 refine wpIn_rangeFunc fun fn hfn=>?_
 rw [hro]
 let B:=w.heap.size
 let rc:LoopState->Option Code->Loop:=fun st pe=>{state:=st,pending:=pe,fn,tmps:=a.tmps,params:=ps,assign,body,defers:=B}
 let W1:=(w.alloc (.deferred (some []))).alloc (.loop (rc .ready none))
 have s1:W1.heap.size=B+2:=by simp [W1,B]
 have L1:W1.heap[B+1]?=some (.loop (rc .ready none)):=by
  have:=World.alloc_heap_new (w.alloc (.deferred (some []))) (.loop (rc .ready none));rwa [World.size_alloc] at this
 have K1:W1.heap[B]?=some (.deferred (some [])):=(Below.heap_alloc _ _ _ (by simp [B])).trans (World.alloc_heap_new w _)
 have b1:Below w0.heap.size w0 W1:=hb0.trans ((((Below.refl _ w).alloc (iE _) _).alloc (by simp) _).mono hb0.size)
 have io:I [] W1:=hI.alloc _ (hI.alloc _ h0)
 let Bk:Loop->World->Prop:=fun r W=>W.heap[B+1]?=some (.loop r)/\W.heap[B]?=some (.deferred (some []))
 have kept:∀{r:Loop} {X Y:World} {row:Option Nat},Bk r X->X.grownBy Y row->(∀j,row=some j->W1.heap.size<=j/\∃o:Obj,X.heap[j]?=some o/\o.isWalk=true)->Bk r Y:=fun h hg hr=>
  ⟨(hg.block _ (S5.1 h.1).1 fun e=>by have:=(hr _ e.symm).1;omega).trans h.1,(hg.block _ (S5.1 h.2).1 fun e=>by have:=(hr _ e.symm).1;omega).trans h.2⟩
 have far:∀{X:World} {row:Option Nat},(∀j,row=some j->W1.heap.size<=j/\∃o:Obj,X.heap[j]?=some o/\o.isWalk=true)->∀j,row=some j->B<=j/\∃o:Obj,X.heap[j]?=some o/\o.isCells=false:=fun hr j e=>by
  obtain⟨q,o,h,hw⟩:=hr j e
  exact⟨by omega,o,h,Obj.not_cells_of_walk hw⟩
 have put:∀{r r':Loop} {X:World},Bk r X->Bk r' (X.putObj (B+1) (.loop r')):=fun h=>⟨World.putObj_heap_same (S5.1 h.1).1,(World.putObj_heap_other (by omega)).trans h.2⟩
 have blo:∀{r r':Loop} {X:World},Bk r X->Below n₀ X (X.putObj (B+1) (.loop r')):=fun h=>belowK_b (w:=w) hn _ _ _ _ (by omega) h.1 rfl rfl
 refine⟨B+1,[{target:=.collected B,args:=#[]}],W1,{target:=.fn (.func gf) lb,args:=#[.func (.yield (B+1)) #[] #[]]},W1,gf,#[.func (.yield (B+1)) #[] #[]]++lb,W1,run_enterLoop_outer _ _ _ _ _,?_,?_,?_,fun _=>h1,?_⟩
 ·simp only [resolve,hg]
  simp [go_sem]
 ·intro f' h'
  simp [Target.leads] at h'
  subst h'
  exact hf
 ·simp [invoke,go_sem,eg]
 refine(hseq (B+1) (fun pre W=>I pre W/\Bk (rc .ready none) W) (fun pre W=>Ix pre W/\Bk (rc .done (some .ret)) W) W1 b1 (fun s X Y row h hg hr=>⟨hI s X Y row h.1 hg (far hr),kept h.2 hg hr⟩) (fun s X Y row h hg hr=>⟨hIx s X Y row h.1 hg (far hr),kept h.2 hg hr⟩) ?_ ⟨io,L1,K1⟩).mono ?_
 ·rintro pre x W ⟨hi,hb⟩ hl
  have hsz:B<=W.heap.size:=by have:=(S5.1 hb.1).1;omega
  refine⟨fn,_,assign,body,run_yield (P:=P) (args:=encs x) hb.1 (hps x),roundIn_of_wpIn hfn (wpIn_mono (hassign _ pre x W hsz hi hl) ?_)⟩
  rintro e a1 W2 he
  cases e with
  | normal =>
   obtain⟨k2,q2,i2⟩:=he
   have hb2:Bk (rc .ready none) W2:=⟨k2.same _ _ (by omega) hb.1 rfl,k2.same _ _ (iE _) hb.2 rfl⟩
   refine⟨_,run_beginRound hb2.1 rfl,wpIn_mono (hbody _ pre x a1 _ ((hI2 x a1).putObj _ i2 (by omega) hb2.1 rfl)) ?_⟩
   have hb3:Bk (rc .busy none) (W2.putObj (B+1) (.loop (rc .busy none))):=put hb2
   rintro e a3 W3 hp
   cases e with
   | normal =>
    obtain⟨k3,q3,i3⟩:=hp
    have hb4:Bk (rc .busy none) W3:=⟨k3.same _ _ (by omega) hb3.1 rfl,k3.same _ _ (iE _) hb3.2 rfl⟩
    exact⟨_,_,run_endRound (P:=P) none hb4.1,.inl ⟨rfl,⟨hI.putObj _ i3 (by omega) hb4.1 rfl,put hb4⟩,((q2.trans (blo hb2)).trans q3).trans (blo hb4)⟩⟩
   | ret =>
    obtain⟨k3,i3⟩:=hp
    have hb4:Bk (rc .busy none) W3:=⟨k3.same _ _ (by omega) hb3.1 rfl,k3.same _ _ (iE _) hb3.2 rfl⟩
    exact⟨_,_,run_endRound (P:=P) (some .ret) hb4.1,.inr ⟨rfl,hIx.putObj _ i3 (by omega) hb4.1 rfl,put hb4⟩⟩
   | _=>exact hp.elim
  | _=>exact he.elim
 ·rintro e W2 ⟨⟨v,rfl⟩,(⟨xs,hS,hi,hb⟩ | ⟨pre,hS,hi,hb⟩)⟩
  ·exact⟨none,_,run_endLoop (P:=P) hb.1 (by simp [rc]),hdone B xs _ (iE _) hS (hI.putObj _ hi (by omega) hb.1 rfl) ((World.putObj_heap_other (by omega)).trans hb.2)⟩
  ·exact⟨some .ret,_,run_endLoop (P:=P) hb.1 (by simp [rc]),hstop B pre _ (iE _) hS (hIx.putObj _ hi (by omega) hb.1 rfl) ((World.putObj_heap_other (by omega)).trans hb.2)⟩
end
theorem aBV{W:World}{B:Nat}{o:Obj}(h:W.heap[B]?=some o):W.putObj B o=W:=by
 unfold World.putObj
 obtain⟨hlt,he⟩:=S5.1 h
 have:W.heap.setIfInBounds B o=W.heap:=by
  apply Array.ext (by simp)
  intro i h1 h2
  by_cases hi:i=B
  ·subst hi;simp [he]
  ·rw [Array.getElem_setIfInBounds_ne h2 (Ne.symm hi)]
 rw [this]
theorem pI(W:World)(B:Nat)(o o':Obj):(W.putObj B o).putObj B o'=W.putObj B o':=by
 unfold World.putObj
 simp
theorem rP{W:World}{B j:Nat}{v:Value}{cs:Array Value}{t:TypeId}{f:Nat×Nat}(h:W.heap[B]?=some (.cells cs t f)):W.setCell ⟨B,j,none⟩ v=W.putObj B (.cells (cs.setIfInBounds j v) t f):=by
 unfold World.setCell World.putObj
 obtain⟨hlt,he⟩:=S5.1 h
 congr 1
 apply Array.ext (by simp)
 intro i h1 h2
 by_cases hi:B=i
 ·subst hi
  rw [Array.getElem_modify_self,he]
  simp
 ·rw [Array.getElem_modify_of_ne hi,Array.getElem_setIfInBounds_ne (by simpa using h1) hi]
theorem aXL(P:Program){B:Nat}{t:TypeId}:∀(vs qs ps:List Value) (W:World),W.heap[B]?=some (.cells (ps++qs).toArray t (0,0))->vs.length=qs.length->(∀v∈vs,v.oneCell'=true) ->
  (storeCells ⟨B,0,none⟩ vs ps.length).run P W=.ok () (W.putObj B (.cells (ps++vs).toArray t (0,0)))
 | [],[],ps,W,h,_,_=>by rw [aBV h];rfl
 | v :: vs, q :: qs, ps, W, h, hl, h1 => by
  have hadd:(⟨B,0,none⟩:Addr).add ps.length=⟨B,ps.length,none⟩:=by unfold Addr.add;split <;> simp_all
  have hs:W.cell? ⟨B,ps.length,none⟩=some q:=by simp [World.cell?,h]
  have hf:W.frozen? ⟨B,ps.length,none⟩=false:=by simp [World.frozen?,h]
  have hp:W.setCell ⟨B,ps.length,none⟩ v=W.putObj B (.cells ((ps ++ [v])++qs).toArray t (0,0)):=by
   rw [rP h]
   congr 2
   simp
  have hlt:=(S5.1 h).1
  have ih:=aXL P vs qs (ps ++ [v]) (W.putObj B (.cells ((ps ++ [v])++qs).toArray t (0,0))) (World.putObj_heap_same hlt) (by simpa using hl) (fun v h=>h1 v (j9 _ h))
  have hst:=run_store P W ⟨B,ps.length,none⟩ v .plain (h1 v (by simp))
  simp only [storeCells,Sem.run_bind,hadd]
  rw [hst]
  simp only [hs,hf,Result.andThen,hp]
  rw [FX] at ih
  simp only [yL,S8,FZ] at ih
  simp only [aQ,if_false]
  rw [ih,pI]
  simp
theorem aTA(W:World)(o o':Obj):(W.alloc o).putObj W.heap.size o'=W.alloc o':=by
 unfold World.putObj World.alloc
 congr 1
 apply Array.ext (by simp)
 intro i h1 h2
 by_cases hi:i=W.heap.size
 ·subst hi;simp
 ·rw [Array.getElem_setIfInBounds_ne (by simpa using h1) (Ne.symm hi)]
  simp only [Array.size_push] at h2
  rw [Array.getElem_push_lt (by omega),Array.getElem_push_lt (by omega)]
theorem a6C{W:World}{B:Nat}{t:TypeId}{f:Nat×Nat}{u0 u1 u2 u3 u4 u5 u6:Value}(v0 v1 v2 v3 v4 v5 v6:Value)(h:W.heap[B]?=some (.cells #[u0,u1,u2,u3,u4,u5,u6] t f)) :
  ((((((W.setCell ⟨B,0,none⟩ v0).setCell ⟨B,1,none⟩ v1).setCell ⟨B,2,none⟩ v2).setCell ⟨B,3,none⟩ v3).setCell ⟨B,4,none⟩ v4).setCell ⟨B,5,none⟩ v5).setCell ⟨B,6,none⟩ v6=W.putObj B (.cells #[v0,v1,v2,v3,v4,v5,v6] t f):=by
 have hlt:=(S5.1 h).1
 have n:∀o,(W.putObj B o).heap[B]?=some o:=fun o=>World.putObj_heap_same hlt
 rw [rP h,rP (n _),pI,rP (n _),pI,rP (n _),pI,rP (n _),pI,rP (n _),pI,rP (n _),pI]
 rfl
theorem aH8{w w':World}(h:Below w.heap.size w w'):gX F0 w w' where
 os:=h.os
 tape:=h.tape
 output:=h.output
 size:=h.size
 block:=fun b hb _=>h.block b hb
 cell:=fun b o hb _=>World.cell?_of_block (h.block b hb)
 B8:=fun b o hb=>World.frozen?_of_block (h.block b hb)
 stay:=fun b o hs=>by rw [World.cell?_of_block (a:=⟨b,o,none⟩) (h.block b (jB hs))];exact hs
theorem aNW{w w':World}(h:Below w.heap.size w w'):St (cL w) w' [] []:=St.same (St.enter (by simp)) (aH8 h)
end Go.Gv
end
noncomputable section
namespace Go.Gv
noncomputable section
variable {P:Program} {T:TT} {hT:JE P T} {n:Nat} {c:Ctx} {B0:Bl} {N:Act->World->Prop} {X:Nat->Act->World->Prop} {Q:Act->World->Prop} {K K':List Fr} {m m':Nat} {e e':SE} {L L' Lv:List Ch} {cf cf' cf1 cf2:yU} {o:Oper}
theorem a7Y{α β:Type}{iR:aK α}{C:MB α}{sr:β->SV}{g:FuncId}{κ:Ctx}{p:α->Option β}(hc:∀args w,(callFunc g args).run P w=.ok (.enter g args) w)(hn:∀{κ:Ctx} {x y},C.sub κ.S0 κ.w0 x y->V0 P κ g (p x) [C.sv x y] sr):Fu1 P κ C sr g [] p:=
 ⟨hc,fun w1 _ x y hy q hq v hv=>by
  refine Calls.mono ((hn (κ:=cL w1) hy _ hq).run [v] (by simp [bA,hv]) (aS6 w1)) fun en w' ⟨v',h1,y,h2,h3⟩=>⟨v',h1,h2,h3⟩⟩
theorem paW{α β:Type}{p:Prop}[Decidable p]{v:α}{F:Option β}{q:β}{sv:α->SV}{d:Nat}{f:FuncId}{xs:List SV}(hs:kV T n K cf m e L=.call o (some d) f xs cf1 cf2 K' m' e' L')
  (hc:∀{w},HS c w L'->V0 P (cL w) f (need p (some v)) xs sv) (k:p->W (G (.mk P T hT n c B0 N X Q) K' m' ((d,sv v) :: e') L' cf2) q F):W (G (.mk P T hT n c B0 N X Q) K m e L cf) q (need p F):=fun hF=>by
 obtain⟨hp,hF⟩:=kU hF
 have h0:need p (some v)=some v:=by simp [need,hp]
 exact cl0 (fo:=need p (some v)) (kf:=fun _=>F) hs (fun h _ hx=>hc h _ hx) (by rw [h0];exact hF) (fun x hx h=>by rw [h0] at hx;cases hx;exact k hp h)
theorem aB9{j:Int}{n:Nat}(h:0<=j/\j<=(n:Int)):0<=j.toNat/\j.toNat<=n:=by omega
end
end Go.Gv
end
noncomputable section
namespace Go.Gv
def zD(l:List Int):List Int:=l.foldl (fun a x=>if a.getLast?=some x then a else a ++ [x]) []
theorem aAQ(l:List Int)(x:Int):zD (l ++ [x])=if (zD l).getLast?=some x then zD l else zD l ++ [x]:=by
 unfold zD;rw [List.foldl_append];rfl
theorem aTB:∀(l:List Int),(zD l).getLast?=l.getLast?:=by
 intro l
 rcases YD l with rfl | ⟨l,x,rfl⟩
 ·rfl
 ·rw [aMT,aAQ]
  split
  ·rename_i h;rw [h];simp
  ·simp
theorem a05(l:List Int):(zD l).length<=l.length:=by
 suffices h:∀(l a:List Int),(l.foldl (fun a x=>if a.getLast?=some x then a else a ++ [x]) a).length<=a.length+l.length by
  have:=h l []
  rw [S8,FZ] at this
  exact this
 intro l
 induction l with
 | nil=>intro a;simp
 | cons x l ih =>
  intro a
  rw [V8]
  refine yN (ih _) ?_
  split
  ·simp
  ·simp;omega
def slices_Compact_int(s:List Int):Option (List Int):=some (zD s)
end Go.Gv
end
noncomputable section
namespace Go.Gv
theorem aSD(l:List Int):Lib.compact l=zD l:=by
 have h:∀m,m<=l.length->Lib.compactUpTo l.toArray m=zD (l.take m):=by
  intro m
  induction m with
  | zero=>intro _;rfl
  | succ m ih =>
   intro hm
   have hm':m < l.length:=hm
   rw [Lib.compactUpTo_succ,ih (by omega),RQ hm',aAQ,aTB]
   have e1:l.toArray[m]! = l[m]:=by simp [hm']
   have key:(Lib.keeps l.toArray m=true)↔¬(l.take m).getLast?=some l[m]:=by
    cases m with
    | zero=>simp [Lib.keeps]
    | succ k =>
     have e2:l.toArray[k]! = l[k]:=by simp [show k < l.length by omega]
     rw [RQ (by omega:k < l.length),List.getLast?_concat]
     simp only [Lib.keeps,decide_eq_true_eq,e1,Nat.add_sub_cancel,e2]
     simp [eq_comm]
   rw [e1]
   by_cases hk:Lib.keeps l.toArray m=true
   ·rw [if_pos hk,if_neg (key.1 hk)]
   ·rw [if_neg hk,if_pos (Decidable.not_not.1 fun hh=>hk (key.2 hh)),jP]
 have:=h l.length (iE _)
 rw [OU] at this
 exact this
open Go.Sort in
theorem aNX{w:World}{b off q:Nat}{d0 d:Array Int}(h0:Holds (Value.int .i64) w b off d0)(hs:d.size=d0.size):gX (fO b off d.size) w (putRow (Value.int .i64) (Sort.ahead w q) b off d):=by
 have hc:∀b' o,b' < w.heap.size->¬fO b off d.size b' o->(putRow (Value.int .i64) (Sort.ahead w q) b off d).cell? ⟨b',o,none⟩=w.cell? ⟨b',o,none⟩:=fun b' o _ hn=>by
  rw [cell?_putRow_other _ _ _ _ _ _ (by
   by_cases e:b'=b
   ·right
    by_cases h1:o < off
    ·exact .inl h1
    ·right
     by_cases h2:o < off+d.size
     ·exact absurd ⟨e,by omega,h2⟩ hn
     ·show off+d.size<=o;omega
   ·exact .inl e)]
  rfl
 refine⟨rfl,rfl,rfl,by simp,fun b' hb hn=>?_,hc,fun b' o _=>by rw [frozen?_putRow];rfl,fun b' o h=>?_⟩
 ·show (w.heap.modify b _)[b']? = _
  rw [Array.getElem?_modify]
  split
  ·rename_i e
   subst e
   have hz:d.size=0:=by
    rcases Nat.eq_zero_or_pos d.size with h | h
    ·exact h
    ·exact absurd ⟨rfl,iE _,by omega⟩ (hn off)
   cases hh:w.heap[b]? with
   | none=>rfl
   | some o =>
    cases o with
    | cells c e fr =>
     simp only [MN,onCells]
     have:putCells (Value.int .i64) off d c=c:=by
      apply Array.ext_getElem?
      intro k
      simp only [putCells,Array.getElem?_mapIdx,hz]
      cases c[k]? with
      | none=>rfl
      | some y=>simp only [MN];rw [if_neg (by omega)]
     rw [this]
    | _=>rfl
  ·rfl
 ·by_cases hn:fO b off d.size b' o
  ·obtain⟨rfl,h1,h2⟩:=hn
   have:=cell?_putRow (Value.int .i64) (Sort.ahead w q) b' off d0 d h0 hs (o - off) (by omega)
   rw [show off+(o - off)=o from by omega] at this
   rw [this];rfl
  ·rw [hc b' o (jB h) hn];exact h
open Go.Proofs in
theorem a70{P:Program}{ρ:_}{κ:Ctx}(Ly:Lays2.n20 P ρ)(hcall:∀args w,(callFunc (ρ.f 20) args).run P w=.ok (.enter (ρ.f 20) args) w){s:List Int}{s1:AC}:VS P κ (ρ.f 20) (slices_Compact_int s) [.h s1 s.length] [] [ow s1 s] (fun r (y:AC)=>.h y r.length) (fun r y=>[ow y r]):=fun r hr=>by
 cases hr
 refine⟨hcall,fun vs hv hS=>?_⟩
 simp [bA,gQ,gV,bT] at hv
 subst hv
 obtain⟨⟨R,h1,h2⟩,h0⟩:=hS
 have h1:St κ κ.w0 [gI [s1.v s.length] s] R:=by simpa [kW] using h1
 obtain⟨F,hF⟩:=h1.chunk 0 rfl
 have hF:aK.own κ.w0 [s1.v s.length] s F:=hF
 obtain⟨a,cp,he,hl1,hl2,hrest⟩:=(show H4 κ.w0 _ s F from hF)
 obtain⟨sa,sc⟩:=s1
 simp only [AC.v,List.cons.injEq,Value.slice.injEq,and_true,true_and] at he
 obtain⟨rfl,rfl⟩:=he
 rcases hrest with ⟨rfl,rfl,hno⟩ | ⟨b,off,Fs,rfl,hrow,hel,hdj,hdr,hFF⟩
 ·have hs:s=[]:=uV (by omega)
  subst hs
  refine(Any.slices_Compact_int_empty Ly none 0 κ.w0).mono ?_
  rintro e w' ⟨rfl,rfl⟩
  exact⟨_,rfl,⟨none,0⟩,by simp [gQ,gV,bT,AC.v,zD],⟨R,by simpa [kW,AC.v,zD] using h1,fun x hx=>by simp at hx;subst hx;trivial⟩,h0⟩
 ·have hn:aK.n Int=1:=rfl
  have hH:Sort.Holds (Value.int .i64) κ.w0 b off s.toArray:=fun j hj=>by
   have hj':j < s.length:=by simpa using hj
   obtain⟨ec,c1,c2⟩:=hel j hj'
   have c3:ec=[Value.int .i64 s[j]]:=(show _=_/\_ from c2).1
   have:=c1 0 (.int .i64 s[j]) (by rw [c3];rfl)
   rw [hn,Nat.mul_one,KX] at this
   refine⟨by rw [this];simp [hj'],(hrow (off+j) ⟨rfl,by omega,by rw [hn];omega⟩).2⟩
  have hlen:(Lib.compact s).length<=s.length:=by
   rw [aSD];exact a05 s
  refine(Any.slices_Compact_int Ly b off sc s κ.w0 hH (yN hl1 (yN hl2 (by decide))) hl1).mono ?_
  rintro e w' ⟨rfl,q,rfl⟩
  rw [aSD] at hlen ⊢
  have hsz:(zD s++List.replicate (s.length - (zD s).length) 0).toArray.size=s.toArray.size:=by simp;omega
  have hsa:s.toArray.size=s.length:=by simp
  have hK:=aNX (q:=q) hH hsz
  refine⟨_,rfl,⟨some ⟨b,off,none⟩,sc⟩,by simp [gQ,gV,bT,AC.v],⟨R,?_,by simp [roF]⟩,h0⟩
  have := h1.YP (w' := Sort.putRow (Value.int .i64) (Sort.ahead κ.w0 q) b off (zD s ++ List.replicate (s.length - (zD s).length) 0).toArray) (ch' := gI [(⟨some ⟨b, off, none⟩, sc⟩ : AC).v (zD s).length] (zD s)) 0 rfl fun F2 hF2 => by
   have hF2:aK.own κ.w0 [_] s F2:=hF2
   obtain⟨a',cp',he',_,_,hrest'⟩:=(show H4 κ.w0 _ s F2 from hF2)
   simp only [AC.v,List.cons.injEq,Value.slice.injEq,and_true,true_and] at he'
   obtain⟨rfl,rfl⟩:=he'
   rcases hrest' with ⟨h,_⟩ | ⟨b',off',Fs',h,hrow',hel',hdj',hdr',hFF'⟩
   ·cases h
   ·cases h
    have hemp:∀i (hi:i < s.length) b' o,¬Fs' i b' o:=fun i hi b' o h=>by
     obtain⟨ec,_,c2⟩:=hel' i hi
     exact(show _/\∀b o,¬Fs' i b o from c2).2 b' o h
    refine⟨fO b off (sc * 1),fO b off (zD s++List.replicate (s.length - (zD s).length) 0).toArray.size,hK,fun b' o h=>(hFF' b' o).2 (.inl ?_),?_,fun b' o h=>.inl ((hFF' b' o).2 (.inl h))⟩
    ·obtain⟨h3,h4,h5⟩:=h
     exact⟨h3,h4,by rw [hsz,hsa] at h5;rw [hn];omega⟩
    ·refine⟨_,sc,rfl,by omega,hl2,.inr ⟨b,off,fun _=>F0,rfl,fun o ho=>?_,fun i hi=>?_,fun _ _ _ _ _ _ _ h _=>h,fun _ _ _ _ h _=>h,fun b' o=>by simp [F0,hn]⟩⟩
     ·have:=hrow' o ho
      exact⟨hK.stay b o this.1,(hK.B8 b o (jB this.1)).trans this.2⟩
     ·refine⟨[.int .i64 (zD s)[i]],fun j v hj=>?_,rfl,fun _ _ h=>h⟩
      have hj0:j=0:=by
       have:=(kP.1 hj).1
       simp at this;exact this
      subst hj0
      simp at hj;subst hj
      rw [hn,Nat.mul_one,KX]
      have:=Sort.cell?_putRow (Value.int .i64) (Sort.ahead κ.w0 q) b off s.toArray (zD s++List.replicate (s.length - (zD s).length) 0).toArray hH hsz i (by rw [hsz];simp;omega)
      rw [this]
      congr 2
      have hlt:i < (zD s++List.replicate (s.length - (zD s).length) 0).length:=by simp;omega
      rw [getElem!_pos _ i (by simpa using hlt)]
      show(zD s++List.replicate (s.length - (zD s).length) 0)[i]=_
      rw [List.getElem_append_left hi]
  simpa [kW] using this
end Go.Gv
end
noncomputable section
namespace Go.Gv
structure eB where
 b:List UInt8
 i:Int
 h:Int
 deriving DecidableEq,Inhabited
instance:aK eB:=aK.via (fun d=>(d.b,d.i,d.h))
instance:Fits eB:=Fits.via (fun d=>(d.b,d.i,d.h))
structure dY where
 Kind:Int
 Cell:Int
 iI:Int
 dQ:Int
 deriving DecidableEq,Inhabited
instance:aK dY:=aK.via (fun d=>(d.Kind,d.Cell,d.iI,d.dQ))
instance:Fits dY:=Fits.via (fun d=>(d.Kind,d.Cell,d.iI,d.dQ))
theorem aXM{S:cK}{w:World}{cs:List Value}{d:dY}(h:aK.rd S w cs d):cs=[.int .i64 (d.Kind),.int .i64 (d.Cell),.int .i64 (d.iI),.int .i64 (d.dQ)]:=by
 obtain⟨c0,r0,e0,h0,n0⟩:=h
 have q0:c0=[_]:=h0
 obtain⟨c1,r1,e1,h1,n1⟩:=n0
 have q1:c1=[_]:=h1
 obtain⟨c2,r2,e2,h2,n2⟩:=n1
 have q2:c2=[_]:=h2
 have q3:r2=[_]:=n2
 exact by rw [e0,e1,e2,q0,q1,q2,q3];rfl
theorem aPY{S:cK}{w:World}(d:dY):aK.rd S w [.int .i64 (d.Kind),.int .i64 (d.Cell),.int .i64 (d.iI),.int .i64 (d.dQ)] d:=⟨[.int .i64 (d.Kind)],[.int .i64 (d.Cell),.int .i64 (d.iI),.int .i64 (d.dQ)],rfl,rfl,⟨[.int .i64 (d.Cell)],[.int .i64 (d.iI),.int .i64 (d.dQ)],rfl,rfl,⟨[.int .i64 (d.iI)],[.int .i64 (d.dQ)],rfl,rfl,rfl⟩⟩⟩
instance:Flat dY:=⟨fun h=>Flat.own_of (α:=Int×Int×Int×Int) h,fun h=>Flat.no (α:=Int×Int×Int×Int) h⟩
theorem a4B(d:dY):OP [.int .i64 (d.Kind),.int .i64 (d.Cell),.int .i64 (d.iI),.int .i64 (d.dQ)] d []:=(show OP (α:=Int×Int×Int×Int) _ (d.Kind,d.Cell,d.iI,d.dQ) _ from (kI (c1:=[.int .i64 (d.Kind)]) (c2:=[.int .i64 (d.Cell),.int .i64 (d.iI),.int .i64 (d.dQ)]) (A:=[]) (B:=[]) (gL rfl) (kI (c1:=[.int .i64 (d.Cell)]) (c2:=[.int .i64 (d.iI),.int .i64 (d.dQ)]) (A:=[]) (B:=[]) (gL rfl) (kI (c1:=[.int .i64 (d.iI)]) (c2:=[.int .i64 (d.dQ)]) (A:=[]) (B:=[]) (gL rfl) (gL rfl) rfl) rfl) rfl))
structure Queue where
 jQ:List dY
 deriving DecidableEq,Inhabited
instance:aK Queue:=aK.via (fun d=>(d.jQ))
instance:Fits Queue:=Fits.via (fun d=>(d.jQ))
theorem aXN{S:cK}{w:World}{cs:List Value}{d:Queue}(h:aK.rd S w cs d):∃v0:Value,cs=[v0]/\aK.rd S w [v0] d.jQ:=by
 obtain⟨u0,q0⟩:=MT h
 rw [q0] at h
 exact⟨u0,q0,h⟩
theorem aXO(d:Queue){v0:Value}:OP [v0] d [gI [v0] d.jQ]:=(show OP (α:=(List dY)) _ (d.jQ) _ from aPF)
structure m7 where
 dT:List Queue
 eO:List Int
 deriving DecidableEq,Inhabited
instance:aK m7:=aK.via (fun d=>(d.dT,d.eO))
instance:Fits m7:=Fits.via (fun d=>(d.dT,d.eO))
structure aC where
 Bytes:List Int
 Class:List Int
 deriving DecidableEq,Inhabited
instance:aK aC:=aK.via (fun d=>(d.Bytes,d.Class))
instance:Fits aC:=Fits.via (fun d=>(d.Bytes,d.Class))
structure aR where
 aT:List Int
 deriving DecidableEq,Inhabited
instance:aK aR:=aK.via (fun d=>(d.aT))
instance:Fits aR:=Fits.via (fun d=>(d.aT))
theorem aNY{S:cK}{w:World}{cs:List Value}{d:aR}(h:aK.rd S w cs d):∃v0:Value,cs=[v0]/\aK.rd S w [v0] d.aT:=by
 obtain⟨u0,q0⟩:=MT h
 rw [q0] at h
 exact⟨u0,q0,h⟩
theorem DH(d:aR){v0:Value}:OP [v0] d [gI [v0] d.aT]:=(show OP (α:=(List Int)) _ (d.aT) _ from aPF)
theorem _root_.Go.Gv.St.aXP{c:Ctx}{L:List Chunk}{R:List Fact}{w:World}{s:Value}{l:List aR}{i:Nat}{x:aR}(h:St c w L R)(j:Nat)(hj:R[j]?=some (CS [s] l))(hi:l[i]?=some x):∃v0:Value,bZ w (S4 s) (SW 1 i s) [v0]/\St c w L (R ++ [CS [v0] x.aT]):=by
 obtain⟨S,hS,hk⟩:=h.aVF hj
 obtain⟨ec,h1,h2⟩:=aMX hS hi
 obtain⟨v0,q,q0⟩:=aNY h2
 rw [q] at h1
 exact⟨v0,h1,hk _ (by intro f hf;simp only [fA,YK,or_false] at hf;subst hf;exact q0)⟩
structure aB where
 Global:List aR
 Own:List aR
 deriving DecidableEq,Inhabited
instance:aK aB:=aK.via (fun d=>(d.Global,d.Own))
instance:Fits aB:=Fits.via (fun d=>(d.Global,d.Own))
structure Mem where
 aC:aC
 aB:aB
 deriving DecidableEq,Inhabited
instance:aK Mem:=aK.via (fun d=>(d.aC,d.aB))
instance:Fits Mem:=Fits.via (fun d=>(d.aC,d.aB))
structure pQ where
 On:Bool
 aJ:Int
 dB:Bool
 Seen:Int
 deriving DecidableEq,Inhabited
instance:aK pQ:=aK.via (fun d=>(d.On,d.aJ,d.dB,d.Seen))
instance:Fits pQ:=Fits.via (fun d=>(d.On,d.aJ,d.dB,d.Seen))
theorem a4C{S:cK}{w:World}{cs:List Value}{d:pQ}(h:aK.rd S w cs d):cs=[.bool (d.On),.int .i64 (d.aJ),.bool (d.dB),.int .i64 (d.Seen)]:=by
 obtain⟨c0,r0,e0,h0,n0⟩:=h
 have q0:c0=[_]:=h0
 obtain⟨c1,r1,e1,h1,n1⟩:=n0
 have q1:c1=[_]:=h1
 obtain⟨c2,r2,e2,h2,n2⟩:=n1
 have q2:c2=[_]:=h2
 have q3:r2=[_]:=n2
 exact by rw [e0,e1,e2,q0,q1,q2,q3];rfl
theorem aXQ{S:cK}{w:World}(d:pQ):aK.rd S w [.bool (d.On),.int .i64 (d.aJ),.bool (d.dB),.int .i64 (d.Seen)] d:=⟨[.bool (d.On)],[.int .i64 (d.aJ),.bool (d.dB),.int .i64 (d.Seen)],rfl,rfl,⟨[.int .i64 (d.aJ)],[.bool (d.dB),.int .i64 (d.Seen)],rfl,rfl,⟨[.bool (d.dB)],[.int .i64 (d.Seen)],rfl,rfl,rfl⟩⟩⟩
instance:Flat pQ:=⟨fun h=>Flat.own_of (α:=Bool×Int×Bool×Int) h,fun h=>Flat.no (α:=Bool×Int×Bool×Int) h⟩
theorem a4D(d:pQ):OP [.bool (d.On),.int .i64 (d.aJ),.bool (d.dB),.int .i64 (d.Seen)] d []:=(show OP (α:=Bool×Int×Bool×Int) _ (d.On,d.aJ,d.dB,d.Seen) _ from (kI (c1:=[.bool (d.On)]) (c2:=[.int .i64 (d.aJ),.bool (d.dB),.int .i64 (d.Seen)]) (A:=[]) (B:=[]) (gL rfl) (kI (c1:=[.int .i64 (d.aJ)]) (c2:=[.bool (d.dB),.int .i64 (d.Seen)]) (A:=[]) (B:=[]) (gL rfl) (kI (c1:=[.bool (d.dB)]) (c2:=[.int .i64 (d.Seen)]) (A:=[]) (B:=[]) (gL rfl) (gL rfl) rfl) rfl) rfl))
structure aD where
 aJ:Int
 b9:List pQ
 deriving DecidableEq,Inhabited
instance:aK aD:=aK.via (fun d=>(d.aJ,d.b9))
instance:Fits aD:=Fits.via (fun d=>(d.aJ,d.b9))
structure dA where
 Handle:Int
 aJ:Int
 deriving DecidableEq,Inhabited
instance:aK dA:=aK.via (fun d=>(d.Handle,d.aJ))
instance:Fits dA:=Fits.via (fun d=>(d.Handle,d.aJ))
theorem aSE{S:cK}{w:World}{cs:List Value}{d:dA}(h:aK.rd S w cs d):cs=[.int .i64 (d.Handle),.int .i64 (d.aJ)]:=by
 obtain⟨c0,r0,e0,h0,n0⟩:=h
 have q0:c0=[_]:=h0
 have q1:r0=[_]:=n0
 exact by rw [e0,q0,q1];rfl
theorem a06{S:cK}{w:World}(d:dA):aK.rd S w [.int .i64 (d.Handle),.int .i64 (d.aJ)] d:=⟨[.int .i64 (d.Handle)],[.int .i64 (d.aJ)],rfl,rfl,rfl⟩
instance:Flat dA:=⟨fun h=>Flat.own_of (α:=Int×Int) h,fun h=>Flat.no (α:=Int×Int) h⟩
theorem a07(d:dA):OP [.int .i64 (d.Handle),.int .i64 (d.aJ)] d []:=(show OP (α:=Int×Int) _ (d.Handle,d.aJ) _ from (kI (c1:=[.int .i64 (d.Handle)]) (c2:=[.int .i64 (d.aJ)]) (A:=[]) (B:=[]) (gL rfl) (gL rfl) rfl))
theorem a08{S:cK}{w:World}{s:Value}{l:List dA}{i:Nat}{x:dA}(h:aK.rd S w [s] l)(hi:l[i]?=some x):bZ w (S4 s) (SW 2 i s) [.int .i64 (x.Handle),.int .i64 (x.aJ)]:=by
 obtain⟨ec,h1,h2⟩:=aMX h hi
 rw [aSE h2] at h1;exact h1
structure bC where
 Rows:List dA
 deriving DecidableEq,Inhabited
instance:aK bC:=aK.via (fun d=>(d.Rows))
instance:Fits bC:=Fits.via (fun d=>(d.Rows))
theorem aNZ{S:cK}{w:World}{cs:List Value}{d:bC}(h:aK.rd S w cs d):∃v0:Value,cs=[v0]/\aK.rd S w [v0] d.Rows:=by
 obtain⟨u0,q0⟩:=MT h
 rw [q0] at h
 exact⟨u0,q0,h⟩
theorem aFN(d:bC){v0:Value}:OP [v0] d [gI [v0] d.Rows]:=(show OP (α:=(List dA)) _ (d.Rows) _ from aPF)
theorem _root_.Go.Gv.St.aN0{c:Ctx}{L:List Chunk}{R:List Fact}{w:World}{s:Value}{l:List bC}{i:Nat}{x:bC}(h:St c w L R)(j:Nat)(hj:R[j]?=some (CS [s] l))(hi:l[i]?=some x):∃v0:Value,bZ w (S4 s) (SW 1 i s) [v0]/\St c w L (R ++ [CS [v0] x.Rows]):=by
 obtain⟨S,hS,hk⟩:=h.aVF hj
 obtain⟨ec,h1,h2⟩:=aMX hS hi
 obtain⟨v0,q,q0⟩:=aNZ h2
 rw [q] at h1
 exact⟨v0,h1,hk _ (by intro f hf;simp only [fA,YK,or_false] at hf;subst hf;exact q0)⟩
structure aA where
 Mem:Mem
 aD:aD
 aO:List bC
 l7:List Int
 deriving DecidableEq,Inhabited
instance:aK aA:=aK.via (fun d=>(d.Mem,d.aD,d.aO,d.l7))
instance:Fits aA:=Fits.via (fun d=>(d.Mem,d.aD,d.aO,d.l7))
structure Sub where
 Kind:Int
 A:Int
 Pc:Int
 E:Int
 Row:Int
 B:Int
 H:Int
 Out:Int
 Code:Int
 cZ:Bool
 deriving DecidableEq,Inhabited
instance:aK Sub:=aK.via (fun d=>(d.Kind,d.A,d.Pc,d.E,d.Row,d.B,d.H,d.Out,d.Code,d.cZ))
instance:Fits Sub:=Fits.via (fun d=>(d.Kind,d.A,d.Pc,d.E,d.Row,d.B,d.H,d.Out,d.Code,d.cZ))
theorem a4E{S:cK}{w:World}{cs:List Value}{d:Sub}(h:aK.rd S w cs d):cs=[.int .i64 (d.Kind),.int .i64 (d.A),.int .i64 (d.Pc),.int .i64 (d.E),.int .i64 (d.Row),.int .i64 (d.B),.int .i64 (d.H),.int .i64 (d.Out),.int .i64 (d.Code),.bool (d.cZ)]:=by
 obtain⟨c0,r0,e0,h0,n0⟩:=h
 have q0:c0=[_]:=h0
 obtain⟨c1,r1,e1,h1,n1⟩:=n0
 have q1:c1=[_]:=h1
 obtain⟨c2,r2,e2,h2,n2⟩:=n1
 have q2:c2=[_]:=h2
 obtain⟨c3,r3,e3,h3,n3⟩:=n2
 have q3:c3=[_]:=h3
 obtain⟨c4,r4,e4,h4,n4⟩:=n3
 have q4:c4=[_]:=h4
 obtain⟨c5,r5,e5,h5,n5⟩:=n4
 have q5:c5=[_]:=h5
 obtain⟨c6,r6,e6,h6,n6⟩:=n5
 have q6:c6=[_]:=h6
 obtain⟨c7,r7,e7,h7,n7⟩:=n6
 have q7:c7=[_]:=h7
 obtain⟨c8,r8,e8,h8,n8⟩:=n7
 have q8:c8=[_]:=h8
 have q9:r8=[_]:=n8
 exact by rw [e0,e1,e2,e3,e4,e5,e6,e7,e8,q0,q1,q2,q3,q4,q5,q6,q7,q8,q9];rfl
theorem aXR{S:cK}{w:World}(d:Sub):aK.rd S w [.int .i64 (d.Kind),.int .i64 (d.A),.int .i64 (d.Pc),.int .i64 (d.E),.int .i64 (d.Row),.int .i64 (d.B),.int .i64 (d.H),.int .i64 (d.Out),.int .i64 (d.Code),.bool (d.cZ)] d:=⟨[.int .i64 (d.Kind)],[.int .i64 (d.A),.int .i64 (d.Pc),.int .i64 (d.E),.int .i64 (d.Row),.int .i64 (d.B),.int .i64 (d.H),.int .i64 (d.Out),.int .i64 (d.Code),.bool (d.cZ)],rfl,rfl,⟨[.int .i64 (d.A)],[.int .i64 (d.Pc),.int .i64 (d.E),.int .i64 (d.Row),.int .i64 (d.B),.int .i64 (d.H),.int .i64 (d.Out),.int .i64 (d.Code),.bool (d.cZ)],rfl,rfl,⟨[.int .i64 (d.Pc)],[.int .i64 (d.E),.int .i64 (d.Row),.int .i64 (d.B),.int .i64 (d.H),.int .i64 (d.Out),.int .i64 (d.Code),.bool (d.cZ)],rfl,rfl,⟨[.int .i64 (d.E)],[.int .i64 (d.Row),.int .i64 (d.B),.int .i64 (d.H),.int .i64 (d.Out),.int .i64 (d.Code),.bool (d.cZ)],rfl,rfl,⟨[.int .i64 (d.Row)],[.int .i64 (d.B),.int .i64 (d.H),.int .i64 (d.Out),.int .i64 (d.Code),.bool (d.cZ)],rfl,rfl,⟨[.int .i64 (d.B)],[.int .i64 (d.H),.int .i64 (d.Out),.int .i64 (d.Code),.bool (d.cZ)],rfl,rfl,⟨[.int .i64 (d.H)],[.int .i64 (d.Out),.int .i64 (d.Code),.bool (d.cZ)],rfl,rfl,⟨[.int .i64 (d.Out)],[.int .i64 (d.Code),.bool (d.cZ)],rfl,rfl,⟨[.int .i64 (d.Code)],[.bool (d.cZ)],rfl,rfl,rfl⟩⟩⟩⟩⟩⟩⟩⟩⟩
instance:Flat Sub:=⟨fun h=>Flat.own_of (α:=Int×Int×Int×Int×Int×Int×Int×Int×Int×Bool) h,fun h=>Flat.no (α:=Int×Int×Int×Int×Int×Int×Int×Int×Int×Bool) h⟩
structure bE where
 eT:Bool
 Op:dY
 aI:Int
 Pc:Int
 Sub:Sub
 H:Int
 Old:Int
 dQ:Int
 Code:Int
 deriving DecidableEq,Inhabited
instance:aK bE:=aK.via (fun d=>(d.eT,d.Op,d.aI,d.Pc,d.Sub,d.H,d.Old,d.dQ,d.Code))
instance:Fits bE:=Fits.via (fun d=>(d.eT,d.Op,d.aI,d.Pc,d.Sub,d.H,d.Old,d.dQ,d.Code))
theorem a4F{S:cK}{w:World}{cs:List Value}{d:bE}(h:aK.rd S w cs d):cs=[.bool (d.eT),.int .i64 (d.Op.Kind),.int .i64 (d.Op.Cell),.int .i64 (d.Op.iI),.int .i64 (d.Op.dQ),.int .i64 (d.aI),.int .i64 (d.Pc),.int .i64 (d.Sub.Kind),.int .i64 (d.Sub.A),.int .i64 (d.Sub.Pc),.int .i64 (d.Sub.E),.int .i64 (d.Sub.Row),.int .i64 (d.Sub.B),.int .i64 (d.Sub.H),.int .i64 (d.Sub.Out),.int .i64 (d.Sub.Code),.bool (d.Sub.cZ),.int .i64 (d.H),.int .i64 (d.Old),.int .i64 (d.dQ),.int .i64 (d.Code)]:=by
 obtain⟨c0,r0,e0,h0,n0⟩:=h
 have q0:c0=[_]:=h0
 obtain⟨c1,r1,e1,h1,n1⟩:=n0
 have q1:=aXM h1
 obtain⟨c2,r2,e2,h2,n2⟩:=n1
 have q2:c2=[_]:=h2
 obtain⟨c3,r3,e3,h3,n3⟩:=n2
 have q3:c3=[_]:=h3
 obtain⟨c4,r4,e4,h4,n4⟩:=n3
 have q4:=a4E h4
 obtain⟨c5,r5,e5,h5,n5⟩:=n4
 have q5:c5=[_]:=h5
 obtain⟨c6,r6,e6,h6,n6⟩:=n5
 have q6:c6=[_]:=h6
 obtain⟨c7,r7,e7,h7,n7⟩:=n6
 have q7:c7=[_]:=h7
 have q8:r7=[_]:=n7
 exact by rw [e0,e1,e2,e3,e4,e5,e6,e7,q0,q1,q2,q3,q4,q5,q6,q7,q8];rfl
theorem uS{S:cK}{w:World}(d:bE):aK.rd S w [.bool (d.eT),.int .i64 (d.Op.Kind),.int .i64 (d.Op.Cell),.int .i64 (d.Op.iI),.int .i64 (d.Op.dQ),.int .i64 (d.aI),.int .i64 (d.Pc),.int .i64 (d.Sub.Kind),.int .i64 (d.Sub.A),.int .i64 (d.Sub.Pc),.int .i64 (d.Sub.E),.int .i64 (d.Sub.Row),.int .i64 (d.Sub.B),.int .i64 (d.Sub.H),.int .i64 (d.Sub.Out),.int .i64 (d.Sub.Code),.bool (d.Sub.cZ),.int .i64 (d.H),.int .i64 (d.Old),.int .i64 (d.dQ),.int .i64 (d.Code)] d:=⟨[.bool (d.eT)],[.int .i64 (d.Op.Kind),.int .i64 (d.Op.Cell),.int .i64 (d.Op.iI),.int .i64 (d.Op.dQ),.int .i64 (d.aI),.int .i64 (d.Pc),.int .i64 (d.Sub.Kind),.int .i64 (d.Sub.A),.int .i64 (d.Sub.Pc),.int .i64 (d.Sub.E),.int .i64 (d.Sub.Row),.int .i64 (d.Sub.B),.int .i64 (d.Sub.H),.int .i64 (d.Sub.Out),.int .i64 (d.Sub.Code),.bool (d.Sub.cZ),.int .i64 (d.H),.int .i64 (d.Old),.int .i64 (d.dQ),.int .i64 (d.Code)],rfl,rfl,⟨[.int .i64 (d.Op.Kind),.int .i64 (d.Op.Cell),.int .i64 (d.Op.iI),.int .i64 (d.Op.dQ)],[.int .i64 (d.aI),.int .i64 (d.Pc),.int .i64 (d.Sub.Kind),.int .i64 (d.Sub.A),.int .i64 (d.Sub.Pc),.int .i64 (d.Sub.E),.int .i64 (d.Sub.Row),.int .i64 (d.Sub.B),.int .i64 (d.Sub.H),.int .i64 (d.Sub.Out),.int .i64 (d.Sub.Code),.bool (d.Sub.cZ),.int .i64 (d.H),.int .i64 (d.Old),.int .i64 (d.dQ),.int .i64 (d.Code)],rfl,(aPY _),⟨[.int .i64 (d.aI)],[.int .i64 (d.Pc),.int .i64 (d.Sub.Kind),.int .i64 (d.Sub.A),.int .i64 (d.Sub.Pc),.int .i64 (d.Sub.E),.int .i64 (d.Sub.Row),.int .i64 (d.Sub.B),.int .i64 (d.Sub.H),.int .i64 (d.Sub.Out),.int .i64 (d.Sub.Code),.bool (d.Sub.cZ),.int .i64 (d.H),.int .i64 (d.Old),.int .i64 (d.dQ),.int .i64 (d.Code)],rfl,rfl,⟨[.int .i64 (d.Pc)],[.int .i64 (d.Sub.Kind),.int .i64 (d.Sub.A),.int .i64 (d.Sub.Pc),.int .i64 (d.Sub.E),.int .i64 (d.Sub.Row),.int .i64 (d.Sub.B),.int .i64 (d.Sub.H),.int .i64 (d.Sub.Out),.int .i64 (d.Sub.Code),.bool (d.Sub.cZ),.int .i64 (d.H),.int .i64 (d.Old),.int .i64 (d.dQ),.int .i64 (d.Code)],rfl,rfl,⟨[.int .i64 (d.Sub.Kind),.int .i64 (d.Sub.A),.int .i64 (d.Sub.Pc),.int .i64 (d.Sub.E),.int .i64 (d.Sub.Row),.int .i64 (d.Sub.B),.int .i64 (d.Sub.H),.int .i64 (d.Sub.Out),.int .i64 (d.Sub.Code),.bool (d.Sub.cZ)],[.int .i64 (d.H),.int .i64 (d.Old),.int .i64 (d.dQ),.int .i64 (d.Code)],rfl,(aXR _),⟨[.int .i64 (d.H)],[.int .i64 (d.Old),.int .i64 (d.dQ),.int .i64 (d.Code)],rfl,rfl,⟨[.int .i64 (d.Old)],[.int .i64 (d.dQ),.int .i64 (d.Code)],rfl,rfl,⟨[.int .i64 (d.dQ)],[.int .i64 (d.Code)],rfl,rfl,rfl⟩⟩⟩⟩⟩⟩⟩⟩
instance:Flat bE:=⟨fun h=>Flat.own_of (α:=Bool×dY×Int×Int×Sub×Int×Int×Int×Int) h,fun h=>Flat.no (α:=Bool×dY×Int×Int×Sub×Int×Int×Int×Int) h⟩
theorem a4G(d:bE):OP [.bool (d.eT),.int .i64 (d.Op.Kind),.int .i64 (d.Op.Cell),.int .i64 (d.Op.iI),.int .i64 (d.Op.dQ),.int .i64 (d.aI),.int .i64 (d.Pc),.int .i64 (d.Sub.Kind),.int .i64 (d.Sub.A),.int .i64 (d.Sub.Pc),.int .i64 (d.Sub.E),.int .i64 (d.Sub.Row),.int .i64 (d.Sub.B),.int .i64 (d.Sub.H),.int .i64 (d.Sub.Out),.int .i64 (d.Sub.Code),.bool (d.Sub.cZ),.int .i64 (d.H),.int .i64 (d.Old),.int .i64 (d.dQ),.int .i64 (d.Code)] d []:=(show OP (α:=Bool×dY×Int×Int×Sub×Int×Int×Int×Int) _ (d.eT,d.Op,d.aI,d.Pc,d.Sub,d.H,d.Old,d.dQ,d.Code) _ from (kI (c1:=[.bool (d.eT)]) (c2:=[.int .i64 (d.Op.Kind),.int .i64 (d.Op.Cell),.int .i64 (d.Op.iI),.int .i64 (d.Op.dQ),.int .i64 (d.aI),.int .i64 (d.Pc),.int .i64 (d.Sub.Kind),.int .i64 (d.Sub.A),.int .i64 (d.Sub.Pc),.int .i64 (d.Sub.E),.int .i64 (d.Sub.Row),.int .i64 (d.Sub.B),.int .i64 (d.Sub.H),.int .i64 (d.Sub.Out),.int .i64 (d.Sub.Code),.bool (d.Sub.cZ),.int .i64 (d.H),.int .i64 (d.Old),.int .i64 (d.dQ),.int .i64 (d.Code)]) (A:=[]) (B:=[]) (gL rfl) (kI (c1:=[.int .i64 (d.Op.Kind),.int .i64 (d.Op.Cell),.int .i64 (d.Op.iI),.int .i64 (d.Op.dQ)]) (c2:=[.int .i64 (d.aI),.int .i64 (d.Pc),.int .i64 (d.Sub.Kind),.int .i64 (d.Sub.A),.int .i64 (d.Sub.Pc),.int .i64 (d.Sub.E),.int .i64 (d.Sub.Row),.int .i64 (d.Sub.B),.int .i64 (d.Sub.H),.int .i64 (d.Sub.Out),.int .i64 (d.Sub.Code),.bool (d.Sub.cZ),.int .i64 (d.H),.int .i64 (d.Old),.int .i64 (d.dQ),.int .i64 (d.Code)]) (A:=[]) (B:=[]) (gL (aPY _)) (kI (c1:=[.int .i64 (d.aI)]) (c2:=[.int .i64 (d.Pc),.int .i64 (d.Sub.Kind),.int .i64 (d.Sub.A),.int .i64 (d.Sub.Pc),.int .i64 (d.Sub.E),.int .i64 (d.Sub.Row),.int .i64 (d.Sub.B),.int .i64 (d.Sub.H),.int .i64 (d.Sub.Out),.int .i64 (d.Sub.Code),.bool (d.Sub.cZ),.int .i64 (d.H),.int .i64 (d.Old),.int .i64 (d.dQ),.int .i64 (d.Code)]) (A:=[]) (B:=[]) (gL rfl) (kI (c1:=[.int .i64 (d.Pc)]) (c2:=[.int .i64 (d.Sub.Kind),.int .i64 (d.Sub.A),.int .i64 (d.Sub.Pc),.int .i64 (d.Sub.E),.int .i64 (d.Sub.Row),.int .i64 (d.Sub.B),.int .i64 (d.Sub.H),.int .i64 (d.Sub.Out),.int .i64 (d.Sub.Code),.bool (d.Sub.cZ),.int .i64 (d.H),.int .i64 (d.Old),.int .i64 (d.dQ),.int .i64 (d.Code)]) (A:=[]) (B:=[]) (gL rfl) (kI (c1:=[.int .i64 (d.Sub.Kind),.int .i64 (d.Sub.A),.int .i64 (d.Sub.Pc),.int .i64 (d.Sub.E),.int .i64 (d.Sub.Row),.int .i64 (d.Sub.B),.int .i64 (d.Sub.H),.int .i64 (d.Sub.Out),.int .i64 (d.Sub.Code),.bool (d.Sub.cZ)]) (c2:=[.int .i64 (d.H),.int .i64 (d.Old),.int .i64 (d.dQ),.int .i64 (d.Code)]) (A:=[]) (B:=[]) (gL (aXR _)) (kI (c1:=[.int .i64 (d.H)]) (c2:=[.int .i64 (d.Old),.int .i64 (d.dQ),.int .i64 (d.Code)]) (A:=[]) (B:=[]) (gL rfl) (kI (c1:=[.int .i64 (d.Old)]) (c2:=[.int .i64 (d.dQ),.int .i64 (d.Code)]) (A:=[]) (B:=[]) (gL rfl) (kI (c1:=[.int .i64 (d.dQ)]) (c2:=[.int .i64 (d.Code)]) (A:=[]) (B:=[]) (gL rfl) (gL rfl) rfl) rfl) rfl) rfl) rfl) rfl) rfl) rfl))
structure Ev where
 Kind:Int
 Who:Int
 aI:Int
 Cell:Int
 Handle:Int
 dQ:Int
 Code:Int
 deriving DecidableEq,Inhabited
instance:aK Ev:=aK.via (fun d=>(d.Kind,d.Who,d.aI,d.Cell,d.Handle,d.dQ,d.Code))
instance:Fits Ev:=Fits.via (fun d=>(d.Kind,d.Who,d.aI,d.Cell,d.Handle,d.dQ,d.Code))
theorem aXS{S:cK}{w:World}{cs:List Value}{d:Ev}(h:aK.rd S w cs d):cs=[.int .i64 (d.Kind),.int .i64 (d.Who),.int .i64 (d.aI),.int .i64 (d.Cell),.int .i64 (d.Handle),.int .i64 (d.dQ),.int .i64 (d.Code)]:=by
 obtain⟨c0,r0,e0,h0,n0⟩:=h
 have q0:c0=[_]:=h0
 obtain⟨c1,r1,e1,h1,n1⟩:=n0
 have q1:c1=[_]:=h1
 obtain⟨c2,r2,e2,h2,n2⟩:=n1
 have q2:c2=[_]:=h2
 obtain⟨c3,r3,e3,h3,n3⟩:=n2
 have q3:c3=[_]:=h3
 obtain⟨c4,r4,e4,h4,n4⟩:=n3
 have q4:c4=[_]:=h4
 obtain⟨c5,r5,e5,h5,n5⟩:=n4
 have q5:c5=[_]:=h5
 have q6:r5=[_]:=n5
 exact by rw [e0,e1,e2,e3,e4,e5,q0,q1,q2,q3,q4,q5,q6];rfl
instance:Flat Ev:=⟨fun h=>Flat.own_of (α:=Int×Int×Int×Int×Int×Int×Int) h,fun h=>Flat.no (α:=Int×Int×Int×Int×Int×Int×Int) h⟩
theorem a6D(d:Ev):OP [.int .i64 (d.Kind),.int .i64 (d.Who),.int .i64 (d.aI),.int .i64 (d.Cell),.int .i64 (d.Handle),.int .i64 (d.dQ),.int .i64 (d.Code)] d []:=(show OP (α:=Int×Int×Int×Int×Int×Int×Int) _ (d.Kind,d.Who,d.aI,d.Cell,d.Handle,d.dQ,d.Code) _ from (kI (c1:=[.int .i64 (d.Kind)]) (c2:=[.int .i64 (d.Who),.int .i64 (d.aI),.int .i64 (d.Cell),.int .i64 (d.Handle),.int .i64 (d.dQ),.int .i64 (d.Code)]) (A:=[]) (B:=[]) (gL rfl) (kI (c1:=[.int .i64 (d.Who)]) (c2:=[.int .i64 (d.aI),.int .i64 (d.Cell),.int .i64 (d.Handle),.int .i64 (d.dQ),.int .i64 (d.Code)]) (A:=[]) (B:=[]) (gL rfl) (kI (c1:=[.int .i64 (d.aI)]) (c2:=[.int .i64 (d.Cell),.int .i64 (d.Handle),.int .i64 (d.dQ),.int .i64 (d.Code)]) (A:=[]) (B:=[]) (gL rfl) (kI (c1:=[.int .i64 (d.Cell)]) (c2:=[.int .i64 (d.Handle),.int .i64 (d.dQ),.int .i64 (d.Code)]) (A:=[]) (B:=[]) (gL rfl) (kI (c1:=[.int .i64 (d.Handle)]) (c2:=[.int .i64 (d.dQ),.int .i64 (d.Code)]) (A:=[]) (B:=[]) (gL rfl) (kI (c1:=[.int .i64 (d.dQ)]) (c2:=[.int .i64 (d.Code)]) (A:=[]) (B:=[]) (gL rfl) (gL rfl) rfl) rfl) rfl) rfl) rfl) rfl))
structure aG where
 aA:aA
 Cells:List Int
 aX:List bE
 dT:List Queue
 Log:List Ev
 aI:Int
 deriving DecidableEq,Inhabited
instance:aK aG:=aK.via (fun d=>(d.aA,d.Cells,d.aX,d.dT,d.Log,d.aI))
instance:Fits aG:=Fits.via (fun d=>(d.aA,d.Cells,d.aX,d.dT,d.Log,d.aI))
structure Span where
 GK:Int
 To:Int
 deriving DecidableEq,Inhabited
instance:aK Span:=aK.via (fun d=>(d.GK,d.To))
instance:Fits Span:=Fits.via (fun d=>(d.GK,d.To))
theorem a09{S:cK}{w:World}{cs:List Value}{d:Span}(h:aK.rd S w cs d):cs=[.int .i64 (d.GK),.int .i64 (d.To)]:=by
 obtain⟨c0,r0,e0,h0,n0⟩:=h
 have q0:c0=[_]:=h0
 have q1:r0=[_]:=n0
 exact by rw [e0,q0,q1];rfl
instance:Flat Span:=⟨fun h=>Flat.own_of (α:=Int×Int) h,fun h=>Flat.no (α:=Int×Int) h⟩
theorem a1A(d:Span):OP [.int .i64 (d.GK),.int .i64 (d.To)] d []:=(show OP (α:=Int×Int) _ (d.GK,d.To) _ from (kI (c1:=[.int .i64 (d.GK)]) (c2:=[.int .i64 (d.To)]) (A:=[]) (B:=[]) (gL rfl) (gL rfl) rfl))
end Go.Gv
end
noncomputable section
namespace Go.Gv
noncomputable section
def aFO(code:List UInt8):Option Bool:=
 some (decide (1048576 < (code.length:Int)))
def aH9(x5:Int):Option (Int×Int):=
 some (0,x5)
def GW(code:List UInt8)(x3 x4:Int)(x6:Bool):Option (Step (Int×Int) Int):=
 (if x6 then (idx code x4).bind fun x7=>some (.next (iF .and .i64 (aY ((aY ((aY (x3 * 131))+(x7.toNat:Int)))+7)) 1073741823,aY (x4+1))) else some (.stop (x3)))
def WD(code:List UInt8):(Int×Int)->Option (Step (Int×Int) Int)
 | (x3,x4)=>(if decide (x4 < (code.length:Int)) then GW code x3 x4 (decide (x4 < 4000)) else GW code x3 x4 false)
def aIA:Int->Option (Int×Int)
 | x5=>aH9 x5
def QH(code:List UInt8):Option (Int×Int):=
 (loop (WD code) (aY (10101+(code.length:Int)),0)).bind (aIA)
def DI(c:eB)(x1 x2:Int):Option (Int×(Int×Int)):=
 some (x1,(x2,aY ((aY (c.h * 6364136223846793005))+1442695040888963407)))
def rQ(c:eB):Option (Int×(Int×Int)):=
 (if decide (c.i < (c.b.length:Int)) then (idx c.b c.i).bind fun x3=>DI c (iF .and .i64 (aY ((iF .and .i64 (iF .xor .i64 (oK .i64 (aY ((aY (c.h * 6364136223846793005))+1442695040888963407)) 33) (oK .i64 (aY ((aY (c.h * 6364136223846793005))+1442695040888963407)) 45)) 255)+(x3.toNat:Int))) 255) (aY (c.i+1)) else DI c (iF .and .i64 (iF .xor .i64 (oK .i64 (aY ((aY (c.h * 6364136223846793005))+1442695040888963407)) 33) (oK .i64 (aY ((aY (c.h * 6364136223846793005))+1442695040888963407)) 45)) 255) c.i)
def gN(c:eB)(n:Int):Option (Int×(Int×Int)):=
 (if decide (n<=0) then some (0,(c.i,c.h)) else (if decide (n<=256) then (rQ c).bind fun x1=>need (n≠0) (some (Int.tmod x1.1 n,(x1.2.1,x1.2.2))) else (rQ c).bind fun x2=>(rQ (⟨c.b,x2.2.1,x2.2.2⟩:eB)).bind fun x3=>(rQ (⟨c.b,x3.2.1,x3.2.2⟩:eB)).bind fun x4=>(rQ (⟨c.b,x4.2.1,x4.2.2⟩:eB)).bind fun x5=>need (n≠0) (some (Int.tmod (aY ((aY ((aY ((aY (x2.1 * 16777216))+(aY (x3.1 * 65536))))+(aY (x4.1 * 256))))+x5.1)) n,(x5.2.1,x5.2.2)))))
def TN(c:eB)(n:Int):Option (Bool×(Int×Int)):=
 (gN c n).bind fun x1=>some (x1.1 == 0,(x1.2.1,x1.2.2))
def qL(c:eB)(list:List Int):Option (Int×(Int×Int)):=
 (gN c (list.length:Int)).bind fun x1=>(idx list x1.1).bind fun x2=>some (x2,(x1.2.1,x1.2.2))
def lJ(x1:Bool):Option Bool:=
 some x1
def vM(kind:Int):Option Bool:=
 (if kind == 1 then lJ true else (if kind == 2 then lJ true else (if kind == 3 then lJ true else lJ (kind == 7))))
def GX(x1:Int×(Int×Int))(x4 x5 x6 x7 x8:Int):Option (dY×(Int×Int)):=
 some ((⟨x1.1,x4,x7,x8⟩:dY),(x5,x6))
def GY(c:eB)(x1:Int×(Int×Int))(x4 x10 x11 x12:Int):Option (dY×(Int×Int)):=
 (gN (⟨c.b,x10,x11⟩:eB) 60000).bind fun x13=>GX x1 x4 x13.2.1 x13.2.2 x12 x13.1
def zE(c:eB)(x1:Int×(Int×Int))(x2 x3 x4:Int):Option (dY×(Int×Int)):=
 (if x1.1 == 1 then (gN (⟨c.b,x2,x3⟩:eB) 40).bind fun x9=>(TN (⟨c.b,x9.2.1,x9.2.2⟩:eB) 12).bind fun x14=>(if x14.1 then (qL (⟨c.b,x14.2.1,x14.2.2⟩:eB) ([0,41,100]:List Int)).bind fun x15=>GY c x1 x4 x15.2.1 x15.2.2 x15.1 else GY c x1 x4 x14.2.1 x14.2.2 (aY (1+x9.1))) else GX x1 x4 x2 x3 0 0)
def QI(c:eB):Option (dY×(Int×Int)):=
 (qL c ([1,1,1,2,2,3,3,4,4,5,6,7,7]:List Int)).bind fun x1=>(vM x1.1).bind fun x16=>(if x16 then (qL (⟨c.b,x1.2.1,x1.2.2⟩:eB) ([0,0,0,1]:List Int)).bind fun x17=>zE c x1 x17.2.1 x17.2.2 x17.1 else zE c x1 x1.2.1 x1.2.2 0)
def Y2(x9:List Queue)(x10 x11:Int):Option ((List Queue)×(Int×Int)):=
 some (x9,(x10,x11))
def MV(x5:List Queue)(x6 x21 x22:Int)(x23:List dY):Option (Step ((List Queue)×Int×Int×Int) ((List Queue)×Int×Int)):=
 need (x5.length+([(⟨x23⟩:Queue)]).length<=1073741824) (some (.next (x5++([(⟨x23⟩:Queue)]),aY (x6+1),x21,x22)))
def DJ(x17 x24 x25:Int)(x26:List dY):Option (Step (Int×Int×Int×(List dY)) (Int×Int×(List dY))):=
 some (.next (aY (x17 - 1),x24,x25,x26))
def MW(c:eB):(Int×Int×Int×(List dY))->Option (Step (Int×Int×Int×(List dY)) (Int×Int×(List dY)))
 | (x17,x18,x19,x20)=>(if decide (0 < x17) then (QI (⟨c.b,x18,x19⟩:eB)).bind fun x27=>need (x20.length+([x27.1]).length<=1073741824)<|DJ x17 x27.2.1 x27.2.2 (x20++([x27.1])) else some (.stop ((x18,x19,x20))))
def MX(x5:List Queue)(x6:Int):(Int×Int×(List dY))->Option (Step ((List Queue)×Int×Int×Int) ((List Queue)×Int×Int))
 | (x21,x22,x23)=>MV x5 x6 x21 x22 x23
def MY(c:eB)(most:Int):((List Queue)×Int×Int×Int)->Option (Step ((List Queue)×Int×Int×Int) ((List Queue)×Int×Int))
 | (x5,x6,x7,x8)=>(if decide (x6 < 3) then (gN (⟨c.b,x7,x8⟩:eB) (aY (most+1))).bind fun x12=>(loop (MW c) (x12.1,x12.2.1,x12.2.2,[])).bind (MX x5 x6) else some (.stop ((x5,x7,x8))))
def Y3:((List Queue)×Int×Int)->Option ((List Queue)×(Int×Int))
 | (x9,x10,x11)=>Y2 x9 x10 x11
def vN(c:eB)(most:Int):Option ((List Queue)×(Int×Int)):=
 (loop (MY c most) (([]:List Queue),0,c.i,c.h)).bind (Y3)
def aAR(x10:List Int)(x11 x12:Int):Option ((List Int)×(Int×Int)):=
 some (x10,(x11,x12))
def O5(x7:Int)(x14:Int×(Int×Int))(x19:List Int):Option (Step ((List Int)×Int×Int×Int) ((List Int)×Int×Int)):=
 some (.next (x19,aY (x7 - 1),x14.2.1,x14.2.2))
def O6(x13:Int×(Int×Int)):((List Int)×Int)->Option (Step ((List Int)×Int) (List Int))
 | (x17,x18)=>(if decide (0 < x18) then need (x17.length+([x13.1]).length<=1073741824) (some (.next (x17++([x13.1]),aY (x18 - 1)))) else some (.stop (x17)))
def O7(x7:Int)(x14:Int×(Int×Int)):(List Int)->Option (Step ((List Int)×Int×Int×Int) ((List Int)×Int×Int))
 | x19=>O5 x7 x14 x19
def O8(c:eB):((List Int)×Int×Int×Int)->Option (Step ((List Int)×Int×Int×Int) ((List Int)×Int×Int))
 | (x6,x7,x8,x9)=>(if decide (0 < x7) then (gN (⟨c.b,x8,x9⟩:eB) 3).bind fun x13=>(gN (⟨c.b,x13.2.1,x13.2.2⟩:eB) 4).bind fun x14=>(loop (O6 x13) (x6,aY (1+x14.1))).bind (O7 x7 x14) else some (.stop ((x6,x8,x9))))
def aAS:((List Int)×Int×Int)->Option ((List Int)×(Int×Int))
 | (x10,x11,x12)=>aAR x10 x11 x12
def GZ(c:eB)(most:Int):Option ((List Int)×(Int×Int)):=
 (gN c most).bind fun x1=>(loop (O8 c) (([]:List Int),x1.1,x1.2.1,x1.2.2)).bind (aAS)
def kR(x2:List Queue)(x3 x4:Int):Option ((List Queue)×(Int×Int)):=
 some (x2,(x3,x4))
def B9(x6:List Queue)(x7 x8:Int):Option ((List Queue)×(Int×Int)):=
 kR x6 x7 x8
def XR(x17:List Queue)(x18 x19:Int):Option ((List Queue)×(Int×Int)):=
 kR x17 x18 x19
def CA(x14:List Queue)(x20:Bool)(x21 x22:Int):Option (Step ((List Queue)×Int×Int) ((List Queue)×Int×Int)):=
 (if x20 then (idx x14 1).bind fun x23=>need (x23.jQ.length+([(⟨4,0,0,0⟩:dY)]).length<=1073741824) (some (.next (x14.set ((1:Int).toNat) (⟨x23.jQ++([(⟨4,0,0,0⟩:dY)])⟩:Queue),x21,x22))) else some (.stop ((x14,x21,x22))))
def K3(c:eB):((List Queue)×Int×Int)->Option (Step ((List Queue)×Int×Int) ((List Queue)×Int×Int))
 | (x14,x15,x16)=>(idx x14 1).bind fun x24=>(gN (⟨c.b,x15,x16⟩:eB) 2).bind fun x25=>CA x14 (decide ((x24.jQ.length:Int) < (aY (12+x25.1)))) x25.2.1 x25.2.2
def XS:((List Queue)×Int×Int)->Option ((List Queue)×(Int×Int))
 | (x17,x18,x19)=>XR x17 x18 x19
def A3(c:eB):Option ((List Queue)×(Int×Int)):=
 (vN c 7).bind fun x1=>(gN (⟨c.b,x1.2.1,x1.2.2⟩:eB) 20).bind fun x5=>(if x5.1 == 0 then need (0<=(2:Int)/\(2:Int)<=(x1.1.length:Int)) (some ((x1.1.take ((2:Int).toNat)).drop 0,(x5.2.1,x5.2.2))) else (if x5.1 == 1 then (idx x1.1 0).bind fun x9=>(qL (⟨c.b,x5.2.1,x5.2.2⟩:eB) ([0,8]:List Int)).bind fun x10=>need (x9.jQ.length+([(⟨x10.1,0,0,0⟩:dY)]).length<=1073741824)<|B9 (x1.1.set ((0:Int).toNat) (⟨x9.jQ++([(⟨x10.1,0,0,0⟩:dY)])⟩:Queue)) x10.2.1 x10.2.2 else (if x5.1 == 2 then (loop (K3 c) (x1.1,x5.2.1,x5.2.2)).bind (XS) else (if x5.1 == 3 then (idx x1.1 2).bind fun x26=>need (x26.jQ.length+([(⟨2,2,0,0⟩:dY)]).length<=1073741824) (kR (x1.1.set ((2:Int).toNat) (⟨x26.jQ++([(⟨2,2,0,0⟩:dY)])⟩:Queue)) x5.2.1 x5.2.2) else kR x1.1 x5.2.1 x5.2.2))))
def kQ(x4:List Queue)(x5:List Int):Option m7:=
 some (⟨x4,x5⟩:m7)
def rY(code:List UInt8):Option m7:=
 (QH code).bind fun x1=>(vN (⟨code,x1.1,x1.2⟩:eB) 8).bind fun x2=>(GZ (⟨code,x2.2.1,x2.2.2⟩:eB) 90).bind fun x3=>(gN (⟨code,x3.2.1,x3.2.2⟩:eB) 16).bind fun x6=>(if x6.1 == 0 then (A3 (⟨code,x6.2.1,x6.2.2⟩:eB)).bind fun x7=>kQ x7.1 x3.1 else (if x6.1 == 1 then need (x3.1.length+([(-1),3,1]:List Int).length<=1073741824) (kQ x2.1 (x3.1++([(-1),3,1]:List Int))) else kQ x2.1 x3.1))
def JL(x1:Bool):Option Bool:=
 some x1
def bW(x low high:Int):Option Bool:=
 (if decide (low<=x) then JL (decide (x<=high)) else JL false)
def JM(x3:Bool):Option Bool:=
 some x3
def JN(x4:Bool):Option Bool:=
 some x4
def DK(o_:dY)(x2:Bool):Option Bool:=
 (if x2 then some false else (if o_.Kind != 1 then (if o_.iI == 0 then JM (o_.dQ == 0) else JM false) else (bW o_.iI 0 100).bind fun x5=>(if x5 then (bW o_.dQ 0 65535).bind fun x6=>JN x6 else JN false)))
def KT(o_:dY):Option Bool:=
 (bW o_.Kind 1 7).bind fun x1=>(if !x1 then some false else (vM o_.Kind).bind fun x7=>(if !x7 then (if o_.Cell != 0 then DK o_ true else (bW o_.Cell 0 1).bind fun x8=>DK o_ (!x8)) else (bW o_.Cell 0 1).bind fun x9=>DK o_ (!x9)))
def RT(todo:List Queue):Option Bool:=
 some ((todo.length:Int) == 3)
def RU(x2:Int):Option (Step Int (Out Unit Bool)):=
 some (.next (aY (x2+1)))
def nP(todo:List Queue)(x2:Int):Int->Option (Step Int (Out Unit Bool))
 | x5=>(idx todo x2).bind fun x6=>(if decide (x5 < (x6.jQ.length:Int)) then (idx todo x2).bind fun x7=>(idx x7.jQ x5).bind fun x8=>(KT x8).bind fun x9=>(if !x9 then some (.stop (Out.ret false)) else some (.next (aY (x5+1)))) else some (.stop (Out.brk ())))
def RV(x2:Int):(Out Unit Bool)->Option (Step Int (Out Unit Bool))
 | .brk ()=>RU x2
 | .ret r=>some (.stop (Out.ret r))
def nQ(todo:List Queue):Int->Option (Step Int (Out Unit Bool))
 | x2=>(if decide (x2 < (todo.length:Int)) then (idx todo x2).bind fun x3=>(if decide (12 < (x3.jQ.length:Int)) then some (.stop (Out.ret false)) else (loop (nP todo x2) 0).bind (RV x2)) else some (.stop (Out.brk ())))
def RW(todo:List Queue):(Out Unit Bool)->Option Bool
 | .brk ()=>RT todo
 | .ret r=>some r
def DL(todo:List Queue):Option Bool:=
 (loop (nQ todo) 0).bind (RW todo)
def aCA(x5:List Int):Option aC:=
 some (⟨List.replicate ((384:Int).toNat) 0,x5⟩:aC)
def sZ:(Int×(List Int))->Option (Step (Int×(List Int)) (List Int))
 | (x3,x4)=>(if decide (x3 < 6) then need (x4.length+([(-1)]).length<=1073741824) (some (.next (aY (x3+1),x4++([(-1)])))) else some (.stop (x4)))
def aCB:(List Int)->Option aC
 | x5=>aCA x5
def JO:Option aC:=
 need (0<=(384:Int)/\(384:Int)<=4294967296) ((loop (sZ) (0,[])).bind (aCB))
def O9:Option aB:=
 some (⟨List.replicate ((3:Int).toNat) (⟨[]⟩:aR),List.replicate ((9:Int).toNat) (⟨[]⟩:aR)⟩:aB)
def NQ:Option aB:=
 need (0<=(3:Int)/\(3:Int)<=4294967296)<|need (0<=(9:Int)/\(9:Int)<=4294967296)<|O9
def TO:Option Mem:=
 (JO).bind fun x1=>(NQ).bind fun x2=>some (⟨x1,x2⟩:Mem)
def NR:Option aD:=
 need (0<=(3:Int)/\(3:Int)<=4294967296) (some (⟨0,List.replicate ((3:Int).toNat) (⟨false,0,false,0⟩:pQ)⟩:aD))
def NS:Option (List bC):=
 need (0<=(3:Int)/\(3:Int)<=4294967296) (some (List.replicate ((3:Int).toNat) (⟨[]⟩:bC)))
def TP:Option (List Int):=
 need (0<=(3:Int)/\(3:Int)<=4294967296) (some (List.replicate ((3:Int).toNat) 0))
def JQ:Option aA:=
 (TO).bind fun x1=>(NR).bind fun x2=>(NS).bind fun x3=>(TP).bind fun x4=>some (⟨x1,x2,x3,x4⟩:aA)
def Y4(x5:List Queue):Option (List Queue):=
 some x5
def DM(l:List Queue):((List Queue)×Int)->Option (Step ((List Queue)×Int) (List Queue))
 | (x3,x4)=>(if decide (x4 < (l.length:Int)) then (idx l x4).bind fun x6=>need (([]:List dY).length+x6.jQ.length<=1073741824) (need (x3.length+([(⟨([]:List dY)++x6.jQ⟩:Queue)]).length<=1073741824) (some (.next (x3++([(⟨([]:List dY)++x6.jQ⟩:Queue)]),aY (x4+1))))) else some (.stop (x3)))
def Y5:(List Queue)->Option (List Queue)
 | x5=>Y4 x5
def DN(l:List Queue):Option (List Queue):=
 (loop (DM l) (([]:List Queue),0)).bind (Y5)
def PA(x2:aG):Option aG:=
 some ({x2 with Log:=[]}:aG)
def G0(todo:List Queue):Option aG:=
 (DL todo).bind fun x1=>(if !x1 then some (⟨(⟨(⟨(⟨[],[]⟩:aC),(⟨[],[]⟩:aB)⟩:Mem),(⟨0,[]⟩:aD),[],[]⟩:aA),[],[],[],[],0⟩:aG) else (JQ).bind fun x3=>need (0<=(2:Int)/\(2:Int)<=4294967296)<|need (0<=(3:Int)/\(3:Int)<=4294967296)<|(DN todo).bind fun x4=>PA (⟨x3,List.replicate ((2:Int).toNat) 0,List.replicate ((3:Int).toNat) (⟨false,(⟨0,0,0,0⟩:dY),0,0,(⟨0,0,0,0,0,0,0,0,0,false⟩:Sub),0,0,0,0⟩:bE),x4,[],0⟩:aG))
def QJ(x:m7):Option Bool:=
 (G0 x.dT).bind fun x1=>some ((x1.aX.length:Int) == 3)
def fF(s:List Int):Option (List Int):=
 need (([]:List Int).length+s.length<=1073741824) (some (([]:List Int)++s))
def uG(h:aC):Option aC:=
 (fF h.Bytes).bind fun x1=>(fF h.Class).bind fun x2=>some (⟨x1,x2⟩:aC)
def Y6(x5 x10:List aR):Option aB:=
 some (⟨x5,x10⟩:aB)
def DO(x8:Int)(x12:List aR):Option (Step (Int×(List aR)) (List aR)):=
 some (.next (aY (x8+1),x12))
def DP(l:aB):(Int×(List aR))->Option (Step (Int×(List aR)) (List aR))
 | (x8,x9)=>(if decide (x8 < (l.Own.length:Int)) then (idx l.Own x8).bind fun x11=>(fF x11.aT).bind fun x13=>need (x9.length+([(⟨x13⟩:aR)]).length<=1073741824)<|DO x8 (x9++([(⟨x13⟩:aR)])) else some (.stop (x9)))
def Y7(x5:List aR):(List aR)->Option aB
 | x10=>Y6 x5 x10
def MZ(l:aB)(x5:List aR):Option aB:=
 (loop (DP l) (0,[])).bind (Y7 x5)
def DQ(x3:Int)(x15:List aR):Option (Step (Int×(List aR)) (List aR)):=
 some (.next (aY (x3+1),x15))
def DR(l:aB):(Int×(List aR))->Option (Step (Int×(List aR)) (List aR))
 | (x3,x4)=>(if decide (x3 < (l.Global.length:Int)) then (idx l.Global x3).bind fun x14=>(fF x14.aT).bind fun x16=>need (x4.length+([(⟨x16⟩:aR)]).length<=1073741824)<|DQ x3 (x4++([(⟨x16⟩:aR)])) else some (.stop (x4)))
def M0(l:aB):(List aR)->Option aB
 | x5=>MZ l x5
def iX(l:aB):Option aB:=
 (loop (DR l) (0,[])).bind (M0 l)
def JS(m:Mem):Option Mem:=
 (uG m.aC).bind fun x1=>(iX m.aB).bind fun x2=>some (⟨x1,x2⟩:Mem)
def xE(s:List pQ):Option (List pQ):=
 need (([]:List pQ).length+s.length<=1073741824) (some (([]:List pQ)++s))
def m8(c:aD):Option aD:=
 (xE c.b9).bind fun x1=>some (⟨c.aJ,x1⟩:aD)
def uY(s:List dA):Option (List dA):=
 need (([]:List dA).length+s.length<=1073741824) (some (([]:List dA)++s))
def Y8(x5:List bC):Option (List bC):=
 some x5
def DS(l:List bC):((List bC)×Int)->Option (Step ((List bC)×Int) (List bC))
 | (x3,x4)=>(if decide (x4 < (l.length:Int)) then (idx l x4).bind fun x6=>(uY x6.Rows).bind fun x7=>need (x3.length+([(⟨x7⟩:bC)]).length<=1073741824) (some (.next (x3++([(⟨x7⟩:bC)]),aY (x4+1)))) else some (.stop (x3)))
def Y9:(List bC)->Option (List bC)
 | x5=>Y8 x5
def m9(l:List bC):Option (List bC):=
 (loop (DS l) (([]:List bC),0)).bind (Y9)
def IV(s:List dY):Option (List dY):=
 need (([]:List dY).length+s.length<=1073741824) (some (([]:List dY)++s))
def aAT(x5:List Queue):Option (List Queue):=
 some x5
def GC(todo:List Queue):((List Queue)×Int)->Option (Step ((List Queue)×Int) (List Queue))
 | (x3,x4)=>(if decide (x4 < (todo.length:Int)) then (idx todo x4).bind fun x6=>(IV x6.jQ).bind fun x7=>need (x3.length+([(⟨x7⟩:Queue)]).length<=1073741824) (some (.next (x3++([(⟨x7⟩:Queue)]),aY (x4+1)))) else some (.stop (x3)))
def aAU:(List Queue)->Option (List Queue)
 | x5=>aAT x5
def G3(todo:List Queue):Option (List Queue):=
 (loop (GC todo) (([]:List Queue),0)).bind (aAU)
def qM(x1:Bool):Option Bool:=
 some x1
def cC(n low high:Int):Option Bool:=
 (if decide (low<=n) then qM (decide (n<=high)) else qM false)
def CY:Option Int:=
 some (-1)
def cW(s:List Int)(f:(Int->Option Bool)):Int->Option (Step Int (Out Unit Int))
 | x2=>(if decide (x2 < (s.length:Int)) then (idx s x2).bind fun x3=>(f x3).bind fun x4=>(if x4 then some (.stop (Out.ret x2)) else some (.next (aY (x2+1)))) else some (.stop (Out.brk ())))
def qN:(Out Unit Int)->Option Int
 | .brk ()=>CY
 | .ret r=>some r
def fL(s:List Int)(f:(Int->Option Bool)):Option Int:=
 (loop (cW s f) 0).bind (qN)
def b8(s:List Int)(f:(Int->Option Bool)):Option Bool:=
 (fL s f).bind fun x1=>some (decide (0<=x1))
def TQ(x:Int):Option Bool:=
 (cC x 0 255).bind fun x1=>some x1
def DT(x:Int):Option Bool:=
 (TQ x).bind fun x1=>some (!x1)
def A4(x1:Bool):Option Bool:=
 some x1
def JT(b:List Int):Option Bool:=
 (if decide ((b.length:Int)<=1000) then (b8 b (fun y0=>DT y0)).bind fun x2=>A4 (!x2) else A4 false)
def G4(c:Int):Option Bool:=
 (cC c (-1) 2).bind fun x1=>some (!x1)
def qO(x1:Bool):Option Bool:=
 some x1
def H5(h:aC):Option Bool:=
 (if (h.Bytes.length:Int) == 384 then (JT h.Bytes).bind fun x2=>(if x2 then (if (h.Class.length:Int) == 6 then (b8 h.Class (fun y0=>G4 y0)).bind fun x3=>qO (!x3) else qO false) else qO false) else qO false)
def aCC(x5:Int):Option Int:=
 some x5
def tA(b:List Int)(at_ width:Int):(Int×Int)->Option (Step (Int×Int) Int)
 | (x3,x4)=>(if decide (x4 < (((b.take ((aY (at_+width)).toNat)).drop at_.toNat).length:Int)) then (idx ((b.take ((aY (at_+width)).toNat)).drop at_.toNat) x4).bind fun x6=>some (.next (aY ((aY (256 * x3))+x6),aY (x4+1))) else some (.stop (x3)))
def aCD:Int->Option Int
 | x5=>aCC x5
def mF(b:List Int)(at_ width:Int):Option Int:=
 need (0<=(at_:Int)/\(at_:Int)<=(aY (at_+width):Int)/\(aY (at_+width):Int)<=(b.length:Int)) ((loop (tA b at_ width) (0,0)).bind (aCD))
def kX(c:Int):Option Bool:=
 (cC c 0 2).bind fun x1=>some x1
def CZ(c:Int):Option Int:=
 (kX c).bind fun x1=>(if !x1 then some 0 else (idx ([8,16,40]:List Int) c).bind fun x2=>some x2)
def uH(c:Int):Option Int:=
 (kX c).bind fun x1=>(if !x1 then some 0 else (CZ c).bind fun x2=>some (aY (4+x2)))
def oN(c:Int):Option Int:=
 (kX c).bind fun x1=>(if !x1 then some 0 else (uH c).bind fun x2=>need (x2≠0) (some (aY (Int.tdiv 56 x2))))
def G5(x:Int):Option Bool:=
 some (x != 0)
def H6(b:List Int):Option Bool:=
 (b8 b (fun y0=>G5 y0)).bind fun x1=>some (!x1)
def aFP:Option Bool:=
 some true
def qP(h:aC)(page x1 x4:Int):Int->Option (Step Int (Out Unit Bool))
 | x6=>(if decide (x6 < x4) then (uH x1).bind fun x7=>(mF ((h.Bytes.take ((aY ((aY (page+1)) * 64)).toNat)).drop ((aY (page * 64)).toNat)) (aY (8+(aY (x6 * x7)))) 4).bind fun x8=>(cC x8 1 7).bind fun x9=>(if !x9 then some (.stop (Out.ret false)) else some (.next (aY (x6+1)))) else some (.stop (Out.brk ())))
def aFQ:(Out Unit Bool)->Option Bool
 | .brk ()=>aFP
 | .ret r=>some r
def jT(h:aC)(page x1:Int)(x3:Bool):Option Bool:=
 (if x3 then some false else (oN x1).bind fun x4=>(loop (qP h page x1 x4) 0).bind (aFQ))
def M1(h:aC)(page:Int):Option Bool:=
 (idx h.Class page).bind fun x1=>need (0<=(aY (page * 64):Int)/\(aY (page * 64):Int)<=(aY ((aY (page+1)) * 64):Int)/\(aY ((aY (page+1)) * 64):Int)<=(h.Bytes.length:Int)) ((if decide (x1 < 0) then (H6 ((h.Bytes.take ((aY ((aY (page+1)) * 64)).toNat)).drop ((aY (page * 64)).toNat))).bind fun x2=>some x2 else (idx ((h.Bytes.take ((aY ((aY (page+1)) * 64)).toNat)).drop ((aY (page * 64)).toNat)) 0).bind fun x10=>(if x10 != 171 then jT h page x1 true else (idx ((h.Bytes.take ((aY ((aY (page+1)) * 64)).toNat)).drop ((aY (page * 64)).toNat)) 1).bind fun x11=>(if x11 != x1 then jT h page x1 true else (idx ((h.Bytes.take ((aY ((aY (page+1)) * 64)).toNat)).drop ((aY (page * 64)).toNat)) 2).bind fun x12=>(oN x1).bind fun x13=>(if x12 != x13 then jT h page x1 true else need (0<=(3:Int)/\(3:Int)<=(8:Int)/\(8:Int)<=(((h.Bytes.take ((aY ((aY (page+1)) * 64)).toNat)).drop ((aY (page * 64)).toNat)).length:Int)) ((H6 ((((h.Bytes.take ((aY ((aY (page+1)) * 64)).toNat)).drop ((aY (page * 64)).toNat)).take ((8:Int).toNat)).drop ((3:Int).toNat))).bind fun x14=>jT h page x1 (!x14)))))))
def aFR:Option Bool:=
 some true
def vO(h:aC):Int->Option (Step Int (Out Unit Bool))
 | x3=>(if decide (x3 < 6) then (M1 h x3).bind fun x4=>(if !x4 then some (.stop (Out.ret false)) else some (.next (aY (x3+1)))) else some (.stop (Out.brk ())))
def aFS:(Out Unit Bool)->Option Bool
 | .brk ()=>aFR
 | .ret r=>some r
def H7(h:aC):Option Bool:=
 (H5 h).bind fun x1=>(if !x1 then some false else (loop (vO h) 0).bind (aFS))
def mS(slot:Int):Option Bool:=
 (cC slot 0 23).bind fun x1=>some x1
def rZ(x10:List Raw):Option (List Raw):=
 some x10
def iN(slices:List (List Raw)):((List Raw)×Int)->Option (Step ((List Raw)×Int) (List Raw))
 | (x8,x9)=>(if decide (x9 < (slices.length:Int)) then (idx slices x9).bind fun x11=>need (x8.length+x11.length<=1073741824) (some (.next (x8++x11,aY (x9+1)))) else some (.stop (x8)))
def QK:(List Raw)->Option (List Raw)
 | x10=>rZ x10
def mG(slices:List (List Raw))(x5:Int):Option (List Raw):=
 need (0<=x5/\x5<=1073741824) ((loop (iN slices) ([],0)).bind (QK))
def gO(slices:List (List Raw)):(Int×Int)->Option (Step (Int×Int) Int)
 | (x3,x4)=>(if decide (x4 < (slices.length:Int)) then (idx slices x4).bind fun x12=>(if decide ((aY (x3+(x12.length:Int))) < 0) then none else some (.next (aY (x3+(x12.length:Int)),aY (x4+1)))) else some (.stop (x3)))
def DU(slices:List (List Raw)):Int->Option (List Raw)
 | x5=>mG slices x5
def pY(slices:List (List Raw)):Option (List Raw):=
 (loop (gO slices) (0,0)).bind (DU slices)
theorem MD{u1 u2:List Raw}(h:u1.length+u2.length<=1073741824):loop (gO [u1,u2]) (0,0)=some ((u1.length+u2.length:Nat):Int):=by
 have e1:aY (u1.length:Int)=u1.length:=K2 (by omega)
 have e2:aY ((u1.length:Int)+(u2.length:Int))=((u1.length+u2.length:Nat):Int):=by rw [K2 (by omega)];rfl
 have e3:aY (0+1)=1:=K2 (by omega)
 have e4:aY 2=2:=K2 (by omega)
 have n1:¬(u1.length:Int) < 0:=by omega
 have n2:¬((u1.length+u2.length:Nat):Int) < 0:=by omega
 rw [bP (s':=((u1.length:Int),1)) ?_,bP (s':=(((u1.length+u2.length:Nat):Int),2)) ?_,bL (r:=((u1.length+u2.length:Nat):Int)) ?_]
 ·simp [gO]
 ·simp [gO,idx,e2,e4]
  omega
 ·simp [gO,idx,e1,n1]
  exact e3
theorem PB{u1 u2:List Raw}{n1 n2:Nat}(hl:u1.length=n1/\u2.length=n2)(h:n1+n2<=1073741824):pY [u1,u2]=some (u1++u2):=by
 obtain⟨rfl,rfl⟩:=hl
 have e3:aY (0+1)=1:=K2 (by omega)
 have e4:aY 2=2:=K2 (by omega)
 unfold pY
 rw [MD h]
 simp only [aE,DU,mG]
 rw [aN (by omega),bP (s':=(u1,1)) ?_,bP (s':=(u1++u2,2)) ?_,bL (r:=u1++u2) ?_]
 ·rfl
 ·simp [iN]
 ·simp [iN,idx,e4,aN h]
 ·have h1:u1.length<=1073741824:=by omega
  simp [iN,idx,aN h1]
  exact e3
def IW:Option Bool:=
 some true
def A5(x4:Int)(x12:List Bool):Option (Step (Int×(List Bool)) (Out Unit Bool)):=
 some (.next (aY (x4+1),x12))
def nR(x10:Int)(x11:List Bool)(x13:Int)(x14:Bool):Option (Step (Int×(List Bool)) (Out (List Bool) Bool)):=
 (if x14 then some (.stop (Out.ret false)) else need (0<=(x13:Int)/\(x13:Int) < 24) ((idx (x11:List Bool) x13).bind fun x15=>some (.next (aY (x10+1),x11.set (x13.toNat) true))))
def lU(x6:aR):(Int×(List Bool))->Option (Step (Int×(List Bool)) (Out (List Bool) Bool))
 | (x10,x11)=>(if decide (x10 < (x6.aT.length:Int)) then (idx x6.aT x10).bind fun x13=>(mS x13).bind fun x16=>(if !x16 then nR x10 x11 x13 true else need (0<=(x13:Int)/\(x13:Int) < 24) ((idx (x11:List Bool) x13).bind fun x17=>nR x10 x11 x13 x17)) else some (.stop (Out.brk x11)))
def RX(x4:Int):(Out (List Bool) Bool)->Option (Step (Int×(List Bool)) (Out Unit Bool))
 | .brk x12=>A5 x4 x12
 | .ret r=>some (.stop (Out.ret r))
def lV(x4:Int)(x5:List Bool)(x6:aR)(x7:Bool):Option (Step (Int×(List Bool)) (Out Unit Bool)):=
 (if x7 then some (.stop (Out.ret false)) else (loop (lU x6) (0,x5)).bind (RX x4))
def lW(l:aB):(Int×(List Bool))->Option (Step (Int×(List Bool)) (Out Unit Bool))
 | (x4,x5)=>(if decide (x4 < ((l.Own++l.Global).length:Int)) then (idx (l.Own++l.Global) x4).bind fun x6=>(if decide (x4 < (l.Own.length:Int)) then lV x4 x5 x6 (decide (2 < (x6.aT.length:Int))) else lV x4 x5 x6 false) else some (.stop (Out.brk ())))
def aCE:(Out Unit Bool)->Option Bool
 | .brk ()=>IW
 | .ret r=>some r
def tB(l:aB)(x1:Bool):Option Bool:=
 (if x1 then some false else need (l.Own.length+l.Global.length<=1073741824) ((loop (lW l) (0,[false,false,false,false,false,false,false,false,false,false,false,false,false,false,false,false,false,false,false,false,false,false,false,false])).bind (aCE)))
def kY(l:aB):Option Bool:=
 (if (l.Global.length:Int) != 3 then tB l true else tB l ((l.Own.length:Int) != 9))
def zF(slot c:Int)(x1:Bool):Option Int:=
 (if x1 then some (-1) else (uH c).bind fun x2=>some (aY ((aY ((aY ((aY (Int.tdiv slot 4)) * 64))+8))+(aY ((Int.tmod slot 4) * x2)))))
def vP(slot c:Int):Option Int:=
 (mS slot).bind fun x3=>(if !x3 then zF slot c true else (kX c).bind fun x4=>(if !x4 then zF slot c true else (oN c).bind fun x5=>zF slot c (decide (x5<=(Int.tmod slot 4)))))
def A6(h:aC)(slot:Int)(x1:Bool):Option Int:=
 (if x1 then some (-1) else (idx h.Class (aY (Int.tdiv slot 4))).bind fun x2=>some x2)
def mH(h:aC)(slot:Int):Option Int:=
 (mS slot).bind fun x3=>(if !x3 then A6 h slot true else (idx h.Class (aY (Int.tdiv slot 4))).bind fun x4=>(vP slot x4).bind fun x5=>A6 h slot (decide (x5 < 0)))
def r9(h:aC)(slot:Int):Option Int:=
 (H5 h).bind fun x1=>(if !x1 then some (-1) else (mH h slot).bind fun x2=>some x2)
def CB(h:aC)(slot:Int):Option Int:=
 (r9 h slot).bind fun x1=>(if decide (x1 < 0) then some 0 else (vP slot x1).bind fun x2=>(mF h.Bytes x2 4).bind fun x3=>some x3)
def aAV:Option Bool:=
 some true
def xF(x2:Int)(x4:Bool):Option (Step Int (Out Unit Bool)):=
 (if x4 then some (.stop (Out.ret false)) else some (.next (aY (x2+1))))
def mW(h:aC)(s:aR)(c:Int):Int->Option (Step Int (Out Unit Bool))
 | x2=>(if decide (x2 < (s.aT.length:Int)) then (idx s.aT x2).bind fun x3=>(mH h x3).bind fun x5=>(if x5 != c then xF x2 true else (CB h x3).bind fun x6=>xF x2 (decide (6 < x6))) else some (.stop (Out.brk ())))
def aAW:(Out Unit Bool)->Option Bool
 | .brk ()=>aAV
 | .ret r=>some r
def zG(h:aC)(s:aR)(c:Int):Option Bool:=
 (loop (mW h s c) 0).bind (aAW)
def aIB:Option Bool:=
 some true
def uI(m:Mem):Int->Option (Step Int (Out Unit Bool))
 | x5=>(if decide (x5 < (m.aB.Own.length:Int)) then (idx m.aB.Own x5).bind fun x6=>(zG m.aC x6 (Int.tmod x5 3)).bind fun x7=>(if !x7 then some (.stop (Out.ret false)) else some (.next (aY (x5+1)))) else some (.stop (Out.brk ())))
def aIC:(Out Unit Bool)->Option Bool
 | .brk ()=>aIB
 | .ret r=>some r
def WE(m:Mem):Option Bool:=
 (loop (uI m) 0).bind (aIC)
def uJ(m:Mem):Int->Option (Step Int (Out Unit Bool))
 | x3=>(if decide (x3 < (m.aB.Global.length:Int)) then (idx m.aB.Global x3).bind fun x8=>(zG m.aC x8 x3).bind fun x9=>(if !x9 then some (.stop (Out.ret false)) else some (.next (aY (x3+1)))) else some (.stop (Out.brk ())))
def WG(m:Mem):(Out Unit Bool)->Option Bool
 | .brk ()=>WE m
 | .ret r=>some r
def G6(m:Mem)(x1:Bool):Option Bool:=
 (if x1 then some false else (loop (uJ m) 0).bind (WG m))
def K4(m:Mem):Option Bool:=
 (H7 m.aC).bind fun x10=>(if !x10 then G6 m true else (kY m.aB).bind fun x11=>G6 m (!x11))
def C0:Option Int:=
 some (-1)
def jG(s:List pQ)(f:(pQ->Option Bool)):Int->Option (Step Int (Out Unit Int))
 | x2=>(if decide (x2 < (s.length:Int)) then (idx s x2).bind fun x3=>(f x3).bind fun x4=>(if x4 then some (.stop (Out.ret x2)) else some (.next (aY (x2+1)))) else some (.stop (Out.brk ())))
def qQ:(Out Unit Int)->Option Int
 | .brk ()=>C0
 | .ret r=>some r
def vQ(s:List pQ)(f:(pQ->Option Bool)):Option Int:=
 (loop (jG s f) 0).bind (qQ)
def lK(s:List pQ)(f:(pQ->Option Bool)):Option Bool:=
 (vQ s f).bind fun x1=>some (decide (0<=x1))
def lL(x1:Bool):Option Bool:=
 some x1
def vR(p:pQ)(k0:aD):Option Bool:=
 (cC p.aJ 0 k0.aJ).bind fun x2=>(if !x2 then lL true else (cC p.Seen 0 2).bind fun x3=>(if !x3 then lL true else (if !p.On then lL (!(decide (p=(⟨false,0,false,0⟩:pQ)))) else lL false)))
def tC(x1:Bool):Option Bool:=
 some x1
def oO(c:aD):Option Bool:=
 (cC c.aJ 0 100000).bind fun x2=>(if x2 then (if (c.b9.length:Int) == 3 then (lK c.b9 (fun y0=>vR y0 c)).bind fun x3=>tC (!x3) else tC false) else tC false)
def mX(x1:Bool):Option Bool:=
 some x1
def iJ(h:Int):Option Bool:=
 (cC h 32 223).bind fun x2=>(if x2 then mX (decide ((Int.tmod h 32) < 24)) else mX false)
def DV(x5:Int):Option Int:=
 some x5
def jU(l:List bC):(Int×Int)->Option (Step (Int×Int) Int)
 | (x3,x4)=>(if decide (x4 < (l.length:Int)) then (idx l x4).bind fun x6=>some (.next (aY (x3+(x6.Rows.length:Int)),aY (x4+1))) else some (.stop (x3)))
def ZA:Int->Option Int
 | x5=>DV x5
def vS(l:List bC):Option Int:=
 (loop (jU l) (0,0)).bind (ZA)
def A7(l:List bC):Option Bool:=
 (vS l).bind fun x5=>some (decide (x5<=24))
def A8(x3:Int)(x11:List Bool):Option (Step (Int×(List Bool)) (Out Unit Bool)):=
 some (.next (aY (x3+1),x11))
def kA(x9:Int)(x10:List Bool)(x12:dA)(x13:Bool):Option (Step (Int×(List Bool)) (Out (List Bool) Bool)):=
 (if x13 then some (.stop (Out.ret false)) else need (0<=(Int.tmod x12.Handle 32:Int)/\(Int.tmod x12.Handle 32:Int) < 24) ((idx (x10:List Bool) (Int.tmod x12.Handle 32)).bind fun x14=>some (.next (aY (x9+1),x10.set ((Int.tmod x12.Handle 32).toNat) true))))
def lX(x6:bC):(Int×(List Bool))->Option (Step (Int×(List Bool)) (Out (List Bool) Bool))
 | (x9,x10)=>(if decide (x9 < (x6.Rows.length:Int)) then (idx x6.Rows x9).bind fun x12=>(iJ x12.Handle).bind fun x15=>(if !x15 then kA x9 x10 x12 true else (cC x12.aJ 0 100000).bind fun x16=>(if !x16 then kA x9 x10 x12 true else need (0<=(Int.tmod x12.Handle 32:Int)/\(Int.tmod x12.Handle 32:Int) < 24) ((idx (x10:List Bool) (Int.tmod x12.Handle 32)).bind fun x17=>kA x9 x10 x12 x17))) else some (.stop (Out.brk x10)))
def RY(x3:Int):(Out (List Bool) Bool)->Option (Step (Int×(List Bool)) (Out Unit Bool))
 | .brk x11=>A8 x3 x11
 | .ret r=>some (.stop (Out.ret r))
def lY(l:List bC):(Int×(List Bool))->Option (Step (Int×(List Bool)) (Out Unit Bool))
 | (x3,x4)=>(if decide (x3 < (l.length:Int)) then (idx l x3).bind fun x6=>(loop (lX x6) (0,x4)).bind (RY x3) else some (.stop (Out.brk ())))
def RZ(l:List bC):(Out Unit Bool)->Option Bool
 | .brk ()=>A7 l
 | .ret r=>some r
def mI(l:List bC):Option Bool:=
 (if (l.length:Int) != 3 then some false else (loop (lY l) (0,[false,false,false,false,false,false,false,false,false,false,false,false,false,false,false,false,false,false,false,false,false,false,false,false])).bind (RZ l))
def vT(x1:Bool):Option Bool:=
 some x1
def rR(h:Int):Option Bool:=
 (if h == 0 then vT true else (iJ h).bind fun x2=>vT x2)
def JU(h:Int):Option Bool:=
 (rR h).bind fun x1=>some (!x1)
def G7(x1:Bool):Option Bool:=
 some x1
def GD(z:List Int):Option Bool:=
 (if (z.length:Int) == 3 then (b8 z (fun y0=>JU y0)).bind fun x2=>G7 (!x2) else G7 false)
def yP:Option Int:=
 some (-1)
def kJ(s:List bC)(f:(bC->Option Bool)):Int->Option (Step Int (Out Unit Int))
 | x2=>(if decide (x2 < (s.length:Int)) then (idx s x2).bind fun x3=>(f x3).bind fun x4=>(if x4 then some (.stop (Out.ret x2)) else some (.next (aY (x2+1)))) else some (.stop (Out.brk ())))
def nK:(Out Unit Int)->Option Int
 | .brk ()=>yP
 | .ret r=>some r
def sA(s:List bC)(f:(bC->Option Bool)):Option Int:=
 (loop (kJ s f) 0).bind (nK)
def iQ(s:List bC)(f:(bC->Option Bool)):Option Bool:=
 (sA s f).bind fun x1=>some (decide (0<=x1))
def zH:Option Int:=
 some (-1)
def kZ(s:List dA)(f:(dA->Option Bool)):Int->Option (Step Int (Out Unit Int))
 | x2=>(if decide (x2 < (s.length:Int)) then (idx s x2).bind fun x3=>(f x3).bind fun x4=>(if x4 then some (.stop (Out.ret x2)) else some (.next (aY (x2+1)))) else some (.stop (Out.brk ())))
def pJ:(Out Unit Int)->Option Int
 | .brk ()=>zH
 | .ret r=>some r
def uT(s:List dA)(f:(dA->Option Bool)):Option Int:=
 (loop (kZ s f) 0).bind (pJ)
def iY(s:List dA)(f:(dA->Option Bool)):Option Bool:=
 (uT s f).bind fun x1=>some (decide (0<=x1))
def JH:Option Int:=
 some (-1)
def eZ(s:List Int)(v:Int):Int->Option (Step Int (Out Unit Int))
 | x2=>(if decide (x2 < (s.length:Int)) then (idx s x2).bind fun x3=>(if v == x3 then some (.stop (Out.ret x2)) else some (.next (aY (x2+1)))) else some (.stop (Out.brk ())))
def pZ:(Out Unit Int)->Option Int
 | .brk ()=>JH
 | .ret r=>some r
def mY(s:List Int)(v:Int):Option Int:=
 (loop (eZ s v) 0).bind (pZ)
def p5(s:List Int)(v:Int):Option Bool:=
 (mY s v).bind fun x1=>some (decide (0<=x1))
def pK(s:aR)(k0:Int):Option Bool:=
 (p5 s.aT k0).bind fun x1=>some x1
def yQ:Option Int:=
 some (-1)
def kK(s:List aR)(f:(aR->Option Bool)):Int->Option (Step Int (Out Unit Int))
 | x2=>(if decide (x2 < (s.length:Int)) then (idx s x2).bind fun x3=>(f x3).bind fun x4=>(if x4 then some (.stop (Out.ret x2)) else some (.next (aY (x2+1)))) else some (.stop (Out.brk ())))
def nL:(Out Unit Int)->Option Int
 | .brk ()=>yQ
 | .ret r=>some r
def sB(s:List aR)(f:(aR->Option Bool)):Option Int:=
 (loop (kK s f) 0).bind (nL)
def iS(s:List aR)(f:(aR->Option Bool)):Option Bool:=
 (sB s f).bind fun x1=>some (decide (0<=x1))
def DW(x1:Bool):Option Bool:=
 some x1
def H8(l:aB)(slot:Int):Option Bool:=
 (iS l.Global (fun y0=>pK y0 slot)).bind fun x2=>(if x2 then DW true else (iS l.Own (fun y0=>pK y0 slot)).bind fun x3=>DW x3)
def DX(m:Mem)(slot:Int):Option Int:=
 (mH m.aC slot).bind fun x1=>(if decide (x1 < 0) then some 0 else (H8 m.aB slot).bind fun x2=>(if x2 then some 1 else (CB m.aC slot).bind fun x3=>(if decide (6 < x3) then some 2 else some 3)))
def vU(x1:Bool):Option Bool:=
 some x1
def rS(m:Mem)(h:Int):Option Bool:=
 (iJ h).bind fun x2=>(if x2 then (DX m (Int.tmod h 32)).bind fun x3=>(if x3 == 3 then (CB m.aC (Int.tmod h 32)).bind fun x4=>vU (x4 == (aY (Int.tdiv h 32))) else vU false) else vU false)
def sC(x1:Bool):Option Bool:=
 some x1
def A9(r_:dA)(k0:aA):Option Bool:=
 (rS k0.Mem r_.Handle).bind fun x2=>(if !x2 then sC true else sC (decide (k0.aD.aJ < r_.aJ)))
def G8(l:bC)(k0:aA):Option Bool:=
 (iY l.Rows (fun y0=>A9 y0 k0)).bind fun x1=>some x1
def qR(b:aA)(x1:Bool):Option Bool:=
 (if x1 then some false else (iQ b.aO (fun y0=>G8 y0 b)).bind fun x2=>some (!x2))
def C1(b:aA):Option Bool:=
 (K4 b.Mem).bind fun x3=>(if !x3 then qR b true else (oO b.aD).bind fun x4=>(if !x4 then qR b true else (mI b.aO).bind fun x5=>(if !x5 then qR b true else (GD b.l7).bind fun x6=>qR b (!x6))))
def yR:Option Int:=
 some (-1)
def kL(s:List Queue)(f:(Queue->Option Bool)):Int->Option (Step Int (Out Unit Int))
 | x2=>(if decide (x2 < (s.length:Int)) then (idx s x2).bind fun x3=>(f x3).bind fun x4=>(if x4 then some (.stop (Out.ret x2)) else some (.next (aY (x2+1)))) else some (.stop (Out.brk ())))
def nM:(Out Unit Int)->Option Int
 | .brk ()=>yR
 | .ret r=>some r
def sD(s:List Queue)(f:(Queue->Option Bool)):Option Int:=
 (loop (kL s f) 0).bind (nM)
def kM(s:List Queue)(f:(Queue->Option Bool)):Option Bool:=
 (sD s f).bind fun x1=>some (decide (0<=x1))
def DY:Option Int:=
 some (-1)
def mJ(s:List dY)(f:(dY->Option Bool)):Int->Option (Step Int (Out Unit Int))
 | x2=>(if decide (x2 < (s.length:Int)) then (idx s x2).bind fun x3=>(f x3).bind fun x4=>(if x4 then some (.stop (Out.ret x2)) else some (.next (aY (x2+1)))) else some (.stop (Out.brk ())))
def sG:(Out Unit Int)->Option Int
 | .brk ()=>DY
 | .ret r=>some r
def yW(s:List dY)(f:(dY->Option Bool)):Option Int:=
 (loop (mJ s f) 0).bind (sG)
def mK(s:List dY)(f:(dY->Option Bool)):Option Bool:=
 (yW s f).bind fun x1=>some (decide (0<=x1))
def JV(x4:Bool):Option Bool:=
 some x4
def JW(x7:Bool):Option Bool:=
 some x7
def DZ(o_:dY)(x3:Bool):Option Bool:=
 (if x3 then some false else (if o_.Kind == 1 then (cC o_.iI 0 100).bind fun x5=>(if x5 then (cC o_.dQ 0 65535).bind fun x6=>JV x6 else JV false) else (if o_.iI == 0 then JW (o_.dQ == 0) else JW false)))
def oP(o_:dY)(x1:Bool):Option Bool:=
 (cC o_.Kind 1 7).bind fun x2=>(if !x2 then some false else (if x1 then (cC o_.Cell 0 1).bind fun x8=>(if !x8 then DZ o_ true else DZ o_ false) else DZ o_ (o_.Cell != 0)))
def KU(o_:dY):Option Bool:=
 (if o_.Kind == 1 then oP o_ true else (if o_.Kind == 2 then oP o_ true else (if o_.Kind == 3 then oP o_ true else oP o_ (o_.Kind == 7))))
def BA(o_:dY):Option Bool:=
 (KU o_).bind fun x1=>some (!x1)
def xG(x1:Bool):Option Bool:=
 some x1
def G9(q:Queue):Option Bool:=
 (if decide (12 < (q.jQ.length:Int)) then xG true else (mK q.jQ (fun y0=>BA y0)).bind fun x2=>xG x2)
def D0(x1:Bool):Option Bool:=
 some x1
def H9(todo:List Queue):Option Bool:=
 (if (todo.length:Int) == 3 then (kM todo (fun y0=>G9 y0)).bind fun x2=>D0 (!x2) else D0 false)
def vV(h:Int):Option Bool:=
 (rR h).bind fun x1=>some (!x1)
def C2:Option Int:=
 some (-1)
def lM(s:List bE)(f:(bE->Option Bool)):Int->Option (Step Int (Out Unit Int))
 | x2=>(if decide (x2 < (s.length:Int)) then (idx s x2).bind fun x3=>(f x3).bind fun x4=>(if x4 then some (.stop (Out.ret x2)) else some (.next (aY (x2+1)))) else some (.stop (Out.brk ())))
def qS:(Out Unit Int)->Option Int
 | .brk ()=>C2
 | .ret r=>some r
def vW(s:List bE)(f:(bE->Option Bool)):Option Int:=
 (loop (lM s f) 0).bind (qS)
def lN(s:List bE)(f:(bE->Option Bool)):Option Bool:=
 (vW s f).bind fun x1=>some (decide (0<=x1))
def zI(x1:Bool):Option Bool:=
 some x1
def QL(j:bE):Option Bool:=
 (if !j.eT then some (decide (j=(⟨false,(⟨0,0,0,0⟩:dY),0,0,(⟨0,0,0,0,0,0,0,0,0,false⟩:Sub),0,0,0,0⟩:bE))) else (KU j.Op).bind fun x2=>(if x2 then (rR j.H).bind fun x3=>(if x3 then (rR j.Old).bind fun x4=>zI x4 else zI false) else zI false))
def D1(j:bE):Option Bool:=
 (QL j).bind fun x1=>some (!x1)
def i5(x1:Bool):Option Bool:=
 some x1
def oQ(s:aG):Option Bool:=
 (C1 s.aA).bind fun x2=>(if x2 then (if (s.Cells.length:Int) == 2 then (if (s.aX.length:Int) == 3 then (H9 s.dT).bind fun x3=>(if x3 then (cC s.aI 0 1000000).bind fun x4=>(if x4 then (b8 s.Cells (fun y0=>vV y0)).bind fun x5=>(if !x5 then (lN s.aX (fun y0=>D1 y0)).bind fun x6=>i5 (!x6) else i5 false) else i5 false) else i5 false) else i5 false) else i5 false) else i5 false)
def dN(s:aG)(kind w_ handle val code:Int)(x1:bE):Option aG:=
 some ({s with Log:=s.Log++([(⟨kind,w_,x1.aI,x1.Op.Cell,handle,val,code⟩:Ev)])}:aG)
def cY(s:aG)(kind w_ handle val code:Int):Option aG:=
 (idx s.aX w_).bind fun x1=>need (s.Log.length+([(⟨kind,w_,x1.aI,x1.Op.Cell,handle,val,code⟩:Ev)]).length<=1073741824)<|dN s kind w_ handle val code x1
def xH(s:List dY)(i j:Int):Option (List dY):=
 need (0<=(i:Int)/\(i:Int)<=(j:Int)/\(j:Int)<=((s.length:Int):Int)/\((s.length:Int):Int)<=(s.length:Int)) ((if i == j then some s else need (0<=(i:Int)/\(i:Int)<=(s.length:Int)) (need (0<=(j:Int)/\(j:Int)<=(s.length:Int)) (need (i.toNat<=j.toNat) (need (0<=(((((dF s i.toNat (s.drop j.toNat)).take (i.toNat+(s.length - j.toNat))).drop 0).length:Int):Int)/\(((((dF s i.toNat (s.drop j.toNat)).take (i.toNat+(s.length - j.toNat))).drop 0).length:Int):Int)<=((s.length:Int):Int)/\((s.length:Int):Int)<=((dF s i.toNat (s.drop j.toNat)).length:Int)) (some (((dF s i.toNat (s.drop j.toNat)).take (i.toNat+(s.length - j.toNat))).drop 0)))))))
def kB(kind a_:Int):Option Sub:=
 some (⟨kind,a_,0,0,0,0,0,0,0,false⟩:Sub)
def bO(j:bE)(code:Int):Option bE:=
 some ({j with Pc:=9,Code:=code}:bE)
def eD(s:aG)(w_:Int)(x4:(List dY))(x5:bE):Option aG:=
 (idx s.aX w_).bind fun x6=>(cY ({s with aX:=s.aX.set w_.toNat x5,dT:=s.dT.set w_.toNat (⟨x4⟩:Queue),aI:=aY (s.aI+1)}:aG) 1 w_ 0 0 0).bind fun x7=>some x7
def j5(s:aG)(w_:Int)(x3:dY)(x4:(List dY))(x9:Bool):Option aG:=
 (if x9 then (kB 5 0).bind fun x10=>(idx s.aA.aD.b9 w_).bind fun x11=>(if x11.On then (bO (⟨true,x3,aY (s.aI+1),0,x10,0,0,0,0⟩:bE) 1).bind fun x12=>eD s w_ x4 x12 else eD s w_ x4 (⟨true,x3,aY (s.aI+1),0,x10,0,0,0,0⟩:bE)) else (if x3.Kind == 4 then (kB 3 0).bind fun x13=>eD s w_ x4 (⟨true,x3,aY (s.aI+1),0,x13,0,0,0,0⟩:bE) else eD s w_ x4 (⟨true,x3,aY (s.aI+1),0,(⟨0,0,0,0,0,0,0,0,0,false⟩:Sub),0,0,0,0⟩:bE)))
def p7(s:aG)(w_:Int)(x1:Bool):Option aG:=
 (if x1 then some s else (idx s.dT w_).bind fun x2=>(idx x2.jQ 0).bind fun x3=>(xH x2.jQ 0 1).bind fun x4=>(if x3.Kind == 1 then (kB 1 x3.iI).bind fun x8=>eD s w_ x4 (⟨true,x3,aY (s.aI+1),0,x8,0,0,0,0⟩:bE) else (if x3.Kind == 2 then j5 s w_ x3 x4 true else j5 s w_ x3 x4 (x3.Kind == 5))))
def xI(s:aG)(w_:Int):Option aG:=
 (idx s.dT w_).bind fun x14=>(if (x14.jQ.length:Int) == 0 then p7 s w_ true else p7 s w_ (s.aI == 1000000))
def aCF:Option Int:=
 some (-1)
def BC(x2:Int)(x3:Bool):Option (Step Int (Out Unit Int)):=
 (if x3 then some (.stop (Out.ret x2)) else some (.next (aY (x2+1))))
def kC(size:Int):Int->Option (Step Int (Out Unit Int))
 | x2=>(if decide (x2 < 3) then (if decide (1<=size) then (CZ x2).bind fun x4=>BC x2 (decide (size<=x4)) else BC x2 false) else some (.stop (Out.brk ())))
def aCG:(Out Unit Int)->Option Int
 | .brk ()=>aCF
 | .ret r=>some r
def JX(size:Int):Option Int:=
 (loop (kC size) 0).bind (aCG)
def bG(s:Sub)(code:Int):Option Sub:=
 some ({s with Code:=code,cZ:=true}:Sub)
def gH(w_:Int):Option Bool:=
 (cC w_ 0 2).bind fun x1=>some x1
def HA(w_ c:Int)(x1:Bool):Option Int:=
 (if x1 then some (-1) else some (aY ((aY (w_ * 3))+c)))
def K5(w_ c:Int):Option Int:=
 (gH w_).bind fun x2=>(if !x2 then HA w_ c true else (kX c).bind fun x3=>HA w_ c (!x3))
def vX(s:aR):Option (Int×aR):=
 (if decide ((aY ((s.aT.length:Int) - 1)) < 0) then some ((-1),s) else (idx s.aT (aY ((s.aT.length:Int) - 1))).bind fun x1=>need (0<=(aY ((s.aT.length:Int) - 1):Int)/\(aY ((s.aT.length:Int) - 1):Int)<=(aY ((s.aT.length:Int) - 1):Int)/\(aY ((s.aT.length:Int) - 1):Int)<=(s.aT.length:Int)) (some (x1,(⟨(s.aT.take ((aY ((s.aT.length:Int) - 1)).toNat)).drop 0⟩:aR))))
def BD(x1:aB)(x2:Int)(x3:Bool):Option (aB×Int):=
 (if x3 then some (x1,(-1)) else (idx x1.Own x2).bind fun x4=>(vX x4).bind fun x5=>some ((⟨x1.Global,x1.Own.set x2.toNat x5.2⟩:aB),x5.1))
def JY(l:aB)(w_ c:Int):Option (aB×Int):=
 (iX l).bind fun x1=>(K5 w_ c).bind fun x2=>(kY l).bind fun x6=>(if !x6 then BD x1 x2 true else BD x1 x2 (decide (x2 < 0)))
def sH(c:Int)(x1:aB)(x2:Bool):Option (aB×Int):=
 (if x2 then some (x1,(-1)) else (idx x1.Global c).bind fun x3=>(vX x3).bind fun x4=>some ((⟨x1.Global.set c.toNat x4.2,x1.Own⟩:aB),x4.1))
def BE(l:aB)(c:Int):Option (aB×Int):=
 (iX l).bind fun x1=>(kY l).bind fun x5=>(if !x5 then sH c x1 true else (kX c).bind fun x6=>sH c x1 (!x6))
def k9(width:Int):Option Bool:=
 (cC width 1 7).bind fun x1=>some x1
def aID(x8:List UInt8):Option (List UInt8):=
 some x8
def HB:(Int×(List UInt8)×Int)->Option (Step (Int×(List UInt8)×Int) (List UInt8))
 | (x5,x6,x7)=>(if decide (0<=x7) then (idx x6 x7).bind fun x9=>some (.next (oK .i64 x5 8,x6.set x7.toNat (u8 x5),aY (x7 - 1))) else some (.stop (x6)))
def aIE:(List UInt8)->Option (List UInt8)
 | x8=>aID x8
def zJ(n width:Int)(x1:Bool):Option (List UInt8):=
 (if x1 then some ([]) else need (0<=(width:Int)/\(width:Int)<=4294967296) ((loop (HB) (n,List.replicate (width.toNat) 0,aY (width - 1))).bind (aIE)))
def CC(n width:Int):Option (List UInt8):=
 (k9 width).bind fun x10=>(if !x10 then zJ n width true else (if decide (n < 0) then zJ n width true else need (0<=(IntKind.u64.wrap (aY (8 * width)):Int)) (zJ n width (decide ((aJN .i64 1 (IntKind.u64.wrap (aY (8 * width))))<=n)))))
def TR(b x5:List Int):Option (List Int):=
 need (x5.length=b.length) (some x5)
def D2(b:List Int)(at_:Int)(text:List UInt8):((List Int)×Int)->Option (Step ((List Int)×Int) (List Int))
 | (x3,x4)=>need (x3.length=b.length) ((if decide (x4 < (text.length:Int)) then (idx text x4).bind fun x6=>(idx x3 (aY (at_+x4))).bind fun x7=>some (.next (x3.set ((aY (at_+x4)).toNat) (x6.toNat:Int),aY (x4+1))) else some (.stop (x3))))
def TS(b:List Int):(List Int)->Option (List Int)
 | x5=>TR b x5
def vY(b:List Int)(at_:Int)(text:List UInt8):Option (List Int):=
 (loop (D2 b at_ text) (b,0)).bind (TS b)
def D3(page index:Int)(x1:Bool):Option Int:=
 (if x1 then some (-1) else some (aY ((aY (page * 4))+index)))
def M3(page index:Int):Option Int:=
 (cC page 0 5).bind fun x2=>(if !x2 then D3 page index true else (cC index 0 3).bind fun x3=>D3 page index (!x3))
def aIF(c:Int)(x1:aC)(x2:Int)(x13 x14:List Int):Option (aC×(List Int)):=
 some ((⟨x14,x1.Class.set x2.toNat c⟩:aC),x13)
def NT(x10:List Int)(x11 x15:Int)(x16:List Int):Option (Step ((List Int)×Int×(List Int)) ((List Int)×(List Int))):=
 need (x10.length+([x15]).length<=1073741824) (some (.next (x10++([x15]),aY (x11+1),x16)))
def HC(c x2 x6:Int):((List Int)×Int×(List Int))->Option (Step ((List Int)×Int×(List Int)) ((List Int)×(List Int)))
 | (x10,x11,x12)=>(if decide (x11 < x6) then (M3 x2 x11).bind fun x15=>(vP x15 c).bind fun x17=>(CC 1 4).bind fun x18=>(vY x12 x17 x18).bind fun x19=>NT x10 x11 x15 x19 else some (.stop ((x10,x12))))
def aIG(c:Int)(x1:aC)(x2:Int):((List Int)×(List Int))->Option (aC×(List Int))
 | (x13,x14)=>aIF c x1 x2 x13 x14
def NU(c:Int)(x1:aC)(x2:Int)(x5:List Int):Option (aC×(List Int)):=
 (oN c).bind fun x6=>(loop (HC c x2 x6) (([]:List Int),0,x5)).bind (aIG c x1 x2)
def zK(c:Int)(x1:aC)(x2:Int)(x3:Bool):Option (aC×(List Int)):=
 (if x3 then some (x1,([]:List Int)) else (idx x1.Class x2).bind fun x4=>need (0<=(aY (x2 * 64):Int)/\(aY (x2 * 64):Int)<=(x1.Bytes.length:Int))<|(oN c).bind fun x20=>NU c x1 x2 (dF x1.Bytes ((aY (x2 * 64)).toNat) ([171,c,x20]:List Int)))
def GF(h:aC)(c:Int):Option (aC×(List Int)):=
 (uG h).bind fun x1=>(mY h.Class (-1)).bind fun x2=>(H7 h).bind fun x21=>(if !x21 then zK c x1 x2 true else (kX c).bind fun x22=>(if !x22 then zK c x1 x2 true else zK c x1 x2 (decide (x2 < 0))))
def IX(x4:Int)(x5:Mem):Option (Mem×Int):=
 some (x5,x4)
def IY(c:Int)(x1:aC×(List Int))(x2:Mem):Option (Mem×Int):=
 (if (x1.2.length:Int) == 0 then some (x2,(-1)) else (idx x2.aB.Global c).bind fun x3=>need (0<=(1:Int)/\(1:Int)<=(x1.2.length:Int)) (need (x3.aT.length+((x1.2.take x1.2.length).drop ((1:Int).toNat)).length<=1073741824) ((idx x1.2 0).bind fun x6=>IX x6 (⟨x2.aC,(⟨x2.aB.Global.set c.toNat (⟨x3.aT++((x1.2.take x1.2.length).drop ((1:Int).toNat))⟩:aR),x2.aB.Own⟩:aB)⟩:Mem))))
def JZ(m:Mem)(c:Int):Option (Mem×Int):=
 (GF m.aC c).bind fun x1=>(iX m.aB).bind fun x7=>IY c x1 (⟨x1.1,x7⟩:Mem)
def xJ(slot gen:Int)(x1:Bool):Option Int:=
 (if x1 then some 0 else some (aY ((aY (gen * 32))+slot)))
def NV(slot gen:Int):Option Int:=
 (mS slot).bind fun x2=>(if !x2 then xJ slot gen true else (cC gen 1 6).bind fun x3=>xJ slot gen (!x3))
def HD(m:Mem)(slot:Int):Option Int:=
 (CB m.aC slot).bind fun x1=>(NV slot x1).bind fun x2=>some x2
def iV(s:Sub)(x3:Int)(x4:aA):Option (Sub×aA):=
 (if decide (0<=x3) then (HD x4.Mem x3).bind fun x5=>(bG ({s with Out:=x5}:Sub) 0).bind fun x6=>some (x6,x4) else (if s.Pc == 3 then (bG s 3).bind fun x7=>some (x7,x4) else some (({s with Pc:=aY (s.Pc+1)}:Sub),x4)))
def nH(s:Sub)(b:aA)(x1:Int)(x9:Bool):Option (Sub×aA):=
 (if x9 then (BE b.Mem.aB x1).bind fun x10=>iV s x10.2 ({b with Mem:=(⟨b.Mem.aC,x10.1⟩:Mem)}:aA) else (if s.Pc == 2 then (JZ b.Mem x1).bind fun x11=>iV s x11.2 ({b with Mem:=x11.1}:aA) else (bG s 1).bind fun x12=>some (x12,b)))
def sI(s:Sub)(b:aA)(w_:Int):Option (Sub×aA):=
 (JX s.A).bind fun x1=>(if decide (x1 < 0) then (bG s 2).bind fun x2=>some (x2,b) else (if s.Pc == 0 then (JY b.Mem.aB w_ x1).bind fun x8=>iV s x8.2 ({b with Mem:=(⟨b.Mem.aC,x8.1⟩:Mem)}:aA) else (if s.Pc == 1 then nH s b x1 true else nH s b x1 (s.Pc == 3))))
def p8(x1:Bool):Option Bool:=
 some x1
def qT(r_:dA)(k0:Int):Option Bool:=
 (iJ r_.Handle).bind fun x2=>(if x2 then p8 ((Int.tmod r_.Handle 32) == k0) else p8 false)
def D4(own:bC)(k0:Int):Option Bool:=
 (iY own.Rows (fun y0=>qT y0 k0)).bind fun x1=>some x1
def xK(l:List bC)(slot:Int):Option Bool:=
 (iQ l (fun y0=>D4 y0 slot)).bind fun x1=>some x1
def xL(l:List bC)(w_ h e_:Int)(x1:Bool):Option ((List bC)×Bool):=
 (if x1 then (m9 l).bind fun x2=>some (x2,false) else (m9 l).bind fun x3=>(idx x3 w_).bind fun x4=>need (x4.Rows.length+([(⟨h,e_⟩:dA)]).length<=1073741824) ((mI (x3.set w_.toNat (⟨x4.Rows++([(⟨h,e_⟩:dA)])⟩:bC))).bind fun x5=>(if !x5 then (m9 l).bind fun x6=>some (x6,false) else some (x3.set w_.toNat (⟨x4.Rows++([(⟨h,e_⟩:dA)])⟩:bC),true))))
def HE(l:List bC)(w_ h e_:Int):Option ((List bC)×Bool):=
 (mI l).bind fun x7=>(if !x7 then xL l w_ h e_ true else (gH w_).bind fun x8=>xL l w_ h e_ (!x8))
def mL(s:Sub)(b:aA)(w_:Int)(x3:Bool):Option (Sub×aA):=
 (if x3 then (bG s 4).bind fun x4=>some (x4,b) else (HE b.aO w_ s.A s.E).bind fun x5=>(bG s 0).bind fun x6=>some (x6,({b with aO:=x5.1}:aA)))
def mM(s:Sub)(b:aA)(w_:Int)(x1:Bool):Option (Sub×aA):=
 (if x1 then (bG s 1).bind fun x2=>some (x2,b) else (rS b.Mem s.A).bind fun x7=>(if !x7 then mL s b w_ true else (xK b.aO (Int.tmod s.A 32)).bind fun x8=>mL s b w_ x8))
def qA(s:Sub)(b:aA)(w_:Int):Option (Sub×aA):=
 (if s.Pc == 0 then some (({s with Pc:=1,E:=b.aD.aJ}:Sub),b) else (if s.Pc != 1 then mM s b w_ true else (cC s.E 0 b.aD.aJ).bind fun x9=>mM s b w_ (!x9)))
def qU(w_:Int)(x1:aD)(x4:Bool):Option (aD×Bool):=
 (if x4 then some (x1,true) else (idx x1.b9 w_).bind fun x5=>(if decide (x5.Seen < 2) then some ((⟨x1.aJ,x1.b9.set w_.toNat ({x5 with Seen:=aY (x5.Seen+1)}:pQ)⟩:aD),false) else some ((⟨x1.aJ,x1.b9.set w_.toNat ({x5 with dB:=true,Seen:=0}:pQ)⟩:aD),true)))
def D5(w_ e_:Int)(x1:aD)(x2:Bool):Option (aD×Bool):=
 (if x2 then some (x1,false) else (idx x1.b9 w_).bind fun x3=>(if !x3.On then qU w_ x1 true else (if x3.dB then qU w_ x1 true else qU w_ x1 (x3.aJ == e_))))
def M4(c:aD)(w_ e_:Int):Option (aD×Bool):=
 (m8 c).bind fun x1=>(oO c).bind fun x6=>(if !x6 then D5 w_ e_ x1 true else (gH w_).bind fun x7=>D5 w_ e_ x1 (!x7))
def D6(x1:aD)(x2:Bool):Option (aD×Bool):=
 (if x2 then some (x1,false) else some ((⟨aY (x1.aJ+1),x1.b9⟩:aD),true))
def VV(c:aD)(e_:Int):Option (aD×Bool):=
 (m8 c).bind fun x1=>(oO c).bind fun x3=>(if !x3 then D6 x1 true else (if c.aJ != e_ then D6 x1 true else D6 x1 (c.aJ == 100000)))
def lO(s:Sub)(b:aA)(x4:aD×Bool)(x5:Int):Option (Sub×aA):=
 (bG ({s with Out:=x5}:Sub) 0).bind fun x6=>some (x6,({b with aD:=x4.1}:aA))
def lP(s:Sub)(b:aA)(x1:Bool):Option (Sub×aA):=
 (if x1 then (M4 b.aD s.B s.E).bind fun x2=>(if !x2.2 then (bG s 8).bind fun x3=>some (x3,({b with aD:=x2.1}:aA)) else (if (aY (s.B+1)) == 3 then some (({s with Pc:=2,B:=aY (s.B+1)}:Sub),({b with aD:=x2.1}:aA)) else some (({s with B:=aY (s.B+1)}:Sub),({b with aD:=x2.1}:aA)))) else (if s.Pc == 2 then (VV b.aD s.E).bind fun x4=>(if x4.2 then lO s b x4 1 else lO s b x4 s.Out) else (bG s 1).bind fun x7=>some (x7,b)))
def oR(s:Sub)(b:aA):Option (Sub×aA):=
 (if s.Pc == 0 then some (({s with Pc:=1,E:=b.aD.aJ,B:=0}:Sub),b) else (if s.Pc == 1 then (gH s.B).bind fun x8=>lP s b x8 else lP s b false))
def D7(x1:Bool):Option Bool:=
 some x1
def IA(l:List bC)(w_ i:Int):Option Bool:=
 (gH w_).bind fun x2=>(if x2 then (idx l w_).bind fun x3=>(cC i 0 (aY ((x3.Rows.length:Int) - 1))).bind fun x4=>D7 x4 else D7 false)
def J0(x1:Bool):Option Bool:=
 some x1
def PC(r_:dA)(e_:Int):Option Bool:=
 (if decide (2<=e_) then J0 (decide (r_.aJ<=(aY (e_ - 2)))) else J0 false)
def IB(s:Sub)(b:aA):Option (Sub×aA):=
 (bG s 0).bind fun x3=>some (x3,b)
def fM(s:Sub)(b:aA)(w_:Int):Int->Option (Step Int (Out Unit (Sub×aA)))
 | x2=>(idx b.aO w_).bind fun x4=>(if decide (x2 < (x4.Rows.length:Int)) then (idx x4.Rows x2).bind fun x5=>(PC x5 s.E).bind fun x6=>(if x6 then some (.stop (Out.ret (({s with Pc:=2,Row:=x2,B:=0,H:=x5.Handle}:Sub),b))) else some (.next (aY (x2+1)))) else some (.stop (Out.brk ())))
def TU(s:Sub)(b:aA):(Out Unit (Sub×aA))->Option (Sub×aA)
 | .brk ()=>IB s b
 | .ret r=>some r
def oT(s:Sub)(b:aA)(w_:Int):Option (Sub×aA):=
 (loop (fM s b w_) (if s.Row < 0 then 0 else s.Row)).bind (TU s b)
def CD(s:List dA)(i j:Int):Option (List dA):=
 need (0<=(i:Int)/\(i:Int)<=(j:Int)/\(j:Int)<=((s.length:Int):Int)/\((s.length:Int):Int)<=(s.length:Int)) ((if i == j then some s else need (0<=(i:Int)/\(i:Int)<=(s.length:Int)) (need (0<=(j:Int)/\(j:Int)<=(s.length:Int)) (need (i.toNat<=j.toNat) (need (0<=(((((dF s i.toNat (s.drop j.toNat)).take (i.toNat+(s.length - j.toNat))).drop 0).length:Int):Int)/\(((((dF s i.toNat (s.drop j.toNat)).take (i.toNat+(s.length - j.toNat))).drop 0).length:Int):Int)<=((s.length:Int):Int)/\((s.length:Int):Int)<=((dF s i.toNat (s.drop j.toNat)).length:Int)) (some (((dF s i.toNat (s.drop j.toNat)).take (i.toNat+(s.length - j.toNat))).drop 0)))))))
def BF(w_ i:Int)(x1:(List bC))(x2:Bool):Option ((List bC)×Bool):=
 (if x2 then some (x1,false) else (idx x1 w_).bind fun x3=>(CD x3.Rows i (aY (i+1))).bind fun x4=>some (x1.set w_.toNat (⟨x4⟩:bC),true))
def J1(l:List bC)(w_ i:Int):Option ((List bC)×Bool):=
 (m9 l).bind fun x1=>(mI l).bind fun x5=>(if !x5 then BF w_ i x1 true else (IA l w_ i).bind fun x6=>BF w_ i x1 (!x6))
def K6(x3 x5:List Int):Option (aC×Bool):=
 some ((⟨x5,x3⟩:aC),true)
def D8(slot gen x1:Int)(x2 x3:List Int)(x4:Bool):Option (aC×Bool):=
 (if x4 then some ((⟨x2,x3⟩:aC),false) else (vP slot x1).bind fun x6=>(CC gen 4).bind fun x7=>(vY x2 x6 x7).bind fun x8=>K6 x3 x8)
def K7(slot gen x1:Int)(x2 x3:List Int):Option (aC×Bool):=
 (if decide (x1 < 0) then D8 slot gen x1 x2 x3 true else (cC gen 1 7).bind fun x9=>D8 slot gen x1 x2 x3 (!x9))
def TV(h:aC)(slot gen:Int):Option (aC×Bool):=
 (uG h).bind fun x10=>(r9 h slot).bind fun x11=>K7 slot gen x11 x10.Bytes x10.Class
def xM(c slot:Int)(x1:aB)(x2:Int)(x3:Bool):Option (aB×Bool):=
 (if x3 then some (x1,false) else (idx x1.Own x2).bind fun x4=>(if decide (2<=(x4.aT.length:Int)) then (idx x1.Global c).bind fun x5=>need (x5.aT.length+([slot]).length<=1073741824) (some ((⟨x1.Global.set c.toNat (⟨x5.aT++([slot])⟩:aR),x1.Own⟩:aB),true)) else need (x4.aT.length+([slot]).length<=1073741824) (some ((⟨x1.Global,x1.Own.set x2.toNat (⟨x4.aT++([slot])⟩:aR)⟩:aB),true))))
def aAX(l:aB)(w_ c slot:Int):Option (aB×Bool):=
 (iX l).bind fun x1=>(K5 w_ c).bind fun x2=>(kY l).bind fun x6=>(if !x6 then xM c slot x1 x2 true else (if decide (x2 < 0) then xM c slot x1 x2 true else (mS slot).bind fun x7=>(if !x7 then xM c slot x1 x2 true else (H8 l slot).bind fun x8=>xM c slot x1 x2 x8)))
def NW(x3:Mem):Option Mem:=
 some x3
def NX(m:Mem)(w_ h:Int)(x2:Mem):Option Mem:=
 (if decide ((aY ((aY (Int.tdiv h 32))+1))<=6) then (mH m.aC (Int.tmod h 32)).bind fun x4=>(aAX m.aB w_ x4 (Int.tmod h 32)).bind fun x5=>NW (⟨x2.aC,x5.1⟩:Mem) else NW x2)
def QM(m:Mem)(w_ h:Int):Option Mem:=
 (TV m.aC (Int.tmod h 32) (aY ((aY (Int.tdiv h 32))+1))).bind fun x1=>(iX m.aB).bind fun x6=>NX m w_ h (⟨x1.1,x6⟩:Mem)
def dL(s:Sub)(b:aA)(w_:Int)(x5:Bool):Option (Sub×aA):=
 (if x5 then (J1 b.aO w_ s.Row).bind fun x6=>(QM b.Mem w_ s.H).bind fun x7=>some (({s with Pc:=1,Out:=aY (s.Out+1)}:Sub),({b with Mem:=x7,aO:=x6.1}:aA)) else (bG s 1).bind fun x8=>some (x8,b))
def eW(s:Sub)(b:aA)(w_:Int)(x1 x3:Bool):Option (Sub×aA):=
 (if x3 then (idx b.l7 s.B).bind fun x4=>(if x4 == s.H then some (({s with Pc:=1,Row:=aY (s.Row+1)}:Sub),b) else (if (aY (s.B+1)) == 3 then some (({s with Pc:=3,B:=aY (s.B+1)}:Sub),b) else some (({s with B:=aY (s.B+1)}:Sub),b))) else (if s.Pc == 3 then (if x1 then (idx b.aO w_).bind fun x9=>(idx x9.Rows s.Row).bind fun x10=>(PC x10 s.E).bind fun x11=>dL s b w_ x11 else dL s b w_ false) else dL s b w_ false))
def gC(s:Sub)(b:aA)(w_:Int)(x1:Bool):Option (Sub×aA):=
 (if s.Pc == 0 then some (({s with Pc:=1,E:=b.aD.aJ,Row:=0}:Sub),b) else (if s.Pc == 1 then (oT s b w_).bind fun x2=>some (x2.1,x2.2) else (if s.Pc == 2 then (gH s.B).bind fun x12=>(if x12 then eW s b w_ x1 x1 else eW s b w_ x1 false) else eW s b w_ x1 false)))
def oV(s:Sub)(b:aA)(w_:Int):Option (Sub×aA):=
 (IA b.aO w_ s.Row).bind fun x13=>(if x13 then (idx b.aO w_).bind fun x14=>(idx x14.Rows s.Row).bind fun x15=>gC s b w_ (x15.Handle == s.H) else gC s b w_ false)
def zL(w_ e_:Int)(x1:aD)(x2:Bool):Option (aD×Bool):=
 (if x2 then some (x1,false) else (idx x1.b9 w_).bind fun x3=>some ((⟨x1.aJ,x1.b9.set w_.toNat (⟨true,e_,false,0⟩:pQ)⟩:aD),true))
def QN(c:aD)(w_ e_:Int):Option (aD×Bool):=
 (m8 c).bind fun x1=>(oO c).bind fun x4=>(if !x4 then zL w_ e_ x1 true else (gH w_).bind fun x5=>(if !x5 then zL w_ e_ x1 true else (cC e_ 0 c.aJ).bind fun x6=>zL w_ e_ x1 (!x6)))
def yX(s:Sub)(b:aA)(x1:Bool)(x2:Int)(x3:List pQ):Option (Sub×aA):=
 (if !x1 then (bG s 1).bind fun x4=>some (x4,b) else some (({s with Pc:=2}:Sub),({b with aD:=(⟨x2,x3⟩:aD)}:aA)))
def xN(s:Sub)(b:aA)(w_:Int):Option (Sub×aA):=
 (if s.Pc == 0 then some (({s with Pc:=1,E:=b.aD.aJ}:Sub),b) else (if s.Pc == 1 then (QN b.aD w_ s.E).bind fun x5=>yX s b x5.2 x5.1.aJ x5.1.b9 else (if s.Pc == 2 then (if b.aD.aJ == s.E then (bG s 0).bind fun x6=>some (x6,b) else some (({s with Pc:=0}:Sub),b)) else (bG s 1).bind fun x7=>some (x7,b))))
def lA(s:Sub)(b:aA)(w_:Int):Option (Sub×aA):=
 (if s.cZ then some (s,b) else (if s.Kind == 1 then (sI s b w_).bind fun x1=>some (x1.1,x1.2) else (if s.Kind == 2 then (qA s b w_).bind fun x2=>some (x2.1,x2.2) else (if s.Kind == 3 then (oR s b).bind fun x3=>some (x3.1,x3.2) else (if s.Kind == 4 then (oV s b w_).bind fun x4=>some (x4.1,x4.2) else (if s.Kind == 5 then (xN s b w_).bind fun x5=>some (x5.1,x5.2) else (bG s 1).bind fun x6=>some (x6,b)))))))
def dI(j:bE)(pc:Int):Option bE:=
 some ({j with Pc:=pc,Code:=0}:bE)
def J2(slot c:Int):Option Int:=
 (vP slot c).bind fun x1=>(if decide (x1 < 0) then some (-1) else some (aY (x1+4)))
def xO(slot c:Int):Option Span:=
 (J2 slot c).bind fun x1=>(if decide (x1 < 0) then some (⟨0,0⟩:Span) else (CZ c).bind fun x2=>some (⟨x1,aY (x1+x2)⟩:Span))
def xP(h:aC)(slot at_ width:Int):Option Int:=
 (mH h slot).bind fun x1=>(xO slot x1).bind fun x2=>(cC at_ 0 (aY ((aY (x2.To - x2.GK)) - width))).bind fun x3=>(if !x3 then some (-1) else some (aY (x2.GK+at_)))
def D9(m:Mem)(h at_ width:Int)(x1:Bool):Option (Int×Int):=
 (if x1 then some (0,1) else (rS m h).bind fun x2=>(if !x2 then some (0,4) else (xP m.aC (Int.tmod h 32) at_ width).bind fun x3=>(if decide (x3 < 0) then some (0,2) else (mF m.aC.Bytes x3 width).bind fun x4=>some (x4,0))))
def TW(m:Mem)(h at_ width:Int):Option (Int×Int):=
 (K4 m).bind fun x5=>(if !x5 then D9 m h at_ width true else (k9 width).bind fun x6=>D9 m h at_ width (!x6))
def R0(x4:Mem):Option (Mem×Int):=
 some (x4,0)
def J3(m:Mem)(h at_ width n:Int):Option (Mem×Int):=
 (JS m).bind fun x1=>(CC n width).bind fun x2=>(TW m h at_ width).bind fun x3=>(if x3.2 != 0 then some (x1,x3.2) else (if x2 == ([]) then some (x1,1) else (xP m.aC (Int.tmod h 32) at_ width).bind fun x5=>(vY x1.aC.Bytes x5 x2).bind fun x6=>R0 (⟨(⟨x6,x1.aC.Class⟩:aC),x1.aB⟩:Mem)))
def EA(s:aG)(w_ x7:Int)(x8:Mem):Option aG:=
 (if x7 != 0 then (idx s.aX w_).bind fun x9=>(bO x9 x7).bind fun x10=>some ({s with aX:=s.aX.set w_.toNat x10}:aG) else (idx s.aX w_).bind fun x11=>(dI x11 2).bind fun x12=>some ({s with aA:=(⟨x8,s.aA.aD,s.aA.aO,s.aA.l7⟩:aA),aX:=s.aX.set w_.toNat x12}:aG))
def EB(w_:Int)(x16:aG):Option aG:=
 (idx x16.aX w_).bind fun x17=>(if x17.Old == 0 then (bO x17 0).bind fun x18=>some ({x16 with aX:=x16.aX.set w_.toNat x18}:aG) else (kB 2 x17.Old).bind fun x19=>(dI ({x17 with Sub:=x19}:bE) 3).bind fun x20=>some ({x16 with aX:=x16.aX.set w_.toNat x20}:aG))
def EC(s:aG)(w_:Int)(x1:bE)(x14:Int)(x15:List Int):Option aG:=
 (idx (s.aX.set w_.toNat ({x1 with Old:=x14}:bE)) w_).bind fun x21=>(cY ({s with Cells:=x15,aX:=s.aX.set w_.toNat ({x1 with Old:=x14}:bE)}:aG) 2 w_ x21.H x21.Op.dQ 0).bind fun x22=>EB w_ x22
def ED(s:aG)(w_:Int):Option aG:=
 (idx s.aX w_).bind fun x1=>(if x1.Pc == 0 then (lA x1.Sub s.aA w_).bind fun x2=>(if !x2.1.cZ then some ({s with aA:=x2.2,aX:=s.aX.set w_.toNat ({x1 with Sub:=x2.1}:bE)}:aG) else (if x2.1.Code != 0 then (bO ({x1 with Sub:=x2.1}:bE) x2.1.Code).bind fun x3=>some ({s with aA:=x2.2,aX:=s.aX.set w_.toNat x3}:aG) else (iJ x2.1.Out).bind fun x4=>(if !x4 then (bO ({x1 with Sub:=x2.1}:bE) 1).bind fun x5=>some ({s with aA:=x2.2,aX:=s.aX.set w_.toNat x5}:aG) else (dI ({x1 with Sub:=x2.1,H:=x2.1.Out}:bE) 1).bind fun x6=>some ({s with aA:=x2.2,aX:=s.aX.set w_.toNat x6}:aG)))) else (if x1.Pc == 1 then (J3 s.aA.Mem x1.H 0 4 x1.Op.dQ).bind fun x13=>EA s w_ x13.2 x13.1 else (if x1.Pc == 2 then (idx s.Cells x1.Op.Cell).bind fun x14=>(idx (s.aX.set w_.toNat ({x1 with Old:=x14}:bE)) w_).bind fun x23=>(idx s.Cells x23.Op.Cell).bind fun x24=>EC s w_ x1 x14 (s.Cells.set x23.Op.Cell.toNat x23.H) else (if x1.Pc == 3 then (lA x1.Sub s.aA w_).bind fun x25=>(if x25.1.cZ then (bO ({x1 with Sub:=x25.1}:bE) x25.1.Code).bind fun x26=>some ({s with aA:=x25.2,aX:=s.aX.set w_.toNat x26}:aG) else some ({s with aA:=x25.2,aX:=s.aX.set w_.toNat ({x1 with Sub:=x25.1}:bE)}:aG)) else (bO x1 1).bind fun x27=>some ({s with aX:=s.aX.set w_.toNat x27}:aG)))))
def vZ(s:aG)(w_:Int):Option aG:=
 (idx s.aX w_).bind fun x1=>(idx s.Cells x1.Op.Cell).bind fun x2=>(cY ({s with aX:=s.aX.set w_.toNat ({x1 with H:=x2}:bE)}:aG) 3 w_ x2 0 0).bind fun x3=>some x3
def tD(b:aA)(h at_ width:Int)(x1:Bool):Option (Int×Bool):=
 (if x1 then some (0,false) else (xP b.Mem.aC (Int.tmod h 32) at_ width).bind fun x2=>(if decide (x2 < 0) then some (0,false) else (mF b.Mem.aC.Bytes x2 width).bind fun x3=>some (x3,true)))
def J4(b:aA)(h at_ width:Int):Option (Int×Bool):=
 (iJ h).bind fun x4=>(if !x4 then tD b h at_ width true else (r9 b.Mem.aC (Int.tmod h 32)).bind fun x5=>(if decide (x5 < 0) then tD b h at_ width true else (k9 width).bind fun x6=>tD b h at_ width (!x6)))
def lZ(s:aG)(w_:Int):Option aG:=
 (idx s.aX w_).bind fun x1=>(J4 s.aA x1.H 0 4).bind fun x2=>some ({s with aX:=s.aX.set w_.toNat ({x1 with dQ:=x2.1}:bE)}:aG)
def iW(x1:Bool):Option Bool:=
 some x1
def kS(p:pQ):Option Bool:=
 (if p.On then iW (!p.dB) else iW false)
def mB(s:aG)(w_ pc:Int):Option aG:=
 (idx s.aX w_).bind fun x1=>(dI x1 pc).bind fun x2=>(idx s.aA.aD.b9 w_).bind fun x3=>(kS x3).bind fun x4=>(if !x4 then some ({s with aX:=s.aX.set w_.toNat ({x2 with dQ:=0,Code:=6}:bE)}:aG) else some ({s with aX:=s.aX.set w_.toNat x2}:aG))
def zN(w_:Int)(x1:aD)(x2:Bool):Option (aD×Bool):=
 (if x2 then some (x1,false) else (idx x1.b9 w_).bind fun x3=>some ((⟨x1.aJ,x1.b9.set w_.toNat (⟨false,0,false,0⟩:pQ)⟩:aD),true))
def QO(c:aD)(w_:Int):Option (aD×Bool):=
 (m8 c).bind fun x1=>(oO c).bind fun x4=>(if !x4 then zN w_ x1 true else (gH w_).bind fun x5=>(if !x5 then zN w_ x1 true else (idx c.b9 w_).bind fun x6=>zN w_ x1 (!x6.On)))
def tE(b:aA)(w_:Int):Option (Bool×aA):=
 (QO b.aD w_).bind fun x1=>some (x1.2,({b with aD:=x1.1}:aA))
def EE(s:aG)(w_:Int):Option aG:=
 (idx s.aX w_).bind fun x1=>(if x1.Pc == 0 then (lA x1.Sub s.aA w_).bind fun x2=>(if x2.1.cZ then (dI ({x1 with Sub:=x2.1}:bE) 1).bind fun x3=>some ({s with aA:=x2.2,aX:=s.aX.set w_.toNat x3}:aG) else some ({s with aA:=x2.2,aX:=s.aX.set w_.toNat ({x1 with Sub:=x2.1}:bE)}:aG)) else (if x1.Pc == 1 then (vZ s w_).bind fun x4=>(idx x4.aX w_).bind fun x5=>(dI x5 2).bind fun x6=>(if x6.H == 0 then some ({x4 with aX:=x4.aX.set w_.toNat ({x6 with Pc:=4,Code:=8}:bE)}:aG) else some ({x4 with aX:=x4.aX.set w_.toNat x6}:aG)) else (if x1.Pc == 2 then (lZ s w_).bind fun x7=>(idx x7.aX w_).bind fun x8=>(dI x8 3).bind fun x9=>some ({x7 with aX:=x7.aX.set w_.toNat x9}:aG) else (if x1.Pc == 3 then (mB s w_ 4).bind fun x10=>some x10 else (if x1.Pc == 4 then (tE s.aA w_).bind fun x11=>(bO x1 x1.Code).bind fun x12=>some ({s with aA:=x11.2,aX:=s.aX.set w_.toNat x12}:aG) else (bO x1 1).bind fun x13=>some ({s with aX:=s.aX.set w_.toNat x13}:aG))))))
def tF(w_ h:Int)(x1:(List Int))(x2:Bool):Option ((List Int)×Bool):=
 (if x2 then some (x1,false) else (idx x1 w_).bind fun x3=>some (x1.set w_.toNat h,true))
def J5(z:List Int)(w_ h:Int):Option ((List Int)×Bool):=
 (fF z).bind fun x1=>(GD z).bind fun x4=>(if !x4 then tF w_ h x1 true else (gH w_).bind fun x5=>(if !x5 then tF w_ h x1 true else (iJ h).bind fun x6=>tF w_ h x1 (!x6)))
def zO(w_:Int)(x1:(List Int))(x2:Bool):Option ((List Int)×Bool):=
 (if x2 then some (x1,false) else (idx x1 w_).bind fun x3=>some (x1.set w_.toNat 0,true))
def QP(z:List Int)(w_:Int):Option ((List Int)×Bool):=
 (fF z).bind fun x1=>(GD z).bind fun x4=>(if !x4 then zO w_ x1 true else (gH w_).bind fun x5=>(if !x5 then zO w_ x1 true else (idx z w_).bind fun x6=>zO w_ x1 (x6 == 0)))
def EF(s:aG)(w_:Int)(x6:List Int):Option aG:=
 (idx s.aX w_).bind fun x7=>(dI x7 2).bind fun x8=>some ({s with aA:=(⟨s.aA.Mem,s.aA.aD,s.aA.aO,x6⟩:aA),aX:=s.aX.set w_.toNat x8}:aG)
def EG(s:aG)(w_:Int)(x10:Bool):Option aG:=
 (if x10 then (idx s.aX w_).bind fun x11=>(dI x11 0).bind fun x12=>some ({s with aX:=s.aX.set w_.toNat x12}:aG) else (idx s.aX w_).bind fun x13=>(cY s 3 w_ x13.H 0 0).bind fun x14=>(idx x14.aX w_).bind fun x15=>(dI x15 3).bind fun x16=>some ({x14 with aX:=x14.aX.set w_.toNat x16}:aG))
def EH(s:aG)(w_:Int):Option aG:=
 (idx s.aX w_).bind fun x1=>(if x1.Pc == 0 then (idx s.Cells x1.Op.Cell).bind fun x2=>(dI ({x1 with H:=x2}:bE) 1).bind fun x3=>(if x3.H == 0 then (cY ({s with aX:=s.aX.set w_.toNat x3}:aG) 3 w_ 0 0 0).bind fun x4=>(idx x4.aX w_).bind fun x5=>some ({x4 with aX:=x4.aX.set w_.toNat ({x5 with Pc:=4,Code:=8}:bE)}:aG) else some ({s with aX:=s.aX.set w_.toNat x3}:aG)) else (if x1.Pc == 1 then (J5 s.aA.l7 w_ x1.H).bind fun x9=>EF s w_ x9.1 else (if x1.Pc == 2 then (idx s.Cells x1.Op.Cell).bind fun x17=>EG s w_ (x17 != x1.H) else (if x1.Pc == 3 then (lZ s w_).bind fun x18=>(idx x18.aX w_).bind fun x19=>(dI x19 4).bind fun x20=>some ({x18 with aX:=x18.aX.set w_.toNat x20}:aG) else (if x1.Pc == 4 then (QP s.aA.l7 w_).bind fun x21=>(bO x1 x1.Code).bind fun x22=>some ({s with aA:=(⟨s.aA.Mem,s.aA.aD,s.aA.aO,x21.1⟩:aA),aX:=s.aX.set w_.toNat x22}:aG) else (bO x1 1).bind fun x23=>some ({s with aX:=s.aX.set w_.toNat x23}:aG))))))
def sJ(s:aG)(w_:Int)(x5:Bool):Option aG:=
 (if x5 then (idx s.aX w_).bind fun x6=>(bO x6 6).bind fun x7=>some ({s with aX:=s.aX.set w_.toNat x7}:aG) else (idx s.aX w_).bind fun x8=>(if x8.Pc == 0 then (vZ s w_).bind fun x9=>(idx x9.aX w_).bind fun x10=>(dI x10 1).bind fun x11=>(if x11.H == 0 then (bO x11 8).bind fun x12=>some ({x9 with aX:=x9.aX.set w_.toNat x12}:aG) else some ({x9 with aX:=x9.aX.set w_.toNat x11}:aG)) else (if x8.Pc == 1 then (lZ s w_).bind fun x13=>(idx x13.aX w_).bind fun x14=>(dI x14 2).bind fun x15=>some ({x13 with aX:=x13.aX.set w_.toNat x15}:aG) else (if x8.Pc == 2 then (mB s w_ 9).bind fun x16=>some x16 else (bO x8 1).bind fun x17=>some ({s with aX:=s.aX.set w_.toNat x17}:aG)))))
def sK(s:aG)(w_:Int)(x1:pQ)(x2:Bool):Option aG:=
 (if x2 then (idx s.aX w_).bind fun x3=>(bO x3 5).bind fun x4=>some ({s with aX:=s.aX.set w_.toNat x4}:aG) else (idx s.aX w_).bind fun x18=>(if x18.Pc == 0 then sJ s w_ x1.dB else sJ s w_ false))
def CE(s:aG)(w_:Int)(x1:pQ):Option aG:=
 (idx s.aX w_).bind fun x19=>(if x19.Pc == 0 then sK s w_ x1 (!x1.On) else sK s w_ x1 false)
def BG(s:aG)(w_:Int):Option aG:=
 (idx s.aX w_).bind fun x20=>(idx s.aA.aD.b9 w_).bind fun x21=>CE s w_ x21
def qB(w_ x3:Int)(x4:aG):Option aG:=
 (idx x4.aX w_).bind fun x5=>(bO x5 x3).bind fun x6=>some ({x4 with aX:=x4.aX.set w_.toNat x6}:aG)
def qD(s:aG)(w_:Int)(x17:Bool):Option aG:=
 (if x17 then (idx s.aX w_).bind fun x18=>(lA x18.Sub s.aA w_).bind fun x19=>(if x19.1.cZ then (bO ({x18 with Sub:=x19.1,dQ:=x19.1.Out}:bE) x19.1.Code).bind fun x20=>some ({s with aA:=x19.2,aX:=s.aX.set w_.toNat x20}:aG) else some ({s with aA:=x19.2,aX:=s.aX.set w_.toNat ({x18 with Sub:=x19.1}:bE)}:aG)) else (idx s.aX w_).bind fun x21=>(bO x21 1).bind fun x22=>some ({s with aX:=s.aX.set w_.toNat x22}:aG))
def qE(s:aG)(w_:Int)(x12:Bool):Option aG:=
 (if x12 then (idx s.aX w_).bind fun x13=>(lA x13.Sub s.aA w_).bind fun x14=>(if x14.1.cZ then (kB 4 0).bind fun x15=>(dI ({x13 with Sub:=x15}:bE) 1).bind fun x16=>some ({s with aA:=x14.2,aX:=s.aX.set w_.toNat x16}:aG) else some ({s with aA:=x14.2,aX:=s.aX.set w_.toNat ({x13 with Sub:=x14.1}:bE)}:aG)) else (idx s.aX w_).bind fun x23=>(if x23.Op.Kind == 4 then qD s w_ (x23.Pc == 1) else qD s w_ false))
def qF(s:aG)(w_:Int)(x8:Bool):Option aG:=
 (if x8 then (idx s.aX w_).bind fun x9=>(lA x9.Sub s.aA w_).bind fun x10=>(if x10.1.cZ then (bO ({x9 with Sub:=x10.1}:bE) x10.1.Code).bind fun x11=>some ({s with aA:=x10.2,aX:=s.aX.set w_.toNat x11}:aG) else some ({s with aA:=x10.2,aX:=s.aX.set w_.toNat ({x9 with Sub:=x10.1}:bE)}:aG)) else (idx s.aX w_).bind fun x24=>(if x24.Op.Kind == 4 then qE s w_ (x24.Pc == 0) else qE s w_ false))
def qG(s:aG)(w_:Int)(x2:Bool):Option aG:=
 (if x2 then (tE s.aA w_).bind fun x7=>(if !x7.1 then qB w_ 5 ({s with aA:=x7.2}:aG) else qB w_ 0 ({s with aA:=x7.2}:aG)) else (idx s.aX w_).bind fun x25=>(if x25.Op.Kind == 5 then qF s w_ (x25.Pc == 0) else qF s w_ false))
def xQ(s:aG)(w_:Int):Option aG:=
 (idx s.aX w_).bind fun x1=>(if x1.Op.Kind == 6 then qG s w_ (x1.Pc == 0) else qG s w_ false)
def tG(s:aG)(w_:Int):Option aG:=
 (idx s.aX w_).bind fun x1=>(if !x1.eT then (xI s w_).bind fun x2=>some x2 else (if x1.Pc == 9 then (cY s 4 w_ x1.H x1.dQ x1.Code).bind fun x3=>(idx x3.aX w_).bind fun x4=>some ({x3 with aX:=x3.aX.set w_.toNat (⟨false,(⟨0,0,0,0⟩:dY),0,0,(⟨0,0,0,0,0,0,0,0,0,false⟩:Sub),0,0,0,0⟩:bE)}:aG) else (if x1.Op.Kind == 1 then (ED s w_).bind fun x5=>some x5 else (if x1.Op.Kind == 2 then (EE s w_).bind fun x6=>some x6 else (if x1.Op.Kind == 3 then (EH s w_).bind fun x7=>some x7 else (if x1.Op.Kind == 7 then (BG s w_).bind fun x8=>some x8 else (xQ s w_).bind fun x9=>some x9))))))
def R1(x y:Int):Option (Int×Int):=
 some (IntKind.u64.wrap ((IntKind.u64.wrap ((IntKind.u64.wrap ((oK .u64 x 32) * (oK .u64 y 32)))+(oK .u64 (IntKind.u64.wrap ((IntKind.u64.wrap ((oK .u64 x 32) * (iF .and .u64 y 4294967295)))+(oK .u64 (IntKind.u64.wrap ((iF .and .u64 x 4294967295) * (iF .and .u64 y 4294967295))) 32))) 32)))+(oK .u64 (IntKind.u64.wrap ((iF .and .u64 (IntKind.u64.wrap ((IntKind.u64.wrap ((oK .u64 x 32) * (iF .and .u64 y 4294967295)))+(oK .u64 (IntKind.u64.wrap ((iF .and .u64 x 4294967295) * (iF .and .u64 y 4294967295))) 32))) 4294967295)+(IntKind.u64.wrap ((iF .and .u64 x 4294967295) * (oK .u64 y 32))))) 32)),IntKind.u64.wrap (x * y))
def NY(x y:Int):Option (Int×Int):=
 (R1 x y).bind fun x1=>some (x1.1,x1.2)
def TX(x7:List Int):Option (List Int):=
 some x7
def lD:((List Int)×Int)->Option (Step ((List Int)×Int) (List Int))
 | (x5,x6)=>(if decide (x6 < (x5.length:Int)) then need (0<=(x6:Int)/\(x6:Int)<=(x5.length:Int)) (need (0<=(x6:Int)/\(x6:Int)<=(x5.length:Int)) (some (.next (dF x5 x6.toNat ((x5.take x6.toNat).drop 0),aY (x6+((min ((x5.take x6.toNat).drop 0).length (x5.length - x6.toNat):Nat):Int)))))) else some (.stop (x5)))
def TY:(List Int)->Option (List Int)
 | x7=>TX x7
def oW(x:List Int)(x1:Int×Int)(x2:Bool):Option (List Int):=
 (if x2 then none else need (0<=(IntKind.i64.wrap x1.2:Int)/\(IntKind.i64.wrap x1.2:Int)<=4294967296) ((loop (lD) (dF (List.replicate ((IntKind.i64.wrap x1.2).toNat) 0) 0 x,((min x.length ((List.replicate ((IntKind.i64.wrap x1.2).toNat) 0:List Int).length - 0):Nat):Int))).bind (TY)))
def uZ(x:List Int)(count:Int):Option (List Int):=
 (if decide (count < 0) then none else (NY (IntKind.u64.wrap (x.length:Int)) (IntKind.u64.wrap count)).bind fun x1=>(if decide (0 < x1.1) then oW x x1 true else oW x x1 (decide (9223372036854775807 < x1.2))))
def R2(x1:List Int):Option aC:=
 some (⟨List.replicate ((384:Int).toNat) 0,x1⟩:aC)
def J6:Option aC:=
 need (0<=(384:Int)/\(384:Int)<=4294967296)<|(uZ ([(-1)]) 6).bind fun x2=>R2 x2
def PD:Option aB:=
 some (⟨List.replicate ((3:Int).toNat) (⟨[]⟩:aR),List.replicate ((9:Int).toNat) (⟨[]⟩:aR)⟩:aB)
def NZ:Option aB:=
 need (0<=(3:Int)/\(3:Int)<=4294967296)<|need (0<=(9:Int)/\(9:Int)<=4294967296)<|PD
def TZ:Option Mem:=
 (J6).bind fun x1=>(NZ).bind fun x2=>some (⟨x1,x2⟩:Mem)
def N0:Option aD:=
 need (0<=(3:Int)/\(3:Int)<=4294967296) (some (⟨0,List.replicate ((3:Int).toNat) (⟨false,0,false,0⟩:pQ)⟩:aD))
def N2:Option (List bC):=
 need (0<=(3:Int)/\(3:Int)<=4294967296) (some (List.replicate ((3:Int).toNat) (⟨[]⟩:bC)))
def T0:Option (List Int):=
 need (0<=(3:Int)/\(3:Int)<=4294967296) (some (List.replicate ((3:Int).toNat) 0))
def J7:Option aA:=
 (TZ).bind fun x1=>(N0).bind fun x2=>(N2).bind fun x3=>(T0).bind fun x4=>some (⟨x1,x2,x3,x4⟩:aA)
def PE(x2:aG):Option aG:=
 some ({x2 with Log:=[]}:aG)
def HF(todo:List Queue):Option aG:=
 (H9 todo).bind fun x1=>(if !x1 then some (⟨(⟨(⟨(⟨[],[]⟩:aC),(⟨[],[]⟩:aB)⟩:Mem),(⟨0,[]⟩:aD),[],[]⟩:aA),[],[],[],[],0⟩:aG) else (J7).bind fun x3=>need (0<=(2:Int)/\(2:Int)<=4294967296)<|need (0<=(3:Int)/\(3:Int)<=4294967296)<|(G3 todo).bind fun x4=>PE (⟨x3,List.replicate ((2:Int).toNat) 0,List.replicate ((3:Int).toNat) (⟨false,(⟨0,0,0,0⟩:dY),0,0,(⟨0,0,0,0,0,0,0,0,0,false⟩:Sub),0,0,0,0⟩:bE),x4,[],0⟩:aG))
def ZB(x6:aG):Option aG:=
 some x6
def vA(x4:Int)(x7:aG):Option (Step (Int×aG) aG):=
 some (.next (aY (x4+1),x7))
def M5(x:m7):(Int×aG)->Option (Step (Int×aG) aG)
 | (x4,x5)=>(if decide (x4 < (((x.eO.take ((if 400 < (x.eO.length:Int) then 400 else (x.eO.length:Int)).toNat)).drop 0).length:Int)) then (idx ((x.eO.take ((if 400 < (x.eO.length:Int) then 400 else (x.eO.length:Int)).toNat)).drop 0) x4).bind fun x8=>(gH x8).bind fun x9=>(if x9 then (tG x5 x8).bind fun x10=>vA x4 x10 else vA x4 x5) else some (.stop (x5)))
def ZC:aG->Option aG
 | x6=>ZB x6
def jV(x:m7):Option aG:=
 (HF x.dT).bind fun x1=>(if (x1.aX.length:Int) == 0 then some x1 else need (0<=(if 400 < (x.eO.length:Int) then 400 else (x.eO.length:Int):Int)/\(if 400 < (x.eO.length:Int) then 400 else (x.eO.length:Int):Int)<=(x.eO.length:Int)) ((loop (M5 x) (0,x1)).bind (ZC)))
def XT(cell:Int)(e:Ev):Bool:=decide (e.Kind=2) && decide (e.Cell=cell)
def IC(l:List Ev)(i cell:Int):Option Ev:=
 some (((l.take (max (min i (l.length:Int)) 0).toNat).reverse.find? (XT cell)).getD ⟨0,0,0,0,0,0,0⟩)
def aFT(x5:Ev):Option Ev:=
 some x5
def EI(x3:Int)(x7:Ev):Option (Step (Int×Ev) Ev):=
 some (.next (aY (x3+1),x7))
def EJ(l:List Ev)(x3:Int)(x4:Ev)(x8:Bool):Option (Step (Int×Ev) Ev):=
 (if x8 then (idx l x3).bind fun x9=>EI x3 x9 else EI x3 x4)
def v7(l:List Ev)(cell x3:Int)(x4:Ev)(x6:Bool):Option (Step (Int×Ev) Ev):=
 (if x6 then (idx l x3).bind fun x10=>(if x10.Kind == 2 then (idx l x3).bind fun x11=>EJ l x3 x4 (x11.Cell == cell) else EJ l x3 x4 false) else some (.stop (x4)))
def EK(l:List Ev)(i cell:Int):(Int×Ev)->Option (Step (Int×Ev) Ev)
 | (x3,x4)=>(if decide (x3 < i) then v7 l cell x3 x4 (decide (x3 < (l.length:Int))) else v7 l cell x3 x4 false)
def T1:Ev->Option Ev
 | x5=>aFT x5
def M6(l:List Ev)(i cell:Int):Option Ev:=
 (loop (EK l i cell) (0,(⟨0,0,0,0,0,0,0⟩:Ev))).bind (T1)
def aCH(x5:Int):Option Int:=
 some x5
def BH(x4 x6:Int):Option (Step (Int×Int) Int):=
 some (.next (x6,aY (x4+1)))
def BI(x3 x4:Int)(x7:Bool):Option (Step (Int×Int) Int):=
 (if x7 then BH x4 x4 else BH x4 x3)
def BJ(l:List Ev)(i serial:Int):(Int×Int)->Option (Step (Int×Int) Int)
 | (x3,x4)=>(if decide (x4 < i) then (idx l x4).bind fun x8=>(if x8.Kind == 3 then (idx l x4).bind fun x9=>BI x3 x4 (x9.aI == serial) else BI x3 x4 false) else some (.stop (x3)))
def R3:Int->Option Int
 | x5=>aCH x5
def J8(l:List Ev)(i serial:Int):Option Int:=
 (loop (BJ l i serial) ((-1),0)).bind (R3)
def aCI:Option Bool:=
 some true
def l4(x2:Int):Option (Step Int (Out Unit Bool)):=
 some (.next (aY (x2+1)))
def tH(x2:Int)(x9:Bool):Option (Step Int (Out Unit Bool)):=
 (if x9 then some (.stop (Out.ret false)) else l4 x2)
def BK(x2:Int)(x12:Bool):Option (Step Int (Out Unit Bool)):=
 (if x12 then some (.stop (Out.ret false)) else l4 x2)
def nS(l:List Ev)(x2 x4:Int)(x5:Bool):Option (Step Int (Out Unit Bool)):=
 (if x5 then l4 x2 else (idx l x4).bind fun x6=>(M6 l x4 x6.Cell).bind fun x7=>(idx l x2).bind fun x8=>(if x8.Code == 0 then (if x7.Handle == 0 then tH x2 true else (idx l x4).bind fun x10=>(if x7.Handle != x10.Handle then tH x2 true else (idx l x2).bind fun x11=>tH x2 (x7.dQ != x11.dQ))) else (if x8.Code == 8 then (if x7.Handle != 0 then BK x2 true else (idx l x4).bind fun x13=>BK x2 (x13.Handle != 0)) else l4 x2)))
def BL(l:List Ev):Int->Option (Step Int (Out Unit Bool))
 | x2=>(if decide (x2 < (l.length:Int)) then (idx l x2).bind fun x3=>(J8 l x2 x3.aI).bind fun x4=>(idx l x2).bind fun x14=>(if x14.Kind != 4 then nS l x2 x4 true else nS l x2 x4 (decide (x4 < 0))) else some (.stop (Out.brk ())))
def R4:(Out Unit Bool)->Option Bool
 | .brk ()=>aCI
 | .ret r=>some r
def J9(l:List Ev):Option Bool:=
 (loop (BL l) 0).bind (R4)
def zP(x8:List Int)(x9:Int):Option (List Int):=
 need (0<=(x9:Int)/\(x9:Int)<=(x8.length:Int)) (need (0<=(x9:Int)/\(x9:Int)<=((dF x8 x9.toNat (List.replicate (x8.length - x9.toNat) 0)).length:Int)) (some (((dF x8 x9.toNat (List.replicate (x8.length - x9.toNat) 0)).take x9.toNat).drop 0)))
def iZ(x7:Int)(x10:List Int)(x11:Int):Option (Step ((List Int)×Int×Int) ((List Int)×Int)):=
 some (.next (x10,x11,aY (x7+1)))
def lB(del:(Int->Option Bool)):((List Int)×Int×Int)->Option (Step ((List Int)×Int×Int) ((List Int)×Int))
 | (x5,x6,x7)=>(if decide (x7 < (x5.length:Int)) then (idx x5 x7).bind fun x12=>(del x12).bind fun x13=>(if !x13 then (idx x5 x6).bind fun x14=>iZ x7 (x5.set x6.toNat x12) (aY (x6+1)) else iZ x7 x5 x6) else some (.stop ((x5,x6))))
def zQ:((List Int)×Int)->Option (List Int)
 | (x8,x9)=>zP x8 x9
def nI(s:List Int)(del:(Int->Option Bool)):Option (List Int):=
 (fL s del).bind fun x1=>(if x1 == (-1) then some s else (loop (lB del) (s,x1,aY (x1+1))).bind (zQ))
def GG(n:Int):Option Bool:=
 some (n == 0)
def cmp_isNaN_int(x:Int):Option Bool:=
 some (x != x)
def tI(x1:Bool):Option Bool:=
 some x1
def cmp_Less_int(x y:Int):Option Bool:=
 (cmp_isNaN_int x).bind fun x2=>(if x2 then (cmp_isNaN_int y).bind fun x3=>(if !x3 then tI true else tI (decide (x < y))) else tI (decide (x < y)))
def jD(data x5:List Int):Option (List Int):=
 need (x5.length=data.length) (some x5)
def nA(data:List Int)(x4:Int)(x10:List Int):Option (Step ((List Int)×Int) (List Int)):=
 need (x10.length=data.length) (some (.next (x10,aY (x4+1))))
def jE(data:List Int)(x9:Int)(x12:List Int):Option (Step ((List Int)×Int) (List Int)):=
 need (x12.length=data.length) (some (.next (x12,aY (x9 - 1))))
def dO(data x8:List Int)(x9:Int)(x11:Bool):Option (Step ((List Int)×Int) (List Int)):=
 need (x8.length=data.length) ((if x11 then (idx x8 (aY (x9 - 1))).bind fun x13=>(idx x8 x9).bind fun x14=>(idx (x8.set x9.toNat x13) (aY (x9 - 1))).bind fun x15=>jE data x9 ((x8.set x9.toNat x13).set ((aY (x9 - 1)).toNat) x14) else some (.stop (x8))))
def dP(data:List Int)(a_:Int):((List Int)×Int)->Option (Step ((List Int)×Int) (List Int))
 | (x8,x9)=>need (x8.length=data.length) ((if decide (a_ < x9) then (idx x8 x9).bind fun x16=>(idx x8 (aY (x9 - 1))).bind fun x17=>(cmp_Less_int x16 x17).bind fun x18=>dO data x8 x9 x18 else dO data x8 x9 false))
def nB(data:List Int)(x4:Int):(List Int)->Option (Step ((List Int)×Int) (List Int))
 | x10=>nA data x4 x10
def cO(data:List Int)(a_ b:Int):((List Int)×Int)->Option (Step ((List Int)×Int) (List Int))
 | (x3,x4)=>need (x3.length=data.length) ((if decide (x4 < b) then (loop (dP data a_) (x3,x4)).bind (nB data x4) else some (.stop (x3))))
def jF(data:List Int):(List Int)->Option (List Int)
 | x5=>jD data x5
def iC(data:List Int)(a_ b:Int):Option (List Int):=
 (loop (cO data a_ b) (data,aY (a_+1))).bind (jF data)
def tJ(data:List Int)(a_ b limit:Int):Unit->Option (Step Unit (List Int))
 | ()=>(if decide ((aY (b - a_))<=12) then (iC data a_ b).bind fun x1=>some (.stop (x1)) else (if limit == 0 then none else none))
def IZ:(List Int)->Option (List Int)
 | r=>some r
def nN(data:List Int)(a_ b limit:Int):Option (List Int):=
 (loop (tJ data a_ b limit) ()).bind (IZ)
def CF(x5 x6:Int):Option Int:=
 (idx ([0,1,2,2,3,3,3,3,4,4,4,4,4,4,4,4,5,5,5,5,5,5,5,5,5,5,5,5,5,5,5,5,6,6,6,6,6,6,6,6,6,6,6,6,6,6,6,6,6,6,6,6,6,6,6,6,6,6,6,6,6,6,6,6,7,7,7,7,7,7,7,7,7,7,7,7,7,7,7,7,7,7,7,7,7,7,7,7,7,7,7,7,7,7,7,7,7,7,7,7,7,7,7,7,7,7,7,7,7,7,7,7,7,7,7,7,7,7,7,7,7,7,7,7,7,7,7,7,8,8,8,8,8,8,8,8,8,8,8,8,8,8,8,8,8,8,8,8,8,8,8,8,8,8,8,8,8,8,8,8,8,8,8,8,8,8,8,8,8,8,8,8,8,8,8,8,8,8,8,8,8,8,8,8,8,8,8,8,8,8,8,8,8,8,8,8,8,8,8,8,8,8,8,8,8,8,8,8,8,8,8,8,8,8,8,8,8,8,8,8,8,8,8,8,8,8,8,8,8,8,8,8,8,8,8,8,8,8,8,8,8,8,8,8,8,8,8,8,8,8,8,8,8,8,8,8]:List UInt8) ((u8 x5).toNat:Int)).bind fun x7=>some (aY (x6+(x7.toNat:Int)))
def CG(x3 x4:Int):Option Int:=
 (if decide (256<=x3) then CF (oK .u64 x3 8) (aY (x4+8)) else CF x3 x4)
def CH(x1 x2:Int):Option Int:=
 (if decide (65536<=x1) then CG (oK .u64 x1 16) (aY (x2+16)) else CG x1 x2)
def R5(x:Int):Option Int:=
 (if decide (4294967296<=x) then CH (oK .u64 x 32) 32 else CH x 0)
def zR(x:Int):Option Int:=
 (R5 x).bind fun x1=>some x1
def BM(x:List Int):Option (List Int):=
 (zR (IntKind.u64.wrap (x.length:Int))).bind fun x1=>(nN x 0 (x.length:Int) x1).bind fun x2=>some x2
def v8(list:List Int):Option (List Int):=
 (fF list).bind fun x1=>(nI x1 (fun y0=>GG y0)).bind fun x2=>(BM x2).bind fun x3=>(slices_Compact_int x3).bind fun x4=>some x4
def WH(x7:List Int):Option (List Int):=
 (v8 x7).bind fun x8=>some x8
def zT(x6:Int)(x9:List Int):Option (Step ((List Int)×Int) (List Int)):=
 some (.next (x9,aY (x6+1)))
def HH(x5:List Int)(x6:Int)(x10:bE)(x12:Bool):Option (Step ((List Int)×Int) (List Int)):=
 (if x12 then need (x5.length+([x10.Old]).length<=1073741824) (zT x6 (x5++([x10.Old]))) else zT x6 x5)
def HI(x5:List Int)(x6:Int)(x10:bE)(x11:Bool):Option (Step ((List Int)×Int) (List Int)):=
 (if x11 then need (x5.length+([x10.H]).length<=1073741824) (zT x6 (x5++([x10.H]))) else (if x10.Op.Kind == 1 then HH x5 x6 x10 (x10.Pc == 3) else HH x5 x6 x10 false))
def zU(s:aG):((List Int)×Int)->Option (Step ((List Int)×Int) (List Int))
 | (x5,x6)=>(if decide (x6 < (s.aX.length:Int)) then (idx s.aX x6).bind fun x10=>(if x10.Op.Kind == 1 then (cC x10.Pc 1 2).bind fun x13=>HI x5 x6 x10 x13 else HI x5 x6 x10 false) else some (.stop (x5)))
def WI:(List Int)->Option (List Int)
 | x7=>WH x7
def QQ(s:aG):Option (List Int):=
 (oQ s).bind fun x1=>(if !x1 then some ([]) else (fF s.Cells).bind fun x2=>(loop (zU s) (x2,0)).bind (WI))
def R6(b:List Int):Option Bool:=
 some (decide ((b.length:Int)<=1000))
def nT(b:List Int):Int->Option (Step Int (Out Unit Bool))
 | x2=>(if decide (x2 < (b.length:Int)) then (idx b x2).bind fun x3=>(bW x3 0 255).bind fun x4=>(if !x4 then some (.stop (Out.ret false)) else some (.next (aY (x2+1)))) else some (.stop (Out.brk ())))
def I0(b:List Int):(Out Unit Bool)->Option Bool
 | .brk ()=>R6 b
 | .ret r=>some r
def KA(b:List Int):Option Bool:=
 (loop (nT b) 0).bind (I0 b)
def aCJ:Option Bool:=
 some true
def nU(h:aC):Int->Option (Step Int (Out Unit Bool))
 | x3=>(if decide (x3 < 6) then (idx h.Class x3).bind fun x4=>(bW x4 (-1) 2).bind fun x5=>(if !x5 then some (.stop (Out.ret false)) else some (.next (aY (x3+1)))) else some (.stop (Out.brk ())))
def aCK:(Out Unit Bool)->Option Bool
 | .brk ()=>aCJ
 | .ret r=>some r
def tK(h:aC)(x1:Bool):Option Bool:=
 (if x1 then some false else (loop (nU h) 0).bind (aCK))
def KB(h:aC):Option Bool:=
 (if (h.Bytes.length:Int) != 384 then tK h true else (if (h.Class.length:Int) != 6 then tK h true else (KA h.Bytes).bind fun x6=>tK h (!x6)))
def aFU(x5:Int):Option Int:=
 some x5
def wA(b:List Int)(at_ width:Int):(Int×Int)->Option (Step (Int×Int) Int)
 | (x3,x4)=>(if decide (x4 < width) then (idx b (aY (at_+x4))).bind fun x6=>some (.next (aY ((aY (x3 * 256))+x6),aY (x4+1))) else some (.stop (x3)))
def aFV:Int->Option Int
 | x5=>aFU x5
def wB(b:List Int)(at_ width:Int):Option Int:=
 (loop (wA b at_ width) (0,0)).bind (aFV)
def oX(c:Int):Option Int:=
 (if c == 0 then some 8 else (if c == 1 then some 16 else (if c == 2 then some 40 else some 0)))
def zV(c:Int):Option Int:=
 (bW c 0 2).bind fun x1=>(if !x1 then some 0 else (oX c).bind fun x2=>some (aY (4+x2)))
def mN(c:Int):Option Int:=
 (bW c 0 2).bind fun x1=>(if !x1 then some 0 else (zV c).bind fun x2=>need (x2≠0) (some (aY (Int.tdiv 56 x2))))
def C3(slot:Int):Option Int:=
 (bW slot 0 23).bind fun x1=>(if !x1 then some (-1) else some (aY (Int.tdiv slot 4)))
def xR(slot:Int):Option Int:=
 (bW slot 0 23).bind fun x1=>(if !x1 then some (-1) else some (Int.tmod slot 4))
def HJ(slot c:Int)(x1:Bool):Option Int:=
 (if x1 then some (-1) else (C3 slot).bind fun x2=>(xR slot).bind fun x3=>(zV c).bind fun x4=>some (aY ((aY ((aY (x2 * 64))+8))+(aY (x3 * x4)))))
def wC(slot c:Int):Option Int:=
 (C3 slot).bind fun x5=>(if decide (x5 < 0) then HJ slot c true else (xR slot).bind fun x6=>(mN c).bind fun x7=>(bW x6 0 (aY (x7 - 1))).bind fun x8=>HJ slot c (!x8))
def wD(page index:Int)(x1:Bool):Option Int:=
 (if x1 then some (-1) else some (aY ((aY (page * 4))+index)))
def rT(page index:Int):Option Int:=
 (bW page 0 5).bind fun x2=>(if !x2 then wD page index true else (bW index 0 3).bind fun x3=>wD page index (!x3))
def aFW:Option Bool:=
 some true
def qV(h:aC)(p:Int):Int->Option (Step Int (Out Unit Bool))
 | x3=>(if decide (x3 < (aY ((aY (p * 64))+64))) then (idx h.Bytes x3).bind fun x4=>(if x4 != 0 then some (.stop (Out.ret false)) else some (.next (aY (x3+1)))) else some (.stop (Out.brk ())))
def aFX:(Out Unit Bool)->Option Bool
 | .brk ()=>aFW
 | .ret r=>some r
def aFY:Option Bool:=
 some true
def qW(h:aC)(p x1:Int):Int->Option (Step Int (Out Unit Bool))
 | x9=>(mN x1).bind fun x10=>(if decide (x9 < x10) then (rT p x9).bind fun x11=>(wC x11 x1).bind fun x12=>(wB h.Bytes x12 4).bind fun x13=>(bW x13 1 7).bind fun x14=>(if !x14 then some (.stop (Out.ret false)) else some (.next (aY (x9+1)))) else some (.stop (Out.brk ())))
def aFZ:(Out Unit Bool)->Option Bool
 | .brk ()=>aFY
 | .ret r=>some r
def T2(h:aC)(p x1:Int):Option Bool:=
 (loop (qW h p x1) 0).bind (aFZ)
def qX(h:aC)(p:Int):Int->Option (Step Int (Out Unit Bool))
 | x7=>(if decide (x7 < (aY ((aY (p * 64))+8))) then (idx h.Bytes x7).bind fun x15=>(if x15 != 0 then some (.stop (Out.ret false)) else some (.next (aY (x7+1)))) else some (.stop (Out.brk ())))
def T3(h:aC)(p x1:Int):(Out Unit Bool)->Option Bool
 | .brk ()=>T2 h p x1
 | .ret r=>some r
def lE(h:aC)(p x1:Int)(x5:Bool):Option Bool:=
 (if x5 then some false else (loop (qX h p) (aY ((aY (p * 64))+3))).bind (T3 h p x1))
def M7(h:aC)(p:Int):Option Bool:=
 (idx h.Class p).bind fun x1=>(if decide (x1 < 0) then (loop (qV h p) (aY (p * 64))).bind (aFX) else (idx h.Bytes (aY (p * 64))).bind fun x16=>(if x16 != 171 then lE h p x1 true else (idx h.Bytes (aY ((aY (p * 64))+1))).bind fun x17=>(if x17 != x1 then lE h p x1 true else (idx h.Bytes (aY ((aY (p * 64))+2))).bind fun x18=>(mN x1).bind fun x19=>lE h p x1 (x18 != x19))))
def aF0:Option Bool:=
 some true
def wE(h:aC):Int->Option (Step Int (Out Unit Bool))
 | x3=>(if decide (x3 < 6) then (M7 h x3).bind fun x4=>(if !x4 then some (.stop (Out.ret false)) else some (.next (aY (x3+1)))) else some (.stop (Out.brk ())))
def aF1:(Out Unit Bool)->Option Bool
 | .brk ()=>aF0
 | .ret r=>some r
def M8(h:aC):Option Bool:=
 (KB h).bind fun x1=>(if !x1 then some false else (loop (wE h) 0).bind (aF1))
def aIH(x10:List Int):Option (List Int):=
 some x10
def zW(l:aB):((List Int)×Int)->Option (Step ((List Int)×Int) (List Int))
 | (x8,x9)=>(if decide (x9 < (l.Own.length:Int)) then (idx l.Own x9).bind fun x11=>need (x8.length+x11.aT.length<=1073741824) (some (.next (x8++x11.aT,aY (x9+1)))) else some (.stop (x8)))
def aII:(List Int)->Option (List Int)
 | x10=>aIH x10
def WJ(l:aB)(x5:List Int):Option (List Int):=
 (loop (zW l) (x5,0)).bind (aII)
def zX(l:aB):((List Int)×Int)->Option (Step ((List Int)×Int) (List Int))
 | (x3,x4)=>(if decide (x4 < (l.Global.length:Int)) then (idx l.Global x4).bind fun x12=>need (x3.length+x12.aT.length<=1073741824) (some (.next (x3++x12.aT,aY (x4+1)))) else some (.stop (x3)))
def WK(l:aB):(List Int)->Option (List Int)
 | x5=>WJ l x5
def K8(l:aB):Option (List Int):=
 (loop (zX l) (([]:List Int),0)).bind (WK l)
def aIJ:Option Bool:=
 some false
def uK(l:List Int)(x:Int):Int->Option (Step Int (Out Unit Bool))
 | x2=>(if decide (x2 < (l.length:Int)) then (idx l x2).bind fun x3=>(if x3 == x then some (.stop (Out.ret true)) else some (.next (aY (x2+1)))) else some (.stop (Out.brk ())))
def aIK:(Out Unit Bool)->Option Bool
 | .brk ()=>aIJ
 | .ret r=>some r
def GH(l:List Int)(x:Int):Option Bool:=
 (loop (uK l x) 0).bind (aIK)
def aCL:Option Bool:=
 some true
def BN(x6:Int)(x7:Bool):Option (Step Int (Out Unit Bool)):=
 (if x7 then some (.stop (Out.ret false)) else some (.next (aY (x6+1))))
def nV(x4:(List Int)):Int->Option (Step Int (Out Unit Bool))
 | x6=>(if decide (x6 < (x4.length:Int)) then (idx x4 x6).bind fun x8=>(bW x8 0 23).bind fun x9=>(if !x9 then BN x6 true else need (0<=(x6:Int)/\(x6:Int)<=(x4.length:Int)) ((GH ((x4.take x6.toNat).drop 0) x8).bind fun x10=>BN x6 x10)) else some (.stop (Out.brk ())))
def aCM:(Out Unit Bool)->Option Bool
 | .brk ()=>aCL
 | .ret r=>some r
def R7(l:aB):Option Bool:=
 (K8 l).bind fun x4=>(loop (nV x4) 0).bind (aCM)
def nW(l:aB):Int->Option (Step Int (Out Unit Bool))
 | x3=>(if decide (x3 < (l.Own.length:Int)) then (idx l.Own x3).bind fun x11=>(if decide (2 < (x11.aT.length:Int)) then some (.stop (Out.ret false)) else some (.next (aY (x3+1)))) else some (.stop (Out.brk ())))
def R8(l:aB):(Out Unit Bool)->Option Bool
 | .brk ()=>R7 l
 | .ret r=>some r
def BO(l:aB)(x1:Bool):Option Bool:=
 (if x1 then some false else (loop (nW l) 0).bind (R8 l))
def KC(l:aB):Option Bool:=
 (if (l.Global.length:Int) != 3 then BO l true else BO l ((l.Own.length:Int) != 9))
def tL(h:aC)(x1:Int)(x2:Bool):Option Int:=
 (if x2 then some (-1) else (idx h.Class x1).bind fun x3=>some x3)
def mO(h:aC)(slot:Int):Option Int:=
 (C3 slot).bind fun x1=>(if decide (x1 < 0) then tL h x1 true else (idx h.Class x1).bind fun x4=>(if decide (x4 < 0) then tL h x1 true else (idx h.Class x1).bind fun x5=>(xR slot).bind fun x6=>(mN x5).bind fun x7=>tL h x1 (decide (x7<=x6))))
def wF(h:aC)(slot:Int):Option Int:=
 (mO h slot).bind fun x1=>(wC slot x1).bind fun x2=>(wB h.Bytes x2 4).bind fun x3=>some x3
def aAY:Option Bool:=
 some true
def xS(x2:Int)(x3:Bool):Option (Step Int (Out Unit Bool)):=
 (if x3 then some (.stop (Out.ret false)) else some (.next (aY (x2+1))))
def mZ(h:aC)(l:List Int)(c:Int):Int->Option (Step Int (Out Unit Bool))
 | x2=>(if decide (x2 < (l.length:Int)) then (idx l x2).bind fun x4=>(mO h x4).bind fun x5=>(if x5 != c then xS x2 true else (idx l x2).bind fun x6=>(wF h x6).bind fun x7=>xS x2 (decide (6 < x7))) else some (.stop (Out.brk ())))
def aAZ:(Out Unit Bool)->Option Bool
 | .brk ()=>aAY
 | .ret r=>some r
def zY(h:aC)(l:List Int)(c:Int):Option Bool:=
 (loop (mZ h l c) 0).bind (aAZ)
def zZ(w_ c:Int)(x1:Bool):Option Int:=
 (if x1 then some (-1) else some (aY ((aY (w_ * 3))+c)))
def wG(w_ c:Int):Option Int:=
 (bW w_ 0 2).bind fun x2=>(if !x2 then zZ w_ c true else (bW c 0 2).bind fun x3=>zZ w_ c (!x3))
def aIL:Option Bool:=
 some true
def WL(x3:Int):Option (Step Int (Out Unit Bool)):=
 some (.next (aY (x3+1)))
def z6(m:Mem)(x3:Int):Int->Option (Step Int (Out Unit Bool))
 | x7=>(if decide (x7 < 3) then (wG x7 x3).bind fun x8=>(idx m.aB.Own x8).bind fun x9=>(zY m.aC x9.aT x3).bind fun x10=>(if !x10 then some (.stop (Out.ret false)) else some (.next (aY (x7+1)))) else some (.stop (Out.brk ())))
def WM(x3:Int):(Out Unit Bool)->Option (Step Int (Out Unit Bool))
 | .brk ()=>WL x3
 | .ret r=>some (.stop (Out.ret r))
def z7(m:Mem):Int->Option (Step Int (Out Unit Bool))
 | x3=>(if decide (x3 < 3) then (idx m.aB.Global x3).bind fun x4=>(zY m.aC x4.aT x3).bind fun x5=>(if !x5 then some (.stop (Out.ret false)) else (loop (z6 m x3) 0).bind (WM x3)) else some (.stop (Out.brk ())))
def aIM:(Out Unit Bool)->Option Bool
 | .brk ()=>aIL
 | .ret r=>some r
def HK(m:Mem)(x1:Bool):Option Bool:=
 (if x1 then some false else (loop (z7 m) 0).bind (aIM))
def K9(m:Mem):Option Bool:=
 (M8 m.aC).bind fun x11=>(if !x11 then HK m true else (KC m.aB).bind fun x12=>HK m (!x12))
def xT(x1:Bool):Option Bool:=
 some x1
def iK(h:Int):Option Bool:=
 (bW h 32 223).bind fun x2=>(if x2 then xT (decide ((Int.tmod h 32) < 24)) else xT false)
def fG(h:Int):Option Int:=
 (iK h).bind fun x1=>(if !x1 then some (-1) else some (Int.tmod h 32))
def M9(l:aB)(slot:Int):Option Bool:=
 (K8 l).bind fun x1=>(GH x1 slot).bind fun x2=>some x2
def EL(m:Mem)(slot:Int):Option Int:=
 (mO m.aC slot).bind fun x1=>(if decide (x1 < 0) then some 0 else (M9 m.aB slot).bind fun x2=>(if x2 then some 1 else (wF m.aC slot).bind fun x3=>(if decide (6 < x3) then some 2 else some 3)))
def EM(h:Int):Option Int:=
 (iK h).bind fun x1=>(if !x1 then some 0 else some (aY (Int.tdiv h 32)))
def tM(x1:Bool):Option Bool:=
 some x1
def oY(m:Mem)(h:Int):Option Bool:=
 (iK h).bind fun x2=>(if x2 then (fG h).bind fun x3=>(EL m x3).bind fun x4=>(if x4 == 3 then (fG h).bind fun x5=>(wF m.aC x5).bind fun x6=>(EM h).bind fun x7=>tM (x6 == x7) else tM false) else tM false)
def aF2(x5:List dA):Option (List dA):=
 some x5
def wH(l:List bC):((List dA)×Int)->Option (Step ((List dA)×Int) (List dA))
 | (x3,x4)=>(if decide (x4 < (l.length:Int)) then (idx l x4).bind fun x6=>need (x3.length+x6.Rows.length<=1073741824) (some (.next (x3++x6.Rows,aY (x4+1)))) else some (.stop (x3)))
def aF3:(List dA)->Option (List dA)
 | x5=>aF2 x5
def C4(l:List bC):Option (List dA):=
 (loop (wH l) (([]:List dA),0)).bind (aF3)
def aCN:Option Bool:=
 some false
def tO(x3:Int)(x4:Bool):Option (Step Int (Out Unit Bool)):=
 (if x4 then some (.stop (Out.ret true)) else some (.next (aY (x3+1))))
def nX(slot:Int)(x1:(List dA)):Int->Option (Step Int (Out Unit Bool))
 | x3=>(if decide (x3 < (x1.length:Int)) then (idx x1 x3).bind fun x5=>(iK x5.Handle).bind fun x6=>(if x6 then (fG x5.Handle).bind fun x7=>tO x3 (x7 == slot) else tO x3 false) else some (.stop (Out.brk ())))
def aCO:(Out Unit Bool)->Option Bool
 | .brk ()=>aCN
 | .ret r=>some r
def xU(l:List bC)(slot:Int):Option Bool:=
 (C4 l).bind fun x1=>(loop (nX slot x1) 0).bind (aCO)
def R9:Option Bool:=
 some true
def l5(x3:Int)(x5:Bool):Option (Step Int (Out Unit Bool)):=
 (if x5 then some (.stop (Out.ret false)) else some (.next (aY (x3+1))))
def tP(c:aD):Int->Option (Step Int (Out Unit Bool))
 | x3=>(if decide (x3 < 3) then (idx c.b9 x3).bind fun x4=>(if !x4.On then (if !(decide (x4=(⟨false,0,false,0⟩:pQ))) then l5 x3 true else (bW x4.aJ 0 c.aJ).bind fun x6=>(if !x6 then l5 x3 true else (bW x4.Seen 0 2).bind fun x7=>l5 x3 (!x7))) else (bW x4.aJ 0 c.aJ).bind fun x8=>(if !x8 then l5 x3 true else (bW x4.Seen 0 2).bind fun x9=>l5 x3 (!x9))) else some (.stop (Out.brk ())))
def I1:(Out Unit Bool)->Option Bool
 | .brk ()=>R9
 | .ret r=>some r
def nY(c:aD)(x1:Bool):Option Bool:=
 (if x1 then some false else (loop (tP c) 0).bind (I1))
def oZ(c:aD):Option Bool:=
 (bW c.aJ 0 100000).bind fun x10=>(if !x10 then nY c true else nY c ((c.b9.length:Int) != 3))
def aCP:Option Bool:=
 some true
def tQ(x5:List Int)(x6 x8:Int)(x9:Bool):Option (Step ((List Int)×Int) (Out Unit Bool)):=
 (if x9 then some (.stop (Out.ret false)) else need (x5.length+([x8]).length<=1073741824) (some (.next (x5++([x8]),aY (x6+1)))))
def tR(x1:(List dA)):((List Int)×Int)->Option (Step ((List Int)×Int) (Out Unit Bool))
 | (x5,x6)=>(if decide (x6 < (x1.length:Int)) then (idx x1 x6).bind fun x7=>(fG x7.Handle).bind fun x8=>(if decide (x8 < 0) then tQ x5 x6 x8 true else (bW x7.aJ 0 100000).bind fun x10=>(if !x10 then tQ x5 x6 x8 true else (GH x5 x8).bind fun x11=>tQ x5 x6 x8 x11)) else some (.stop (Out.brk ())))
def aCQ:(Out Unit Bool)->Option Bool
 | .brk ()=>aCP
 | .ret r=>some r
def BP(x1:(List dA))(x2:Bool):Option Bool:=
 (if x2 then some false else (loop (tR x1) (([]:List Int),0)).bind (aCQ))
def KD(l:List bC):Option Bool:=
 (C4 l).bind fun x1=>(if (l.length:Int) != 3 then BP x1 true else BP x1 (decide (24 < (x1.length:Int))))
def WN(z:List Int):Option Bool:=
 some ((z.length:Int) == 3)
def HL(x2:Int)(x3:Bool):Option (Step Int (Out Unit Bool)):=
 (if x3 then some (.stop (Out.ret false)) else some (.next (aY (x2+1))))
def AA(z:List Int):Int->Option (Step Int (Out Unit Bool))
 | x2=>(if decide (x2 < (z.length:Int)) then (idx z x2).bind fun x4=>(if x4 != 0 then (idx z x2).bind fun x5=>(iK x5).bind fun x6=>HL x2 (!x6) else HL x2 false) else some (.stop (Out.brk ())))
def WO(z:List Int):(Out Unit Bool)->Option Bool
 | .brk ()=>WN z
 | .ret r=>some r
def GI(z:List Int):Option Bool:=
 (loop (AA z) 0).bind (WO z)
def aF4:Option Bool:=
 some true
def EN(x4:Int)(x5:Bool):Option (Step Int (Out Unit Bool)):=
 (if x5 then some (.stop (Out.ret false)) else some (.next (aY (x4+1))))
def wI(b:aA)(x2:(List dA)):Int->Option (Step Int (Out Unit Bool))
 | x4=>(if decide (x4 < (x2.length:Int)) then (idx x2 x4).bind fun x6=>(oY b.Mem x6.Handle).bind fun x7=>(if !x7 then EN x4 true else EN x4 (decide (b.aD.aJ < x6.aJ))) else some (.stop (Out.brk ())))
def aF5:(Out Unit Bool)->Option Bool
 | .brk ()=>aF4
 | .ret r=>some r
def qY(b:aA)(x1:Bool):Option Bool:=
 (if x1 then some false else (C4 b.aO).bind fun x2=>(loop (wI b x2) 0).bind (aF5))
def ID(b:aA):Option Bool:=
 (K9 b.Mem).bind fun x8=>(if !x8 then qY b true else (oZ b.aD).bind fun x9=>(if !x9 then qY b true else (KD b.aO).bind fun x10=>(if !x10 then qY b true else (GI b.l7).bind fun x11=>qY b (!x11))))
def BQ(x1:Bool):Option Bool:=
 some x1
def i6(h:Int):Option Bool:=
 (if h == 0 then BQ true else (iK h).bind fun x2=>BQ x2)
def aCR:Option Bool:=
 some true
def fH(x5:Int)(x7:Bool):Option (Step Int (Out Unit Bool)):=
 (if x7 then some (.stop (Out.ret false)) else some (.next (aY (x5+1))))
def nZ(s:aG):Int->Option (Step Int (Out Unit Bool))
 | x5=>(if decide (x5 < 3) then (idx s.aX x5).bind fun x6=>(if !x6.eT then (if !(decide (x6=(⟨false,(⟨0,0,0,0⟩:dY),0,0,(⟨0,0,0,0,0,0,0,0,0,false⟩:Sub),0,0,0,0⟩:bE))) then fH x5 true else (if x6.eT then (KT x6.Op).bind fun x8=>(if !x8 then fH x5 true else (i6 x6.H).bind fun x9=>(if !x9 then fH x5 true else (i6 x6.Old).bind fun x10=>fH x5 (!x10))) else (i6 x6.H).bind fun x11=>(if !x11 then fH x5 true else (i6 x6.Old).bind fun x12=>fH x5 (!x12)))) else (if x6.eT then (KT x6.Op).bind fun x13=>(if !x13 then fH x5 true else (i6 x6.H).bind fun x14=>(if !x14 then fH x5 true else (i6 x6.Old).bind fun x15=>fH x5 (!x15))) else (i6 x6.H).bind fun x16=>(if !x16 then fH x5 true else (i6 x6.Old).bind fun x17=>fH x5 (!x17)))) else some (.stop (Out.brk ())))
def aCS:(Out Unit Bool)->Option Bool
 | .brk ()=>aCR
 | .ret r=>some r
def SA(s:aG):Option Bool:=
 (loop (nZ s) 0).bind (aCS)
def oA(s:aG):Int->Option (Step Int (Out Unit Bool))
 | x3=>(if decide (x3 < 2) then (idx s.Cells x3).bind fun x18=>(i6 x18).bind fun x19=>(if !x19 then some (.stop (Out.ret false)) else some (.next (aY (x3+1)))) else some (.stop (Out.brk ())))
def SB(s:aG):(Out Unit Bool)->Option Bool
 | .brk ()=>SA s
 | .ret r=>some r
def l6(s:aG)(x1:Bool):Option Bool:=
 (if x1 then some false else (loop (oA s) 0).bind (SB s))
def o7(s:aG):Option Bool:=
 (ID s.aA).bind fun x20=>(if !x20 then l6 s true else (if (s.Cells.length:Int) != 2 then l6 s true else (if (s.aX.length:Int) != 3 then l6 s true else (DL s.dT).bind fun x21=>(if !x21 then l6 s true else (bW s.aI 0 1000000).bind fun x22=>l6 s (!x22)))))
def wJ(x9:List Int):Option (List Int):=
 some x9
def LA(x:Int)(x7:List Int)(x8:Bool):Option (List Int):=
 (if !x8 then need (x7.length+([x]).length<=1073741824) (wJ (x7++([x]))) else wJ x7)
def qZ(l:List Int)(x6:Int)(x11:List Int)(x12:Bool):Option (Step ((List Int)×Bool×Int) (Out ((List Int)×Bool) (List Int))):=
 (idx l x6).bind fun x13=>need (x11.length+([x13]).length<=1073741824) (some (.next (x11++([x13]),x12,aY (x6+1))))
def rA(l:List Int)(x:Int)(x4:List Int)(x5:Bool)(x6:Int)(x14:Bool):Option (Step ((List Int)×Bool×Int) (Out ((List Int)×Bool) (List Int))):=
 (if x14 then need (x4.length+([x]).length<=1073741824) (qZ l x6 (x4++([x])) true) else qZ l x6 x4 x5)
def jW(l:List Int)(x:Int):((List Int)×Bool×Int)->Option (Step ((List Int)×Bool×Int) (Out ((List Int)×Bool) (List Int)))
 | (x4,x5,x6)=>(if decide (x6 < (l.length:Int)) then (idx l x6).bind fun x10=>(if x10 == x then some (.stop (Out.ret l)) else (if !x5 then rA l x x4 x5 x6 (decide (x < x10)) else rA l x x4 x5 x6 false)) else some (.stop (Out.brk (x4,x5))))
def wK(x:Int):(Out ((List Int)×Bool) (List Int))->Option (List Int)
 | .brk (x7,x8)=>LA x x7 x8
 | .ret r=>some r
def rU(l:List Int)(x:Int):Option (List Int):=
 (loop (jW l x) (([]:List Int),false,0)).bind (wK x)
def aIN(x11:List Int):Option (List Int):=
 some x11
def AB(x10:Int)(x13:List Int):Option (Step ((List Int)×Int) (List Int)):=
 some (.next (x13,aY (x10+1)))
def HM(x10:Int)(x14:bE)(x15:List Int)(x16:Bool):Option (Step ((List Int)×Int) (List Int)):=
 (if x16 then (rU x15 x14.Old).bind fun x17=>AB x10 x17 else AB x10 x15)
def HN(x10:Int)(x14:bE)(x15:List Int):Option (Step ((List Int)×Int) (List Int)):=
 (if x14.Pc == 3 then HM x10 x14 x15 (x14.Old != 0) else HM x10 x14 x15 false)
def AD(x9:List Int)(x10:Int)(x14:bE)(x18:Bool):Option (Step ((List Int)×Int) (List Int)):=
 (if x18 then (rU x9 x14.H).bind fun x19=>HN x10 x14 x19 else HN x10 x14 x9)
def AE(s:aG)(x9:List Int)(x10:Int)(x12:Bool):Option (Step ((List Int)×Int) (List Int)):=
 (if x12 then (idx s.aX x10).bind fun x14=>(if x14.Op.Kind != 1 then AB x10 x9 else (if x14.Pc == 1 then AD x9 x10 x14 (x14.H != 0) else (if x14.Pc == 2 then AD x9 x10 x14 (x14.H != 0) else AD x9 x10 x14 false))) else some (.stop (x9)))
def AF(s:aG)(x1:Bool):((List Int)×Int)->Option (Step ((List Int)×Int) (List Int))
 | (x9,x10)=>(if decide (x10 < 3) then AE s x9 x10 x1 else AE s x9 x10 false)
def aIO:(List Int)->Option (List Int)
 | x11=>aIN x11
def WQ(s:aG)(x1:Bool)(x6:List Int):Option (List Int):=
 (loop (AF s x1) (x6,0)).bind (aIO)
def HO(x5:Int)(x21:List Int):Option (Step ((List Int)×Int) (List Int)):=
 some (.next (x21,aY (x5+1)))
def AG(s:aG)(x4:List Int)(x5:Int)(x20:Bool):Option (Step ((List Int)×Int) (List Int)):=
 (if x20 then (idx s.Cells x5).bind fun x22=>(if x22 != 0 then (idx s.Cells x5).bind fun x23=>(rU x4 x23).bind fun x24=>HO x5 x24 else HO x5 x4) else some (.stop (x4)))
def AH(s:aG)(x1:Bool):((List Int)×Int)->Option (Step ((List Int)×Int) (List Int))
 | (x4,x5)=>(if decide (x5 < 2) then AG s x4 x5 x1 else AG s x4 x5 false)
def WR(s:aG)(x1:Bool):(List Int)->Option (List Int)
 | x6=>WQ s x1 x6
def QT(s:aG):Option (List Int):=
 (o7 s).bind fun x1=>(loop (AH s x1) (([]:List Int),0)).bind (WR s x1)
def SC(x6:List Int):Option (List Int):=
 (v8 x6).bind fun x7=>some x7
def BR(x5:Int)(x8:List Int):Option (Step ((List Int)×Int) (List Int)):=
 some (.next (x8,aY (x5+1)))
def oC(x4:List Int)(x5:Int)(x9:bE)(x12:Bool):Option (Step ((List Int)×Int) (List Int)):=
 (if x12 then need (x4.length+([x9.H]).length<=1073741824) (BR x5 (x4++([x9.H]))) else BR x5 x4)
def tS(x4:List Int)(x5:Int)(x9:bE)(x14:Bool):Option (Step ((List Int)×Int) (List Int)):=
 (if x14 then oC x4 x5 x9 true else (if x9.Op.Kind == 3 then oC x4 x5 x9 (x9.Pc == 3) else oC x4 x5 x9 false))
def tT(x4:List Int)(x5:Int)(x9:bE)(x11 x13:Bool):Option (Step ((List Int)×Int) (List Int)):=
 (if x13 then oC x4 x5 x9 true else (if x9.Op.Kind == 7 then (cC x9.Pc 1 2).bind fun x15=>(if x15 then tS x4 x5 x9 x11 else tS x4 x5 x9 false) else tS x4 x5 x9 false))
def tU(s:aG):((List Int)×Int)->Option (Step ((List Int)×Int) (List Int))
 | (x4,x5)=>(if decide (x5 < (s.aX.length:Int)) then (idx s.aX x5).bind fun x9=>(idx s.aA.aD.b9 x5).bind fun x10=>(kS x10).bind fun x11=>(if x9.Op.Kind == 2 then (cC x9.Pc 2 3).bind fun x16=>(if x16 then tT x4 x5 x9 x11 x11 else tT x4 x5 x9 x11 false) else tT x4 x5 x9 x11 false) else some (.stop (x4)))
def SD:(List Int)->Option (List Int)
 | x6=>SC x6
def KE(s:aG):Option (List Int):=
 (oQ s).bind fun x1=>(if !x1 then some ([]:List Int) else (loop (tU s) (([]:List Int),0)).bind (SD))
def o8(x5:Bool):Option Bool:=
 some x5
def o9(x6:Bool):Option Bool:=
 some x6
def vB(x1:bE)(x3 x4:Bool):Option Bool:=
 (if x4 then some false else (if x1.Op.Kind == 2 then (if x3 then (if x1.Pc == 2 then o8 true else o8 (x1.Pc == 3)) else o8 false) else (if x1.Op.Kind == 7 then (if x3 then (if x1.Pc == 1 then o9 true else o9 (x1.Pc == 2)) else o9 false) else (if x1.Op.Kind == 3 then some (x1.Pc == 3) else some false))))
def vC(x1:bE)(x3:Bool):Option Bool:=
 (if !x1.eT then vB x1 x3 true else vB x1 x3 (x1.H == 0))
def EO(s:aG)(w_:Int):Option Bool:=
 (idx s.aX w_).bind fun x1=>(idx s.aA.aD.b9 w_).bind fun x2=>(if x2.On then vC x1 (!x2.dB) else vC x1 false)
def aCT(x6:List Int):Option (List Int):=
 some x6
def BS(x5:Int)(x8:List Int):Option (Step ((List Int)×Int) (List Int)):=
 some (.next (x8,aY (x5+1)))
def tV(s:aG)(x4:List Int)(x5:Int)(x7:Bool):Option (Step ((List Int)×Int) (List Int)):=
 (if x7 then (EO s x5).bind fun x9=>(if x9 then (idx s.aX x5).bind fun x10=>(rU x4 x10.H).bind fun x11=>BS x5 x11 else BS x5 x4) else some (.stop (x4)))
def tW(s:aG)(x1:Bool):((List Int)×Int)->Option (Step ((List Int)×Int) (List Int))
 | (x4,x5)=>(if decide (x5 < 3) then tV s x4 x5 x1 else tV s x4 x5 false)
def aCU:(List Int)->Option (List Int)
 | x6=>aCT x6
def KF(s:aG):Option (List Int):=
 (o7 s).bind fun x1=>(loop (tW s x1) (([]:List Int),0)).bind (aCU)
def aTC(x:m7)(n:Int):Option m7:=
 need (0<=(if n < (x.eO.length:Int) then n else (x.eO.length:Int):Int)/\(if n < (x.eO.length:Int) then n else (x.eO.length:Int):Int)<=(x.eO.length:Int)) (some ((⟨x.dT,(x.eO.take ((if n < (x.eO.length:Int) then n else (x.eO.length:Int)).toNat)).drop 0⟩:m7)))
def aEI(code:List UInt8)(i:Int):Option Int:=
 (if decide (i < (code.length:Int)) then (idx code i).bind fun x1=>some (x1.toNat:Int) else some (Int.tmod (aY ((aY (i * 37))+(aY ((code.length:Int) * 11)))) 256))
def QU(code:List UInt8)(i n:Int):Option Int:=
 (aEI code i).bind fun x1=>some (aY (Int.tdiv (aY (x1 * (aY (n+1)))) 256))
def SF(s:aG):Option Bool:=
 (o7 s).bind fun x4=>some x4
def tX(s:aG)(x1:(List Int)):Int->Option (Step Int (Out Unit Bool))
 | x3=>(if decide (x3 < (x1.length:Int)) then (idx x1 x3).bind fun x5=>(oY s.aA.Mem x5).bind fun x6=>(if !x6 then some (.stop (Out.ret false)) else some (.next (aY (x3+1)))) else some (.stop (Out.brk ())))
def SG(s:aG):(Out Unit Bool)->Option Bool
 | .brk ()=>SF s
 | .ret r=>some r
def EP(s:aG):Option Bool:=
 (KF s).bind fun x1=>(loop (tX s x1) 0).bind (SG s)
def rB(x1:Int)(x2:Bool):Option Int:=
 (if x2 then some 4 else some x1)
def HP(b:aA)(slot:Int):Option Int:=
 (EL b.Mem slot).bind fun x1=>(if x1 == 3 then (xU b.aO slot).bind fun x3=>rB x1 (!x3) else rB x1 false)
def aIP(x6:List Int):Option (List Int):=
 some x6
def AI(b:aA)(x4:List Int)(x5:Int)(x7:Bool):Option (Step ((List Int)×Int) (List Int)):=
 (if x7 then (HP b x5).bind fun x8=>(idx x4 x8).bind fun x9=>some (.next (x4.set x8.toNat (aY (x9+1)),aY (x5+1))) else some (.stop (x4)))
def AJ(b:aA)(x1:Bool):((List Int)×Int)->Option (Step ((List Int)×Int) (List Int))
 | (x4,x5)=>(if decide (x5 < 24) then AI b x4 x5 x1 else AI b x4 x5 false)
def aIQ:(List Int)->Option (List Int)
 | x6=>aIP x6
def QV(b:aA):Option (List Int):=
 need (0<=(5:Int)/\(5:Int)<=4294967296) ((ID b).bind fun x1=>(loop (AJ b x1) (List.replicate ((5:Int).toNat) 0,0)).bind (aIQ))
def vD(x4:Bool):Option Bool:=
 some x4
def NA(s:aG)(x1:(List Int)):Option Bool:=
 (o7 s).bind fun x5=>(if x5 then (QV s.aA).bind fun x6=>(idx x6 4).bind fun x7=>vD (x7 == (x1.length:Int)) else vD false)
def vF(x3:Int)(x8:Bool):Option (Step Int (Out Unit Bool)):=
 (if x8 then some (.stop (Out.ret false)) else some (.next (aY (x3+1))))
def pA(s:aG)(x1:(List Int)):Int->Option (Step Int (Out Unit Bool))
 | x3=>(if decide (x3 < (x1.length:Int)) then (idx x1 x3).bind fun x9=>(oY s.aA.Mem x9).bind fun x10=>(if !x10 then vF x3 true else (fG x9).bind fun x11=>(xU s.aA.aO x11).bind fun x12=>vF x3 x12) else some (.stop (Out.brk ())))
def NB(s:aG)(x1:(List Int)):(Out Unit Bool)->Option Bool
 | .brk ()=>NA s x1
 | .ret r=>some r
def wL(s:aG):Option Bool:=
 (QT s).bind fun x1=>(loop (pA s x1) 0).bind (NB s x1)
def ER(h:Int)(k0:aG):Option Bool:=
 (rS k0.aA.Mem h).bind fun x1=>some (!x1)
def BT(x1:Bool):Option Bool:=
 some x1
def KG(s:aG):Option Bool:=
 (oQ s).bind fun x2=>(if x2 then (KE s).bind fun x3=>(b8 x3 (fun y0=>ER y0 s)).bind fun x4=>BT (!x4) else BT false)
def LB(b:aA)(slot:Int):Option Int:=
 (DX b.Mem slot).bind fun x1=>(if x1 != 3 then some x1 else (xK b.aO slot).bind fun x2=>(if x2 then some 3 else some 4))
def aIR(x6:List Int):Option (List Int):=
 some x6
def AK(b:aA):((List Int)×Int)->Option (Step ((List Int)×Int) (List Int))
 | (x4,x5)=>(if decide (x5 < 24) then (LB b x5).bind fun x7=>(idx x4 x7).bind fun x8=>some (.next (x4.set x7.toNat (aY (x8+1)),aY (x5+1))) else some (.stop (x4)))
def aIS:(List Int)->Option (List Int)
 | x6=>aIR x6
def QW(b:aA):Option (List Int):=
 need (0<=(5:Int)/\(5:Int)<=4294967296) ((C1 b).bind fun x1=>(if !x1 then some (List.replicate ((5:Int).toNat) 0) else (loop (AK b) (List.replicate ((5:Int).toNat) 0,0)).bind (aIS)))
def I3(x1:Bool):Option Bool:=
 some x1
def xV(h:Int)(k0:aA):Option Bool:=
 (rS k0.Mem h).bind fun x2=>(if !x2 then I3 true else (xK k0.aO (Int.tmod h 32)).bind fun x3=>I3 x3)
def N3(x1:Bool):Option Bool:=
 some x1
def QX(b:aA)(list:List Int):Option Bool:=
 (QW b).bind fun x2=>(idx x2 4).bind fun x3=>(if (list.length:Int) == x3 then (b8 list (fun y0=>xV y0 b)).bind fun x4=>N3 (!x4) else N3 false)
def ES(x1:Bool):Option Bool:=
 some x1
def ET(s:aG):Option Bool:=
 (oQ s).bind fun x2=>(if x2 then (QQ s).bind fun x3=>(QX s.aA x3).bind fun x4=>ES x4 else ES false)
def aCV:Option Bool:=
 some true
def oD(x2:Int):Option (Step Int (Out Unit Bool)):=
 some (.next (aY (x2+1)))
def fI(x2:Int)(x9:Bool):Option (Step Int (Out Unit Bool)):=
 (if x9 then some (.stop (Out.ret false)) else oD x2)
def SH(l:List Ev)(x2:Int)(x3:Ev)(x6:Int):Option (Step Int (Out Unit Bool)):=
 (if decide (x6 < 0) then oD x2 else (idx l x6).bind fun x7=>(IC l x6 x7.Cell).bind fun x8=>(if x3.Code == 0 then (if x8.Handle == 0 then fI x2 true else (if x8.Handle != x7.Handle then fI x2 true else (if x8.dQ != x3.dQ then fI x2 true else (if x3.Code == 8 then (if x8.Handle != 0 then fI x2 true else fI x2 (x7.Handle != 0)) else fI x2 false)))) else (if x3.Code == 8 then (if x8.Handle != 0 then fI x2 true else fI x2 (x7.Handle != 0)) else fI x2 false)))
def kD(x5:Int)(x10:Bool):Option (Step Int Int):=
 (if x10 then some (.next (aY (x5 - 1))) else some (.stop (x5)))
def oE(l:List Ev)(x3:Ev):Int->Option (Step Int Int)
 | x5=>(if decide (0<=x5) then (idx l x5).bind fun x11=>(if x11.Kind != 3 then kD x5 true else (idx l x5).bind fun x12=>kD x5 (x12.aI != x3.aI)) else kD x5 false)
def SI(l:List Ev)(x2:Int)(x3:Ev):Int->Option (Step Int (Out Unit Bool))
 | x6=>SH l x2 x3 x6
def tY(l:List Ev):Int->Option (Step Int (Out Unit Bool))
 | x2=>(if decide (x2 < (l.length:Int)) then (idx l x2).bind fun x3=>(if x3.Kind != 4 then oD x2 else (loop (oE l x3) (aY (x2 - 1))).bind (SI l x2 x3)) else some (.stop (Out.brk ())))
def aCW:(Out Unit Bool)->Option Bool
 | .brk ()=>aCV
 | .ret r=>some r
def KH(l:List Ev):Option Bool:=
 (loop (tY l) 0).bind (aCW)
def uL(x1:Bool):Option Bool:=
 some x1
def QY(a_ b:Span):Option Bool:=
 (if decide (a_.To<=a_.GK) then uL true else (if decide (b.To<=b.GK) then uL true else (if decide (a_.To<=b.GK) then uL true else uL (decide (b.To<=a_.GK)))))
def aA0:Option Bool:=
 some true
def PF(x2:Int):Option (Step Int (Out Unit Bool)):=
 some (.next (aY (x2+1)))
def rC(l:List Span)(x2:Int):Int->Option (Step Int (Out Unit Bool))
 | x5=>(if decide (x5 < x2) then (idx l x2).bind fun x6=>(idx l x5).bind fun x7=>(QY x6 x7).bind fun x8=>(if !x8 then some (.stop (Out.ret false)) else some (.next (aY (x5+1)))) else some (.stop (Out.brk ())))
def PG(x2:Int):(Out Unit Bool)->Option (Step Int (Out Unit Bool))
 | .brk ()=>PF x2
 | .ret r=>some (.stop (Out.ret r))
def xW(l:List Span)(x2:Int)(x3:Bool):Option (Step Int (Out Unit Bool)):=
 (if x3 then some (.stop (Out.ret false)) else (loop (rC l x2) 0).bind (PG x2))
def rD(l:List Span):Int->Option (Step Int (Out Unit Bool))
 | x2=>(if decide (x2 < (l.length:Int)) then (idx l x2).bind fun x9=>(if decide (x9.GK < 0) then xW l x2 true else (idx l x2).bind fun x10=>xW l x2 (decide (384 < x10.To))) else some (.stop (Out.brk ())))
def aA1:(Out Unit Bool)->Option Bool
 | .brk ()=>aA0
 | .ret r=>some r
def AL(l:List Span):Option Bool:=
 (loop (rD l) 0).bind (aA1)
def QZ(b:aA)(slot:Int):Option Int:=
 (C1 b).bind fun x1=>(if !x1 then some 0 else (LB b slot).bind fun x2=>some x2)
def aF6(x5:List Span):Option (List Span):=
 some x5
def EU(x4:Int)(x6:List Span):Option (Step ((List Span)×Int) (List Span)):=
 some (.next (x6,aY (x4+1)))
def wM(b:aA):((List Span)×Int)->Option (Step ((List Span)×Int) (List Span))
 | (x3,x4)=>(if decide (x4 < 24) then (QZ b x4).bind fun x7=>(if decide (3<=x7) then (mH b.Mem.aC x4).bind fun x8=>(xO x4 x8).bind fun x9=>need (x3.length+([x9]).length<=1073741824) (EU x4 (x3++([x9]))) else EU x4 x3) else some (.stop (x3)))
def aF7:(List Span)->Option (List Span)
 | x5=>aF6 x5
def NC(b:aA):Option (List Span):=
 (loop (wM b) (([]:List Span),0)).bind (aF7)
def jO(x7:Bool):Option Bool:=
 some x7
def N4(x2:m7)(x5:aG):Option Bool:=
 (jV x2).bind fun x6=>(EP x5).bind fun x8=>(if x8 then (wL x5).bind fun x9=>(if x9 then (EP x6).bind fun x10=>(if x10 then (wL x6).bind fun x11=>(if x11 then (J9 x6.Log).bind fun x12=>(if x12 then (KG x6).bind fun x13=>(if x13 then (ET x6).bind fun x14=>(if x14 then (KH x6.Log).bind fun x15=>(if x15 then (NC x6.aA).bind fun x16=>(AL x16).bind fun x17=>jO x17 else jO false) else jO false) else jO false) else jO false) else jO false) else jO false) else jO false) else jO false)
def XU(code:List UInt8):Option Bool:=
 (aFO code).bind fun x1=>(if x1 then some true else (rY code).bind fun x2=>(QJ x2).bind fun x3=>(if !x3 then (jV x2).bind fun x4=>some ((x4.aX.length:Int) == 0) else (QU code 0 (x2.eO.length:Int)).bind fun x18=>need (0<=(if x18 < (x2.eO.length:Int) then x18 else (x2.eO.length:Int):Int)/\(if x18 < (x2.eO.length:Int) then x18 else (x2.eO.length:Int):Int)<=(x2.eO.length:Int))<|(jV (⟨x2.dT,(x2.eO.take ((if x18 < (x2.eO.length:Int) then x18 else (x2.eO.length:Int)).toNat)).drop 0⟩:m7)).bind fun x19=>N4 x2 x19))
def iH(kind a_:Int):Option Sub:=
 some (⟨kind,a_,0,0,0,0,0,0,0,false⟩:Sub)
def fJ(s:aG)(w_:Int)(x2:Queue)(x3:dY)(x4:bE):Option aG:=
 (idx s.aX w_).bind fun x5=>need (s.Log.length+([(⟨1,w_,aY (s.aI+1),x3.Cell,0,0,0⟩:Ev)]).length<=1073741824) (some (⟨s.aA,s.Cells,s.aX.set w_.toNat x4,s.dT.set w_.toNat (⟨(x2.jQ.take x2.jQ.length).drop ((1:Int).toNat)⟩:Queue),s.Log++([(⟨1,w_,aY (s.aI+1),x3.Cell,0,0,0⟩:Ev)]),aY (s.aI+1)⟩:aG))
def jH(s:aG)(w_:Int)(x2:Queue)(x3:dY)(x7:Bool):Option aG:=
 (if x7 then (iH 5 0).bind fun x8=>(idx s.aA.aD.b9 w_).bind fun x9=>(if x9.On then fJ s w_ x2 x3 (⟨true,x3,aY (s.aI+1),9,x8,0,0,0,1⟩:bE) else fJ s w_ x2 x3 (⟨true,x3,aY (s.aI+1),0,x8,0,0,0,0⟩:bE)) else (if x3.Kind == 4 then (iH 3 0).bind fun x10=>fJ s w_ x2 x3 (⟨true,x3,aY (s.aI+1),0,x10,0,0,0,0⟩:bE) else fJ s w_ x2 x3 (⟨true,x3,aY (s.aI+1),0,(⟨0,0,0,0,0,0,0,0,0,false⟩:Sub),0,0,0,0⟩:bE)))
def xX(s:aG)(w_:Int)(x1:Bool):Option aG:=
 (if x1 then some s else (idx s.dT w_).bind fun x2=>(idx x2.jQ 0).bind fun x3=>need (0<=(1:Int)/\(1:Int)<=(x2.jQ.length:Int)) ((if x3.Kind == 1 then (iH 1 x3.iI).bind fun x6=>fJ s w_ x2 x3 (⟨true,x3,aY (s.aI+1),0,x6,0,0,0,0⟩:bE) else (if x3.Kind == 2 then jH s w_ x2 x3 true else jH s w_ x2 x3 (x3.Kind == 5)))))
def AM(s:aG)(w_:Int):Option aG:=
 (idx s.dT w_).bind fun x11=>(if (x11.jQ.length:Int) == 0 then xX s w_ true else xX s w_ (s.aI == 1000000))
def aCX:Option Int:=
 some (-1)
def fX(size:Int):Int->Option (Step Int (Out Unit Int))
 | x2=>(if decide (x2 < 3) then (oX x2).bind fun x3=>(bW size 1 x3).bind fun x4=>(if x4 then some (.stop (Out.ret x2)) else some (.next (aY (x2+1)))) else some (.stop (Out.brk ())))
def aCY:(Out Unit Int)->Option Int
 | .brk ()=>aCX
 | .ret r=>some r
def EV(size:Int):Option Int:=
 (loop (fX size) 0).bind (aCY)
def bK(s:Sub)(code:Int):Option Sub:=
 some ({s with Code:=code,cZ:=true}:Sub)
def N5(s:aR)(x1:Int):Option (aR×Int):=
 some ((⟨(s.aT.take ((aY ((s.aT.length:Int) - 1)).toNat)).drop 0⟩:aR),x1)
def sL(s:aR):Option (aR×Int):=
 (if (s.aT.length:Int) == 0 then some (s,(-1)) else need (0<=(aY ((s.aT.length:Int) - 1):Int)/\(aY ((s.aT.length:Int) - 1):Int)<=(s.aT.length:Int)) ((idx s.aT (aY ((s.aT.length:Int) - 1))).bind fun x2=>N5 s x2))
def aCZ(x7:List Int):Option (List Int):=
 some x7
def BU(at_:Int):((List Int)×Int×Int)->Option (Step ((List Int)×Int×Int) (List Int))
 | (x4,x5,x6)=>(if decide (0<=x6) then (idx x4 (aY (at_+x6))).bind fun x8=>some (.next (x4.set ((aY (at_+x6)).toNat) (Int.tmod x5 256),aY (Int.tdiv x5 256),aY (x6 - 1))) else some (.stop (x4)))
def aC0:(List Int)->Option (List Int)
 | x7=>aCZ x7
def xY(b:List Int)(at_ width n:Int):Option (List Int):=
 (loop (BU at_) (b,n,aY (width - 1))).bind (aC0)
def aC1(h:aC):Option (aC×(List Int)):=
 some (h,([]:List Int))
def I4(x2:Int):Option (Step Int (Out Unit (aC×(List Int)))):=
 some (.next (aY (x2+1)))
def aC2(h:aC)(c x2:Int)(x14 x15:List Int):Option (Step Int (Out Unit (aC×(List Int)))):=
 some (.stop (Out.ret ((⟨x15,h.Class.set x2.toNat c⟩:aC),x14)))
def SJ(x2:Int)(x11:List Int)(x12:Int)(x17:List Int):Option (Step ((List Int)×Int×(List Int)) ((List Int)×(List Int))):=
 (rT x2 x12).bind fun x18=>need (x11.length+([x18]).length<=1073741824) (some (.next (x11++([x18]),aY (x12+1),x17)))
def BV(c x2:Int):((List Int)×Int×(List Int))->Option (Step ((List Int)×Int×(List Int)) ((List Int)×(List Int)))
 | (x11,x12,x13)=>(mN c).bind fun x16=>(if decide (x12 < x16) then (rT x2 x12).bind fun x19=>(wC x19 c).bind fun x20=>(xY x13 x20 4 1).bind fun x21=>SJ x2 x11 x12 x21 else some (.stop ((x11,x13))))
def aC3(h:aC)(c x2:Int):((List Int)×(List Int))->Option (Step Int (Out Unit (aC×(List Int))))
 | (x14,x15)=>aC2 h c x2 x14 x15
def fK(h:aC)(c:Int):Int->Option (Step Int (Out Unit (aC×(List Int))))
 | x2=>(if decide (x2 < 6) then (idx h.Class x2).bind fun x3=>(if x3 != (-1) then I4 x2 else (idx h.Bytes (aY (x2 * 64))).bind fun x4=>(idx (h.Bytes.set ((aY (x2 * 64)).toNat) 171) (aY ((aY (x2 * 64))+1))).bind fun x5=>(mN c).bind fun x6=>(idx ((h.Bytes.set ((aY (x2 * 64)).toNat) 171).set ((aY ((aY (x2 * 64))+1)).toNat) c) (aY ((aY (x2 * 64))+2))).bind fun x7=>(loop (BV c x2) (([]:List Int),0,((h.Bytes.set ((aY (x2 * 64)).toNat) 171).set ((aY ((aY (x2 * 64))+1)).toNat) c).set ((aY ((aY (x2 * 64))+2)).toNat) x6)).bind (aC3 h c x2)) else some (.stop (Out.brk ())))
def aC4(h:aC):(Out Unit (aC×(List Int)))->Option (aC×(List Int))
 | .brk ()=>aC1 h
 | .ret r=>some r
def sM(h:aC)(c:Int):Option (aC×(List Int)):=
 (loop (fK h c) 0).bind (aC4 h)
def I5(m:Mem)(c:Int)(x1:aC×(List Int))(x2:aR)(x3:Int):Option (Mem×Int):=
 some ((⟨x1.1,(⟨m.aB.Global.set c.toNat (⟨x2.aT++((x1.2.take x1.2.length).drop ((1:Int).toNat))⟩:aR),m.aB.Own⟩:aB)⟩:Mem),x3)
def EW(m:Mem)(c:Int):Option (Mem×Int):=
 (sM m.aC c).bind fun x1=>(if (x1.2.length:Int) == 0 then some ((⟨x1.1,m.aB⟩:Mem),(-1)) else (idx m.aB.Global c).bind fun x2=>need (0<=(1:Int)/\(1:Int)<=(x1.2.length:Int)) (need (x2.aT.length+((x1.2.take x1.2.length).drop ((1:Int).toNat)).length<=1073741824) ((idx x1.2 0).bind fun x4=>I5 m c x1 x2 x4)))
def xZ(slot gen:Int)(x1:Bool):Option Int:=
 (if x1 then some 0 else some (aY ((aY (gen * 32))+slot)))
def N6(slot gen:Int):Option Int:=
 (bW slot 0 23).bind fun x2=>(if !x2 then xZ slot gen true else (bW gen 1 6).bind fun x3=>xZ slot gen (!x3))
def AN(m:Mem)(slot:Int):Option Int:=
 (wF m.aC slot).bind fun x1=>(N6 slot x1).bind fun x2=>some x2
def Q0(b:aA)(s:Sub)(slot pc:Int):Option Sub:=
 (if decide (0<=slot) then (AN b.Mem slot).bind fun x1=>(bK ({s with Out:=x1}:Sub) 0).bind fun x2=>some x2 else some ({s with Pc:=pc}:Sub))
def yA(s:Sub)(x3:Int)(x5:Bool)(x6:aA):Option (aA×Sub):=
 (if x5 then (bK s 3).bind fun x7=>some (x6,x7) else (Q0 x6 s x3 (aY (s.Pc+1))).bind fun x8=>some (x6,x8))
def jI(s:Sub)(x3:Int)(x4:aA):Option (aA×Sub):=
 (if decide (x3 < 0) then yA s x3 (s.Pc == 3) x4 else yA s x3 false x4)
def yC(b:aA)(s:Sub)(x1:Int)(x12:Bool):Option (aA×Sub):=
 (if x12 then (idx b.Mem.aB.Global x1).bind fun x13=>(sL x13).bind fun x14=>jI s x14.2 ({b with Mem:=(⟨b.Mem.aC,(⟨b.Mem.aB.Global.set x1.toNat x14.1,b.Mem.aB.Own⟩:aB)⟩:Mem)}:aA) else (if s.Pc == 2 then (EW b.Mem x1).bind fun x15=>jI s x15.2 ({b with Mem:=x15.1}:aA) else (bK s 1).bind fun x16=>some (b,x16)))
def AO(b:aA)(w_:Int)(s:Sub):Option (aA×Sub):=
 (EV s.A).bind fun x1=>(if decide (x1 < 0) then (bK s 2).bind fun x2=>some (b,x2) else (if s.Pc == 0 then (wG w_ x1).bind fun x9=>(idx b.Mem.aB.Own x9).bind fun x10=>(sL x10).bind fun x11=>jI s x11.2 ({b with Mem:=(⟨b.Mem.aC,(⟨b.Mem.aB.Global,b.Mem.aB.Own.set x9.toNat x11.1⟩:aB)⟩:Mem)}:aA) else (if s.Pc == 1 then yC b s x1 true else yC b s x1 (s.Pc == 3))))
def EX(b:aA)(s:Sub)(x5:List bC):Option (aA×Sub):=
 (bK s 0).bind fun x6=>some (({b with aO:=x5}:aA),x6)
def vG(b:aA)(w_:Int)(s:Sub)(x3:Bool):Option (aA×Sub):=
 (if x3 then (bK s 4).bind fun x4=>some (b,x4) else (idx b.aO w_).bind fun x7=>need (x7.Rows.length+([(⟨s.A,s.E⟩:dA)]).length<=1073741824)<|EX b s (b.aO.set w_.toNat (⟨x7.Rows++([(⟨s.A,s.E⟩:dA)])⟩:bC)))
def wN(b:aA)(w_:Int)(s:Sub):Option (aA×Sub):=
 (if s.Pc == 0 then some (b,({s with Pc:=1,E:=b.aD.aJ}:Sub)) else (if s.Pc == 1 then (bW s.E 0 b.aD.aJ).bind fun x1=>(if !x1 then (bK s 1).bind fun x2=>some (b,x2) else (oY b.Mem s.A).bind fun x8=>(if !x8 then vG b w_ s true else (fG s.A).bind fun x9=>(xU b.aO x9).bind fun x10=>vG b w_ s x10)) else (bK s 1).bind fun x11=>some (b,x11)))
def yD(c:aD):Option aD:=
 need (([]:List pQ).length+c.b9.length<=1073741824) (some (⟨c.aJ,([]:List pQ)++c.b9⟩:aD))
def rF(w_:Int)(x1:aD)(x3:pQ)(x4:Bool):Option (aD×Bool):=
 (if x4 then some (x1,true) else (if x3.Seen == 2 then (idx x1.b9 w_).bind fun x5=>some ((⟨x1.aJ,x1.b9.set w_.toNat ({x5 with dB:=true,Seen:=0}:pQ)⟩:aD),true) else (idx x1.b9 w_).bind fun x6=>some ((⟨x1.aJ,x1.b9.set w_.toNat ({x6 with Seen:=aY (x3.Seen+1)}:pQ)⟩:aD),false)))
def EY(c:aD)(w_ e_:Int)(x1:aD)(x2:Bool):Option (aD×Bool):=
 (if x2 then some (x1,false) else (idx c.b9 w_).bind fun x3=>(if !x3.On then rF w_ x1 x3 true else (if x3.dB then rF w_ x1 x3 true else rF w_ x1 x3 (x3.aJ == e_))))
def IE(c:aD)(w_ e_:Int):Option (aD×Bool):=
 (yD c).bind fun x1=>(oZ c).bind fun x7=>(if !x7 then EY c w_ e_ x1 true else (bW w_ 0 2).bind fun x8=>EY c w_ e_ x1 (!x8))
def EZ(e_:Int)(x1:aD)(x2:Bool):Option (aD×Bool):=
 (if x2 then some (x1,false) else some ((⟨aY (e_+1),x1.b9⟩:aD),true))
def PH(c:aD)(e_:Int):Option (aD×Bool):=
 (yD c).bind fun x1=>(oZ c).bind fun x3=>(if !x3 then EZ e_ x1 true else (if c.aJ != e_ then EZ e_ x1 true else EZ e_ x1 (e_ == 100000)))
def sN(b:aA)(s:Sub)(x3:aD×Bool)(x5:Int):Option (aA×Sub):=
 some (({b with aD:=x3.1}:aA),({s with Pc:=x5,B:=aY (s.B+1)}:Sub))
def sO(b:aA)(s:Sub)(x6:aD×Bool)(x7:Int):Option (aA×Sub):=
 (bK ({s with Out:=x7}:Sub) 0).bind fun x8=>some (({b with aD:=x6.1}:aA),x8)
def tZ(b:aA)(s:Sub):Option (aA×Sub):=
 (if s.Pc == 0 then some (b,({s with Pc:=1,E:=b.aD.aJ,B:=0}:Sub)) else (if s.Pc == 1 then (bW s.B 0 2).bind fun x1=>(if !x1 then (bK s 1).bind fun x2=>some (b,x2) else (IE b.aD s.B s.E).bind fun x3=>(if !x3.2 then (bK s 8).bind fun x4=>some (({b with aD:=x3.1}:aA),x4) else (if (aY (s.B+1)) == 3 then sN b s x3 2 else sN b s x3 s.Pc))) else (if s.Pc == 2 then (PH b.aD s.E).bind fun x6=>(if x6.2 then sO b s x6 1 else sO b s x6 s.Out) else (bK s 1).bind fun x9=>some (b,x9))))
def KI(x1:Bool):Option Bool:=
 some x1
def KV(r_:dA)(e_:Int):Option Bool:=
 (if decide (2<=e_) then KI (decide (r_.aJ<=(aY (e_ - 2)))) else KI false)
def aC5:Option Int:=
 some (-1)
def eR(l:List dA)(e_:Int):Int->Option (Step Int (Out Unit Int))
 | x2=>(if decide (x2 < (l.length:Int)) then (idx l x2).bind fun x3=>(KV x3 e_).bind fun x4=>(if x4 then some (.stop (Out.ret x2)) else some (.next (aY (x2+1)))) else some (.stop (Out.brk ())))
def aC6:(Out Unit Int)->Option Int
 | .brk ()=>aC5
 | .ret r=>some r
def yE(l:List dA)(from_ e_:Int):Option Int:=
 (loop (eR l e_) (if 0 < from_ then from_ else 0)).bind (aC6)
def LC(x2 x3:List aR):Option aB:=
 some (⟨x2,x3⟩:aB)
def T4(x:aB)(slot x1:Int)(x4:aR):Option aB:=
 LC x.Global (x.Own.set x1.toNat (⟨x4.aT++([slot])⟩:aR))
def T5(x:aB)(x5:List aR):Option aB:=
 LC x5 x.Own
def T6(x:aB)(w_ c slot:Int):Option aB:=
 (wG w_ c).bind fun x1=>(idx x.Own x1).bind fun x4=>(if decide ((x4.aT.length:Int) < 2) then need (x4.aT.length+([slot]).length<=1073741824)<|T4 x slot x1 x4 else (idx x.Global c).bind fun x6=>need (x6.aT.length+([slot]).length<=1073741824)<|T5 x (x.Global.set c.toNat (⟨x6.aT++([slot])⟩:aR)))
def LD(x:Mem)(x3:List Int)(x4 x5:List aR):Option Mem:=
 some (⟨(⟨x3,x.aC.Class⟩:aC),(⟨x4,x5⟩:aB)⟩:Mem)
def LF(x:Mem)(w_ slot x1 x2:Int)(x3:List Int):Option Mem:=
 (if decide ((aY (x2+1))<=6) then (T6 x.aB w_ x1 slot).bind fun x6=>LD x x3 x6.Global x6.Own else LD x x3 x.aB.Global x.aB.Own)
def IF(x:Mem)(w_ slot:Int):Option Mem:=
 (mO x.aC slot).bind fun x1=>(wF x.aC slot).bind fun x2=>(wC slot x1).bind fun x7=>(xY x.aC.Bytes x7 4 (aY (x2+1))).bind fun x8=>LF x w_ slot x1 x2 x8
def sP(b:aA)(s:Sub)(x8:Int):Option (aA×Sub):=
 some (b,({s with Pc:=x8,B:=aY (s.B+1)}:Sub))
def fP(b:aA)(s:Sub)(x5:Bool):Option (aA×Sub):=
 (if x5 then (bK s 1).bind fun x6=>some (b,x6) else (idx b.l7 s.B).bind fun x7=>(if x7 == s.H then some (b,({s with Pc:=1,Row:=aY (s.Row+1)}:Sub)) else (if (aY (s.B+1)) == 3 then sP b s 3 else sP b s s.Pc)))
def CI(s:Sub)(x14:aA):Option (aA×Sub):=
 some (x14,({s with Pc:=1,Out:=aY (s.Out+1)}:Sub))
def fQ(b:aA)(w_:Int)(s:Sub)(x1:bC)(x12:Bool):Option (aA×Sub):=
 (if x12 then (bK s 1).bind fun x13=>some (b,x13) else need (0<=(s.Row:Int)/\(s.Row:Int)<=(x1.Rows.length:Int)) (need (0<=(aY (s.Row+1):Int)/\(aY (s.Row+1):Int)<=(x1.Rows.length:Int)) (need (s.Row.toNat<=(aY (s.Row+1)).toNat) ((fG s.H).bind fun x15=>(IF b.Mem w_ x15).bind fun x16=>CI s ({b with Mem:=x16,aO:=b.aO.set w_.toNat (⟨((dF x1.Rows s.Row.toNat (x1.Rows.drop ((aY (s.Row+1)).toNat))).take (s.Row.toNat+(x1.Rows.length - ((aY (s.Row+1)).toNat)))).drop 0⟩:bC)}:aA)))))
def uA(b:aA)(w_:Int)(s:Sub):Option (aA×Sub):=
 (idx b.aO w_).bind fun x1=>(if s.Pc == 0 then some (b,({s with Pc:=1,E:=b.aD.aJ,Row:=0}:Sub)) else (if s.Pc == 1 then (yE x1.Rows s.Row s.E).bind fun x2=>(if decide (x2 < 0) then (bK s 0).bind fun x3=>some (b,x3) else (idx x1.Rows x2).bind fun x4=>some (b,({s with Pc:=2,Row:=x2,B:=0,H:=x4.Handle}:Sub))) else (if s.Pc == 2 then (bW s.B 0 2).bind fun x9=>(if !x9 then fP b s true else (bW s.Row 0 (aY ((x1.Rows.length:Int) - 1))).bind fun x10=>(if !x10 then fP b s true else (idx x1.Rows s.Row).bind fun x11=>fP b s (x11.Handle != s.H))) else (if s.Pc == 3 then (bW s.Row 0 (aY ((x1.Rows.length:Int) - 1))).bind fun x17=>(if !x17 then fQ b w_ s x1 true else (idx x1.Rows s.Row).bind fun x18=>(if x18.Handle != s.H then fQ b w_ s x1 true else (KV x18 s.E).bind fun x19=>fQ b w_ s x1 (!x19))) else (bK s 1).bind fun x20=>some (b,x20)))))
def AP(w_ e_:Int)(x1:aD)(x2:Bool):Option (aD×Bool):=
 (if x2 then some (x1,false) else (idx x1.b9 w_).bind fun x3=>some ((⟨x1.aJ,x1.b9.set w_.toNat (⟨true,e_,false,0⟩:pQ)⟩:aD),true))
def LG(c:aD)(w_ e_:Int):Option (aD×Bool):=
 (yD c).bind fun x1=>(oZ c).bind fun x4=>(if !x4 then AP w_ e_ x1 true else (bW w_ 0 2).bind fun x5=>(if !x5 then AP w_ e_ x1 true else (bW e_ 0 c.aJ).bind fun x6=>AP w_ e_ x1 (!x6)))
def IG(b:aA)(w_:Int)(s:Sub):Option (aA×Sub):=
 (if s.Pc == 0 then some (b,({s with Pc:=1,E:=b.aD.aJ}:Sub)) else (if s.Pc == 1 then (LG b.aD w_ s.E).bind fun x1=>(if !x1.2 then (bK s 1).bind fun x2=>some (({b with aD:=x1.1}:aA),x2) else some (({b with aD:=x1.1}:aA),({s with Pc:=2}:Sub))) else (if s.Pc == 2 then (if b.aD.aJ == s.E then (bK s 0).bind fun x3=>some (b,x3) else some (b,({s with Pc:=0}:Sub))) else (bK s 1).bind fun x4=>some (b,x4))))
def wO(b:aA)(w_:Int)(s:Sub):Option (aA×Sub):=
 (if s.cZ then some (b,s) else (if s.Kind == 1 then (AO b w_ s).bind fun x1=>some (x1.1,x1.2) else (if s.Kind == 2 then (wN b w_ s).bind fun x2=>some (x2.1,x2.2) else (if s.Kind == 3 then (tZ b s).bind fun x3=>some (x3.1,x3.2) else (if s.Kind == 4 then (uA b w_ s).bind fun x4=>some (x4.1,x4.2) else (if s.Kind == 5 then (IG b w_ s).bind fun x5=>some (x5.1,x5.2) else (bK s 1).bind fun x6=>some (b,x6)))))))
def bD(j:bE)(pc code:Int):Option bE:=
 some ({j with Pc:=pc,Code:=code}:bE)
def wP(b:List Int):Option (List Int):=
 need (([]:List Int).length+b.length<=1073741824) (some (([]:List Int)++b))
def T7(h:aC):Option aC:=
 (wP h.Bytes).bind fun x1=>(wP h.Class).bind fun x2=>some (⟨x1,x2⟩:aC)
def aF8(x5:List aR):Option (List aR):=
 some x5
def LH(l:List aR):((List aR)×Int)->Option (Step ((List aR)×Int) (List aR))
 | (x3,x4)=>(if decide (x4 < (l.length:Int)) then (idx l x4).bind fun x6=>(wP x6.aT).bind fun x7=>need (x3.length+([(⟨x7⟩:aR)]).length<=1073741824) (some (.next (x3++([(⟨x7⟩:aR)]),aY (x4+1)))) else some (.stop (x3)))
def aF9:(List aR)->Option (List aR)
 | x5=>aF8 x5
def ND(l:List aR):Option (List aR):=
 (loop (LH l) (([]:List aR),0)).bind (aF9)
def T8(l:aB):Option aB:=
 (ND l.Global).bind fun x1=>(ND l.Own).bind fun x2=>some (⟨x1,x2⟩:aB)
def T9(m:Mem):Option Mem:=
 (T7 m.aC).bind fun x1=>(T8 m.aB).bind fun x2=>some (⟨x1,x2⟩:Mem)
def KJ(slot c:Int):Option Int:=
 (wC slot c).bind fun x1=>(if decide (x1 < 0) then some (-1) else some (aY (x1+4)))
def E0(at_ x3 x4:Int)(x5:Bool):Option (Int×Int):=
 (if x5 then some (0,2) else (KJ x3 x4).bind fun x6=>some (aY (x6+at_),0))
def E1(m:Mem)(h at_ width:Int)(x1:Bool):Option (Int×Int):=
 (if x1 then some (0,1) else (oY m h).bind fun x2=>(if !x2 then some (0,4) else (fG h).bind fun x3=>(mO m.aC x3).bind fun x4=>(oX x4).bind fun x7=>(bW at_ 0 (aY (x7 - 1))).bind fun x8=>(if !x8 then E0 at_ x3 x4 true else (oX x4).bind fun x9=>E0 at_ x3 x4 (decide ((aY (x9 - at_)) < width)))))
def UA(m:Mem)(h at_ width:Int):Option (Int×Int):=
 (K9 m).bind fun x10=>(if !x10 then E1 m h at_ width true else (bW width 1 7).bind fun x11=>E1 m h at_ width (!x11))
def WS(x8:Int)(x9:List UInt8):Option (List UInt8):=
 (if decide (0 < x8) then some ([]) else some x9)
def HQ(width:Int):(Int×(List UInt8)×Int)->Option (Step (Int×(List UInt8)×Int) (Int×(List UInt8)))
 | (x5,x6,x7)=>(if decide (x7 < width) then need (([u8 (Int.tmod x5 256)]).length+x6.length<=9223372036854775807) (some (.next (aY (Int.tdiv x5 256),([u8 (Int.tmod x5 256)])++x6,aY (x7+1)))) else some (.stop ((x5,x6))))
def WT:(Int×(List UInt8))->Option (List UInt8)
 | (x8,x9)=>WS x8 x9
def N7(n width:Int)(x1:Bool):Option (List UInt8):=
 (if x1 then some ([]) else (loop (HQ width) (n,[],0)).bind (WT))
def Q1(n width:Int):Option (List UInt8):=
 (bW width 1 7).bind fun x10=>(if !x10 then N7 n width true else N7 n width (decide (n < 0)))
def E2(m:Mem)(h at_ width n:Int):Option (Mem×Int):=
 (T9 m).bind fun x1=>(UA m h at_ width).bind fun x2=>(if x2.2 != 0 then some (x1,x2.2) else (Q1 n width).bind fun x3=>(if x3 == ([]) then some (x1,1) else (xY x1.aC.Bytes x2.1 width n).bind fun x4=>some ((⟨(⟨x4,x1.aC.Class⟩:aC),x1.aB⟩:Mem),0)))
def IH(s:aG)(w_:Int)(j:bE):Option (aG×bE):=
 (if j.Pc == 0 then (wO s.aA w_ j.Sub).bind fun x1=>(if !x1.2.cZ then some (({s with aA:=x1.1}:aG),({j with Sub:=x1.2}:bE)) else (if x1.2.Code != 0 then (bD ({j with Sub:=x1.2}:bE) 9 x1.2.Code).bind fun x2=>some (({s with aA:=x1.1}:aG),x2) else (iK x1.2.Out).bind fun x3=>(if !x3 then (bD ({j with Sub:=x1.2}:bE) 9 1).bind fun x4=>some (({s with aA:=x1.1}:aG),x4) else (bD ({j with Sub:=x1.2,H:=x1.2.Out}:bE) 1 0).bind fun x5=>some (({s with aA:=x1.1}:aG),x5)))) else (if j.Pc == 1 then (E2 s.aA.Mem j.H 0 4 j.Op.dQ).bind fun x6=>(if x6.2 != 0 then (bD j 9 x6.2).bind fun x7=>some (({s with aA:=(⟨x6.1,s.aA.aD,s.aA.aO,s.aA.l7⟩:aA)}:aG),x7) else (bD j 2 0).bind fun x8=>some (({s with aA:=(⟨x6.1,s.aA.aD,s.aA.aO,s.aA.l7⟩:aA)}:aG),x8)) else (if j.Pc == 2 then (idx s.Cells j.Op.Cell).bind fun x9=>need (s.Log.length+([(⟨2,w_,j.aI,j.Op.Cell,j.H,j.Op.dQ,0⟩:Ev)]).length<=1073741824) ((if x9 == 0 then (bD ({j with Old:=x9}:bE) 9 0).bind fun x10=>some (({s with Cells:=s.Cells.set j.Op.Cell.toNat j.H,Log:=s.Log++([(⟨2,w_,j.aI,j.Op.Cell,j.H,j.Op.dQ,0⟩:Ev)])}:aG),x10) else (iH 2 x9).bind fun x11=>(bD ({j with Sub:=x11,Old:=x9}:bE) 3 0).bind fun x12=>some (({s with Cells:=s.Cells.set j.Op.Cell.toNat j.H,Log:=s.Log++([(⟨2,w_,j.aI,j.Op.Cell,j.H,j.Op.dQ,0⟩:Ev)])}:aG),x12))) else (if j.Pc == 3 then (wO s.aA w_ j.Sub).bind fun x13=>(if !x13.2.cZ then some (({s with aA:=x13.1}:aG),({j with Sub:=x13.2}:bE)) else (bD ({j with Sub:=x13.2}:bE) 9 x13.2.Code).bind fun x14=>some (({s with aA:=x13.1}:aG),x14)) else (bD j 9 1).bind fun x15=>some (s,x15)))))
def jX(s:aG)(w_:Int)(j:bE):Option aG:=
 need (s.Log.length+([(⟨3,w_,j.aI,j.Op.Cell,j.H,0,0⟩:Ev)]).length<=1073741824) (some ({s with Log:=s.Log++([(⟨3,w_,j.aI,j.Op.Cell,j.H,0,0⟩:Ev)])}:aG))
def nC(h:aC)(x at_ width x3:Int)(x4:Bool):Option (Int×Bool):=
 (if x4 then some (0,false) else (fG x).bind fun x5=>(KJ x5 x3).bind fun x6=>(wB h.Bytes (aY (x6+at_)) width).bind fun x7=>some (x7,true))
def E3(h:aC)(x at_ width:Int)(x1:Bool):Option (Int×Bool):=
 (if x1 then some (0,false) else (fG x).bind fun x2=>(mO h x2).bind fun x3=>(if decide (x3 < 0) then nC h x at_ width x3 true else (oX x3).bind fun x8=>(bW at_ 0 (aY (x8 - 1))).bind fun x9=>(if !x9 then nC h x at_ width x3 true else (oX x3).bind fun x10=>nC h x at_ width x3 (decide ((aY (x10 - at_)) < width)))))
def NF(h:aC)(x at_ width:Int):Option (Int×Bool):=
 (iK x).bind fun x11=>(if !x11 then E3 h x at_ width true else (bW width 1 7).bind fun x12=>E3 h x at_ width (!x12))
def pB(s:aG)(j:bE):Option Int:=
 (NF s.aA.Mem.aC j.H 0 4).bind fun x1=>some x1.1
def m3(j:bE)(pc:Int)(x2:Bool):Option bE:=
 (if x2 then (bD j pc 0).bind fun x3=>some x3 else (bD ({j with dQ:=0}:bE) pc 6).bind fun x4=>some x4)
def uM(s:aG)(w_:Int)(j:bE)(pc:Int):Option bE:=
 (idx s.aA.aD.b9 w_).bind fun x1=>(if x1.On then m3 j pc (!x1.dB) else m3 j pc false)
def AQ(w_:Int)(x1:aD)(x2:Bool):Option (aD×Bool):=
 (if x2 then some (x1,false) else (idx x1.b9 w_).bind fun x3=>some ((⟨x1.aJ,x1.b9.set w_.toNat (⟨false,0,false,0⟩:pQ)⟩:aD),true))
def GJ(c:aD)(w_:Int):Option (aD×Bool):=
 (yD c).bind fun x1=>(oZ c).bind fun x4=>(if !x4 then AQ w_ x1 true else (bW w_ 0 2).bind fun x5=>(if !x5 then AQ w_ x1 true else (idx c.b9 w_).bind fun x6=>AQ w_ x1 (!x6.On)))
def II(s:aG)(w_:Int)(j:bE):Option (aG×bE):=
 (if j.Pc == 0 then (wO s.aA w_ j.Sub).bind fun x1=>(if !x1.2.cZ then some (({s with aA:=x1.1}:aG),({j with Sub:=x1.2}:bE)) else (bD ({j with Sub:=x1.2}:bE) 1 0).bind fun x2=>some (({s with aA:=x1.1}:aG),x2)) else (if j.Pc == 1 then (idx s.Cells j.Op.Cell).bind fun x3=>(jX s w_ ({j with H:=x3}:bE)).bind fun x4=>(if x3 == 0 then (bD ({j with H:=x3}:bE) 4 8).bind fun x5=>some (x4,x5) else (bD ({j with H:=x3}:bE) 2 0).bind fun x6=>some (x4,x6)) else (if j.Pc == 2 then (pB s j).bind fun x7=>(bD ({j with dQ:=x7}:bE) 3 0).bind fun x8=>some (s,x8) else (if j.Pc == 3 then (uM s w_ j 4).bind fun x9=>some (s,x9) else (if j.Pc == 4 then (GJ s.aA.aD w_).bind fun x10=>(bD j 9 j.Code).bind fun x11=>some (({s with aA:=(⟨s.aA.Mem,x10.1,s.aA.aO,s.aA.l7⟩:aA)}:aG),x11) else (bD j 9 1).bind fun x12=>some (s,x12))))))
def uB(w_ h:Int)(x1:(List Int))(x2:Bool):Option ((List Int)×Bool):=
 (if x2 then some (x1,false) else (idx x1 w_).bind fun x3=>some (x1.set w_.toNat h,true))
def E4(z:List Int)(w_ h:Int):Option ((List Int)×Bool):=
 (wP z).bind fun x1=>(GI z).bind fun x4=>(if !x4 then uB w_ h x1 true else (bW w_ 0 2).bind fun x5=>(if !x5 then uB w_ h x1 true else (iK h).bind fun x6=>uB w_ h x1 (!x6)))
def AR(w_:Int)(x1:(List Int))(x2:Bool):Option ((List Int)×Bool):=
 (if x2 then some (x1,false) else (idx x1 w_).bind fun x3=>some (x1.set w_.toNat 0,true))
def LI(z:List Int)(w_:Int):Option ((List Int)×Bool):=
 (wP z).bind fun x1=>(GI z).bind fun x4=>(if !x4 then AR w_ x1 true else (bW w_ 0 2).bind fun x5=>(if !x5 then AR w_ x1 true else (idx z w_).bind fun x6=>AR w_ x1 (x6 == 0)))
def IJ(s:aG)(w_:Int)(j:bE):Option (aG×bE):=
 (if j.Pc == 0 then (idx s.Cells j.Op.Cell).bind fun x1=>(if x1 == 0 then (jX s w_ ({j with H:=x1}:bE)).bind fun x2=>(bD ({j with H:=x1}:bE) 4 8).bind fun x3=>some (x2,x3) else (bD ({j with H:=x1}:bE) 1 0).bind fun x4=>some (s,x4)) else (if j.Pc == 1 then (E4 s.aA.l7 w_ j.H).bind fun x5=>(bD j 2 0).bind fun x6=>some (({s with aA:=(⟨s.aA.Mem,s.aA.aD,s.aA.aO,x5.1⟩:aA)}:aG),x6) else (if j.Pc == 2 then (idx s.Cells j.Op.Cell).bind fun x7=>(if x7 != j.H then (bD j 0 0).bind fun x8=>some (s,x8) else (jX s w_ j).bind fun x9=>(bD j 3 0).bind fun x10=>some (x9,x10)) else (if j.Pc == 3 then (pB s j).bind fun x11=>(bD ({j with dQ:=x11}:bE) 4 0).bind fun x12=>some (s,x12) else (if j.Pc == 4 then (LI s.aA.l7 w_).bind fun x13=>(bD j 9 j.Code).bind fun x14=>some (({s with aA:=(⟨s.aA.Mem,s.aA.aD,s.aA.aO,x13.1⟩:aA)}:aG),x14) else (bD j 9 1).bind fun x15=>some (s,x15))))))
def E5(s:aG)(w_:Int)(j:bE):Option (aG×bE):=
 (idx s.aA.aD.b9 w_).bind fun x1=>(if j.Pc == 0 then (if !x1.On then (bD j 9 5).bind fun x2=>some (s,x2) else (if x1.dB then (bD j 9 6).bind fun x3=>some (s,x3) else (idx s.Cells j.Op.Cell).bind fun x4=>(jX s w_ ({j with H:=x4}:bE)).bind fun x5=>(if x4 == 0 then (bD ({j with H:=x4}:bE) 9 8).bind fun x6=>some (x5,x6) else (bD ({j with H:=x4}:bE) 1 0).bind fun x7=>some (x5,x7)))) else (if j.Pc == 1 then (pB s j).bind fun x8=>(bD ({j with dQ:=x8}:bE) 2 0).bind fun x9=>some (s,x9) else (if j.Pc == 2 then (uM s w_ j 9).bind fun x10=>some (s,x10) else (bD j 9 1).bind fun x11=>some (s,x11))))
def iO(s:aG)(w_:Int)(j:bE)(x5:Bool):Option (aG×bE):=
 (if x5 then (bD j 9 1).bind fun x6=>some (s,x6) else (wO s.aA w_ j.Sub).bind fun x7=>(if !x7.2.cZ then some (({s with aA:=x7.1}:aG),({j with Sub:=x7.2}:bE)) else (if j.Op.Kind == 5 then (bD ({j with Sub:=x7.2}:bE) 9 x7.2.Code).bind fun x8=>some (({s with aA:=x7.1}:aG),x8) else (if j.Pc == 0 then (iH 4 0).bind fun x9=>(bD ({j with Sub:=x9}:bE) 1 0).bind fun x10=>some (({s with aA:=x7.1}:aG),x10) else (bD ({j with Sub:=x7.2,dQ:=x7.2.Out}:bE) 9 x7.2.Code).bind fun x11=>some (({s with aA:=x7.1}:aG),x11)))))
def yF(s:aG)(w_:Int)(j:bE)(x1:Bool):Option (aG×bE):=
 (if x1 then (GJ s.aA.aD w_).bind fun x2=>(if !x2.2 then (bD j 9 5).bind fun x3=>some (({s with aA:=(⟨s.aA.Mem,x2.1,s.aA.aO,s.aA.l7⟩:aA)}:aG),x3) else (bD j 9 0).bind fun x4=>some (({s with aA:=(⟨s.aA.Mem,x2.1,s.aA.aO,s.aA.l7⟩:aA)}:aG),x4)) else (if j.Op.Kind == 6 then iO s w_ j true else (if j.Pc != 0 then (if j.Pc != 1 then iO s w_ j true else iO s w_ j (j.Op.Kind == 5)) else iO s w_ j false)))
def AS(s:aG)(w_:Int)(j:bE):Option (aG×bE):=
 (if j.Op.Kind == 6 then yF s w_ j (j.Pc == 0) else yF s w_ j false)
def cJ(w_:Int)(x3:aG)(x4:bE):Option aG:=
 (idx x3.aX w_).bind fun x5=>some ({x3 with aX:=x3.aX.set w_.toNat x4}:aG)
def Q2(s:aG)(w_:Int):Option aG:=
 (idx s.aX w_).bind fun x1=>(if !x1.eT then (AM s w_).bind fun x2=>some x2 else (if x1.Pc == 9 then need (s.Log.length+([(⟨4,w_,x1.aI,x1.Op.Cell,x1.H,x1.dQ,x1.Code⟩:Ev)]).length<=1073741824) (some ({s with aX:=s.aX.set w_.toNat (⟨false,(⟨0,0,0,0⟩:dY),0,0,(⟨0,0,0,0,0,0,0,0,0,false⟩:Sub),0,0,0,0⟩:bE),Log:=s.Log++([(⟨4,w_,x1.aI,x1.Op.Cell,x1.H,x1.dQ,x1.Code⟩:Ev)])}:aG)) else (if x1.Op.Kind == 1 then (IH s w_ x1).bind fun x6=>cJ w_ x6.1 x6.2 else (if x1.Op.Kind == 2 then (II s w_ x1).bind fun x7=>cJ w_ x7.1 x7.2 else (if x1.Op.Kind == 3 then (IJ s w_ x1).bind fun x8=>cJ w_ x8.1 x8.2 else (if x1.Op.Kind == 7 then (E5 s w_ x1).bind fun x9=>cJ w_ x9.1 x9.2 else (AS s w_ x1).bind fun x10=>cJ w_ x10.1 x10.2))))))
end
end Go.Gv
end
