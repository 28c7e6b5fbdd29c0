import Derived.Test.YtbdmodalljibjaaGreatXRB
set_option linter.unusedVariables false
set_option linter.unusedSimpArgs false
set_option linter.unusedSectionVars false
set_option linter.constructorNameAsVariable false
set_option linter.unnecessarySimpa false
noncomputable section
namespace Go.Gv
universe u
theorem Q{α:Sort u}{a:α}:a=a:=Eq.refl a
def W{ρ:Type}(C:Prop)(r:ρ)(F:Option ρ):Prop:=F=some r→C
theorem wm{ρ:Type}{C:Prop}{r:ρ}{F F':Option ρ}(h:F'=F)(k:W C r F):W C r F':=h ▸ k
theorem wi{ρ:Type}{C:Prop}{r:ρ}{F:Option ρ}(h:F=some r)(k:W C r F):C:=k h
def VS(P:Program)(c:Ctx)(f:FuncId){ρ ex:Type}(F:Option ρ)(xs:List SV)(B0:Bl)(L0:List Ch)(sv:ρ→ex→SV)(Lf:ρ→ex→List Ch):Prop:=∀r,F=some r→FnS P f c xs B0 L0 sv Lf r
abbrev V0(P:Program)(c:Ctx)(f:FuncId){ρ:Type}(F:Option ρ)(xs:List SV)(sv:ρ→SV):Prop:=VS P c f F xs [] [] (fun r (_:Unit)=>sv r) (fun _ _=>[])
theorem VS.r{P:Program}{c:Ctx}{f:FuncId}{ρ ex:Type}{F:Option ρ}{xs:List SV}{B0:Bl}{L0:List Ch}{sv:ρ→ex→SV}{Lf:ρ→ex→List Ch}(h:VS P c f F xs B0 L0 sv Lf){r:ρ}(hF:F=some r):FnS P f c xs B0 L0 sv Lf r:=h r hF
def QR(P:Program)(fn:Func){rs:List ResultVar}(_:fn.results=rs.toArray)(c:Ctx)(B0:Bl){ρ ex:Type}(sv:ρ→ex→SV)(Lf:ρ→ex→List Ch)(r:ρ):Act→World→Prop:=QS P fn c B0 sv Lf r
def aP0(T:TT)(rs:List ResultVar)(is:List Nat)(b0:Nat)(L2:List Ch):Stop→Option (SV×List Ch)
  | .ret m e L => match aFU T e L rs with
    | some x => match FX b0 (nbS x) with
      | true => match O7 b0 m e L is b0 [] L2 with
        | some ([],L3)=>some (nbS x,L3)
        | _=>none
      | false=>none
    | none=>none
  | _=>none
def aMI(is:List Nat)(b0 mj:Nat)(ej:SE)(Lj:List Ch):Stop→Option (SE×List Ch)
  | .fin m e L=>O7 b0 m e L is mj ej Lj
  | _=>none
def exQ(is:List Nat)(id b0 mj:Nat)(ej:SE)(Lj:List Ch):Stop→Option (SE×List Ch)
  | .ex i m e L => match Nat.beq i id with
    | true=>O7 b0 m e L is mj ej Lj
    | false=>none
  | _=>none
def aWO:Stop→Stop
  | .fin m e L=>.ret m e L
  | _=>.stuck
def ixT(T:TT)(t n:Nat):Bool:=match CN T t with
  | some ⟨.sl el, _, _, _⟩ => match CN T el with
    | some ⟨_,_,sz,_⟩=>Nat.beq n sz
    | none=>false
  | _=>false
noncomputable section
variable {P:Program} {T:TT} {hT:F5 P T} {n:Nat} {c:Ctx} {B0:Bl} {N:Act→World→Prop} {X:Nat→Act→World→Prop} {Q:Act→World→Prop} {K K':List Fr} {m m':Nat} {e e':SE} {L L' Lv:List Ch} {cf cf' cf1 cf2:vS} {o:Oper}
theorem cK(hT:F5 P T){f:FuncId}{fn:Func}{cd:Code}{xs:List SV}{L0:List Ch}{ρ ex:Type}{sv:ρ→ex→SV}{Lf:ρ→ex→List Ch}{F:Option ρ}{rs:List ResultVar}(hc:∀args w,(callFunc f args).run P w=.ok (.enter f args) w)(hf:P.funcs[f]?=some fn)(hr:fn.results=rs.toArray)(hb:fn.body=some cd)(hm:fn.ntmps=n)
    (k:∀{r},W (G (.mk P T hT n c B0 (QR P fn hr c B0 sv Lf r) (fun _ _ _=>False) (QR P fn hr c B0 sv Lf r)) [] B0.length (aEU 0 xs) L0 (.c cd)) r F) (hl:Nat.ble xs.length n=true:=by exact rfl):VS P c f F xs B0 L0 sv Lf:=
  fun _ hF=>en n hc hf hT hb hm hl (k hF)
theorem aLJ{rs:List ResultVar}{is:List Nat}{b0:Nat}{L2 L3:List Ch}{s:SV}{st:Stop}(h:aP0 T rs is b0 L2 st=some (s,L3)):∃m' e' L' x,st=.ret m' e' L'∧aFU T e' L' rs=some x∧nbS x=s∧FX b0 s=true∧O7 b0 m' e' L' is b0 [] L2=some ([],L3):=by
  unfold aP0 at h
  split at h
  · split at h
    · rename_i h1
      split at h
      · rename_i h2
        split at h
        · rename_i h3
          cases h
          exact⟨_,_,_,_,rfl,h1,rfl,h2,h3⟩
        · cases h
      · cases h
    · cases h
  · cases h
theorem dT{fn:Func}{ρ ex:Type}{sv:ρ→ex→SV}{Lf:ρ→ex→List Ch}{r r':ρ}{rs:List ResultVar}{hr:fn.results=rs.toArray}{zz:Option ρ}(y:ex)(is:List Nat)(hz:zz=some r')(h:aP0 T rs is B0.length (Lf r' y) (kS T n K cf m e L)=some (sv r' y,Lf r' y)):W (G (.mk P T hT n c B0 N X (QR P fn hr c B0 sv Lf r)) K m e L cf) r zz:=fun hF=>by
  obtain⟨_,_,_,_,h1,h2,h3,h4,h5⟩:=aLJ h
  exact rt y is hF hz h1 hr h2 h3 h4 h5
theorem cO{fn:Func}{ρ:Type}{sv:ρ→Unit→SV}{Lf:ρ→Unit→List Ch}{r r':ρ}{rs:List ResultVar}{hr:fn.results=rs.toArray}{zz:Option ρ}(hz:zz=some r')(h:aP0 T rs [] B0.length (Lf r' ()) (kS T n K cf m e L)=some (sv r' (),Lf r' ())):W (G (.mk P T hT n c B0 N X (QR P fn hr c B0 sv Lf r)) K m e L cf) r zz:=dT () [] hz h
theorem LH{fn:Func}{ρ ex:Type}{sv:ρ→ex→SV}{Lf:ρ→ex→List Ch}{r r':ρ}{rs:List ResultVar}{hr:fn.results=rs.toArray}{zz:Option ρ}(y:ex)(is:List Nat)(hz:zz=some r')(h:aP0 T rs is B0.length (Lf r' y) (aWO (kS T n K cf m e L))=some (sv r' y,Lf r' y)):W (G (.mk P T hT n c B0 (QR P fn hr c B0 sv Lf r) X Q) K m e L cf) r zz:=fun hF=>by
  obtain⟨m',e',L',_,h1,h2,h3,h4,h5⟩:=aLJ h
  refine rf y is hF hz (m':=m') (e':=e') (L':=L') ?_ hr h2 h3 h4 h5
  unfold aWO at h1
  split at h1
  · rename_i h0;rw [h0];cases h1;rfl
  · cases h1
theorem aLK{is:List Nat}{b0 mj:Nat}{ej e3:SE}{Lj L3:List Ch}{st:Stop}(h:aMI is b0 mj ej Lj st=some (e3,L3)):∃m' e' L',st=.fin m' e' L'∧O7 b0 m' e' L' is mj ej Lj=some (e3,L3):=by
  unfold aMI at h
  split at h
  · exact⟨_,_,_,rfl,h⟩
  · cases h
theorem fA{π υ α:Type}{eq:π→Prop}{mj:Nat}{ej:π→υ→SE}{Lj:π→υ→List Ch}{p:π}{q:α}{zz:Option α}(u:υ)(is:List Nat)(hz:(zz=some q)=eq p)(h:aMI is B0.length mj (ej p u) (Lj p u) (kS T n K cf m e L)=some (ej p u,Lj p u)):W (G (.mk P T hT n c B0 (JP n c B0 eq mj ej Lj) X Q) K m e L cf) q zz:=fun hF=>by
  obtain⟨_,_,_,h1,h2⟩:=aLK h
  exact jn u is (hz ▸ hF) h1 h2
theorem bS{π α:Type}{eq:π→Prop}{mj:Nat}{ej:π→Unit→SE}{Lj:π→Unit→List Ch}{p:π}{q:α}{zz:Option α}(is:List Nat)(hz:(zz=some q)=eq p)(h:aMI is B0.length mj (ej p ()) (Lj p ()) (kS T n K cf m e L)=some (ej p (),Lj p ())):W (G (.mk P T hT n c B0 (JP n c B0 eq mj ej Lj) X Q) K m e L cf) q zz:=fA () is hz h
theorem VU{σ ρ υ:Type}{o:Step σ ρ}{mj:Nat}{el:σ→υ→SE}{Ll:σ→υ→List Ch}{s:σ}(u:υ)(is:List Nat)(h:aMI is B0.length mj (el s u) (Ll s u) (kS T n K cf m e L)=some (el s u,Ll s u)):W (G (.mk P T hT n c B0 (NxP n c B0 o mj el Ll) X Q) K m e L cf) o (some (Step.next s)):=fun hF=>by
  obtain⟨_,_,_,h1,h2⟩:=aLK h
  exact nx u is hF h1 h2
theorem CI{σ ρ:Type}{o:Step σ ρ}{mj:Nat}{el:σ→Unit→SE}{Ll:σ→Unit→List Ch}{s:σ}(is:List Nat)(h:aMI is B0.length mj (el s ()) (Ll s ()) (kS T n K cf m e L)=some (el s (),Ll s ())):W (G (.mk P T hT n c B0 (NxP n c B0 o mj el Ll) X Q) K m e L cf) o (some (Step.next s)):=VU () is h
def BkR(n:Nat)(c:Ctx)(B0:Bl){β ρ σ υ:Type}{o:Step σ ρ}{ro:ρ}(_:∀p,o=.stop p→p=ro)(enc:β→ρ)(m:Nat)(ej:β→υ→SE)(Lj:β→υ→List Ch)(id:Nat)(X:Nat→Act→World→Prop):Nat→Act→World→Prop:=BkP n c B0 ro enc m ej Lj id X
theorem W6{σ ρ β υ:Type}{o:Step σ ρ}{ro:ρ}{enc:β→ρ}{mj id:Nat}{ej:β→υ→SE}{Lj:β→υ→List Ch}{b:β}{hr:∀p,o=.stop p→p=ro}(u:υ)(is:List Nat)(h:exQ is id B0.length mj (ej b u) (Lj b u) (kS T n K cf m e L)=some (ej b u,Lj b u)):W (G (.mk P T hT n c B0 N (BkR n c B0 hr enc mj ej Lj id X) Q) K m e L cf) o (some (Step.stop (enc b))):=fun hF=>by
  unfold exQ at h
  split at h
  · rename_i h0
    split at h
    · rename_i hb
      rw [Nat.eq_of_beq_eq_true hb] at h0
      exact bk u is hF hr h0 h
    · cases h
  · cases h
theorem CM{σ ρ β:Type}{o:Step σ ρ}{ro:ρ}{enc:β→ρ}{mj id:Nat}{ej:β→Unit→SE}{Lj:β→Unit→List Ch}{b:β}{hr:∀p,o=.stop p→p=ro}(is:List Nat)(h:exQ is id B0.length mj (ej b ()) (Lj b ()) (kS T n K cf m e L)=some (ej b (),Lj b ())):W (G (.mk P T hT n c B0 N (BkR n c B0 hr enc mj ej Lj id X) Q) K m e L cf) o (some (Step.stop (enc b))):=W6 () is h
theorem DE{σ ρ α:Type}{o:Step σ ρ}{p ro:ρ}{F:ρ→Option α}{q:α}{C:Prop}(hr:∀p,o=.stop p→p=ro)(hF:F ro=some q)(k:W C q (F p)):W C o (some (Step.stop p)):=fun h=>k (re h rfl hr hF)
noncomputable section
variable {b:Bool} {α:Type} {A B':Option α} {q:α}
theorem aY{o:Operand}{x y:Code}(ss:List Nat)(hs:kS T n K cf m e L=.cond o b x y K' m' e' L')(ho:a8 (zN e') ss=some (ss.map fun _=>SV.b b))
    (k1:W (G (.mk P T hT n c B0 N X Q) K' m' (ovr true e' ss) L' (.c x)) q A) (k2:W (G (.mk P T hT n c B0 N X Q) K' m' (ovr false e' ss) L' (.c y)) q B'):W (G (.mk P T hT n c B0 N X Q) K m e L cf) q (if b=true then A else B'):=fun hF=>cs ss hs ho hF k1 k2
theorem aH5{o:Operand}{x y:Code}(ss:List Nat)(hs:kS T n K cf m e L=.cond o b x y K' m' e' L')(ho:a8 (zN e') ss=some (ss.map fun _=>SV.b b))
    (k1:b=true→W (G (.mk P T hT n c B0 N X Q) K' m' (ovr true e' ss) L' (.c x)) q A) (k2:b=false→W (G (.mk P T hT n c B0 N X Q) K' m' (ovr false e' ss) L' (.c y)) q B'):W (G (.mk P T hT n c B0 N X Q) K m e L cf) q (if b=true then A else B'):=fun hF=>csK ss hs ho hF k1 k2
theorem dS(ss:List Nat)(hs:kS T n K cf m e L=.case b cf' K' m' e' L')(ho:a8 (zN e') ss=some (ss.map fun _=>SV.b b))
    (k1:W (G (.mk P T hT n c B0 N X Q) K' m' (ovr true e' ss) L' cf') q A) (k2:W (G (.mk P T hT n c B0 N X Q) K' m' (ovr false e' ss) L' cf') q B'):W (G (.mk P T hT n c B0 N X Q) K m e L cf) q (if b=true then A else B'):=fun hF=>ca ss hs ho hF k1 k2
theorem aH6(ss:List Nat)(hs:kS T n K cf m e L=.case b cf' K' m' e' L')(ho:a8 (zN e') ss=some (ss.map fun _=>SV.b b))
    (k1:b=true→W (G (.mk P T hT n c B0 N X Q) K' m' (ovr true e' ss) L' cf') q A) (k2:b=false→W (G (.mk P T hT n c B0 N X Q) K' m' (ovr false e' ss) L' cf') q B'):W (G (.mk P T hT n c B0 N X Q) K m e L cf) q (if b=true then A else B'):=fun hF=>caK ss hs ho hF k1 k2
end
noncomputable section
variable {α β:Type} {fo:Option α} {kf:α→Option β} {q:β} {d:Nat} {f:FuncId} {xs:List SV}
theorem c0{sv:α→SV}(hs:kS T n K cf m e L=.call o (some d) f xs cf1 cf2 K' m' e' L')
    (hc:∀{w},HS c w L'→V0 P (dA w) f fo xs sv) (k:∀x,W (G (.mk P T hT n c B0 N X Q) K' m' ((d,sv x) :: e') L' cf2) q (kf x)):W (G (.mk P T hT n c B0 N X Q) K m e L cf) q (fo.bind kf):=fun hF=>cl0 hs (fun h _ hx=>hc h _ hx) hF fun x _ h=>k x h
theorem c1{ex:Type}{sv:α→ex→SV}{Lf:α→ex→List Ch}(hs:kS T n K cf m e L=.call o (some d) f xs cf1 cf2 K' m' e' L')
    (hc:∀{w},HS c w L'→VS P (dA w) f fo xs [] [] sv Lf) (k:∀x,∀y:ex,W (G (.mk P T hT n c B0 N X Q) K' m' ((d,sv x y) :: e') (L'++Lf x y) cf2) q (kf x)) (hn:∀x y,noF (Lf x y)=true:=by exact fun _ _=>rfl):W (G (.mk P T hT n c B0 N X Q) K m e L cf) q (fo.bind kf):=fun hF=>cl hs hn (fun h _ hx=>hc h _ hx) hF fun x _ h y=>k x y h
theorem zP{β:Type}{kf:α→Option β}{q:β}{iR:aM α}(C:KG α){d t:Nat}{s:AC}{i:Int}{ls:List α}(hs:kS T n K cf m e L=.idx o d t s ls.length i Lv cf1 cf2 K' m' e' L')(h1:a9 c s ls)(ht:ixT T t (aM.n α)=true)
    (k:∀x,∀y:C.ex,C.sub c.S0 c.w0 x y→W (G (.mk P T hT n c B0 N X Q) K' (m'+1) ((d,.p m' 0) :: e') (L' ++ [.ro m' (C.cs x y)]) (cf2.ext [.ro m' (C.cs x y)])) q (kf x)):W (G (.mk P T hT n c B0 N X Q) K m e L cf) q ((idx ls i).bind kf):=fun hF=>by
  unfold ixT at ht
  split at ht
  · rename_i h2
    split at ht
    · rename_i h3
      exact ix C hs h1 hF h2 h3 (Nat.eq_of_beq_eq_true ht) fun x _ h y hy=>k x y hy h
    · cases ht
  · cases ht
theorem RM{β:Type}{kf:Int→Option β}{q:β}{d t:Nat}{s:AC}{i:Int}{ls:List Int}(hs:kS T n K cf m e L=.idx o d t s ls.length i Lv cf1 cf2 K' m' e' L')(h1:a9 c s ls)(ht:ixT T t 1=true)
    (k:∀x,W (G (.mk P T hT n c B0 N X Q) K' (m'+1) ((d,.p m' 0) :: e') (L' ++ [.ro m' [.i .i64 x]]) (cf2.ext [.ro m' [.i .i64 x]])) q (kf x)):W (G (.mk P T hT n c B0 N X Q) K m e L cf) q ((idx ls i).bind kf):=zP cI hs h1 ht fun x _ _=>k x
theorem dP(hm:P.follows .mixedOrders=true){id:Nat}{ops:Array Oper}{zz:Option β}(is:List Nat)(hs:kS T n K cf m e L=.rgn id ops K' m' e' L')
    (k:∀{B1},W (G (.mk P T hT n c B0 N X Q) K' m' e' L' (.d B1 ops (List.replicate ops.size false) is (kl L' is) (kl L' is))) q zz) (hf:(aHN ops && (okL m' (kl L' is) && (dJ is && is.all fun j=>Nat.blt j L'.length)))=true:=by kernel_rfl):W (G (.mk P T hT n c B0 N X Q) K m e L cf) q zz:=fun hF=>dr is hs hm hf fun _=>k hF
theorem dO{π υ:Type}{zz:Option β}(j mj:Nat)(Fj:π→Option β)(ks:List Nat)(ej:π→υ→SE)(is:List Nat)(Lj:π→υ→List Ch)(hs:SS (kS T n K cf m e L)=some (K',cf',m',e',L'))
    (k1:W (G (.mk P T hT n c B0 (JP n c B0 (fun p=>Fj p=some q) mj (fun p u=>ej p u++kp e' ks) (fun p u=>Lj p u++kl L' is)) (XK (.mk P T hT n c B0 N X Q) (K'.drop j)) Q) (K'.take j) m' e' L' cf') q zz)
    (k2:∀p u,W (G (.mk P T hT n c B0 N X Q) (K'.drop j) mj (ej p u++kp e' ks) (Lj p u++kl L' is) .n) q (Fj p)):W (G (.mk P T hT n c B0 N X Q) K m e L cf) q zz:=fun hF=>cut j mj (fun p=>Fj p=some q) ks ej is Lj hs (k1 hF) fun p u h=>k2 p u h
theorem cY{zz:Option β}(j mj:Nat)(Fj:Bool→Option β)(ks:List Nat)(v:Nat)(is:List Nat)(hs:SS (kS T n K cf m e L)=some (K',cf',m',e',L'))
    (k1:W (G (.mk P T hT n c B0 (JP n c B0 (fun p=>Fj p=some q) mj (fun p (_:Unit)=>[(v,.b p)]++kp e' ks) (fun _ _=>[]++kl L' is)) (XK (.mk P T hT n c B0 N X Q) (K'.drop j)) Q) (K'.take j) m' e' L' cf') q zz)
    (k2:∀p,W (G (.mk P T hT n c B0 N X Q) (K'.drop j) mj ([(v,.b p)]++kp e' ks) ([]++kl L' is) .n) q (Fj p)):W (G (.mk P T hT n c B0 N X Q) K m e L cf) q zz:=dO j mj Fj ks (fun p (_:Unit)=>[(v,.b p)]) is (fun _ _=>[]) hs k1 fun p _=>k2 p
theorem O2{σ ρ υ γ ω:Type}{id:Nat}{y:Code}{fb:σ→Option (Step σ ρ)}{s0:σ}{gk:ρ→Option β}(u0:υ)(ks:List Nat)(el:σ→υ→SE)(is0 is:List Nat)(Ll:σ→υ→List Ch)(enc:γ→ρ)(kb:List Nat)(ej:γ→ω→SE)(ib:List Nat)(Lj:γ→ω→List Ch)
    (hs:kS T n K cf m e L=.loop id y K' m' e' L')
    (h0:O7 B0.length m' e' L' is0 m' (el s0 u0++kp e' ks) (Ll s0 u0++kl L' is)=some (el s0 u0++kp e' ks,Ll s0 u0++kl L' is))
    (k1:∀{ro o},gk ro=some q→∀s u,(hr:∀p,o=.stop p→p=ro)→W (G (.mk P T hT n c B0 (NxP n c B0 o m' (fun s u=>el s u++kp e' ks) (fun s u=>Ll s u++kl L' is)) (BkR n c B0 hr enc m' (fun b u=>ej b u++kp e' kb) (fun b u=>Lj b u++kl L' ib) id (XK (.mk P T hT n c B0 N X Q) K')) Q) [] m' (el s u++kp e' ks) (Ll s u++kl L' is) (.c y)) o (fb s))
    (k2:∀b u,W (G (.mk P T hT n c B0 N X Q) K' m' (ej b u++kp e' kb) (Lj b u++kl L' ib) .n) q (gk (enc b))):W (G (.mk P T hT n c B0 N X Q) K m e L cf) q ((loop fb s0).bind gk):=fun hF=>
  lp u0 ks el is0 is Ll enc kb ej ib Lj hs hF h0 (fun ro h1 s u o h2 h3=>k1 h1 s u h3 h2) fun b u h=>k2 b u h
theorem HB{ρ:Type}{id:Nat}{y:Code}{fb:Int→Option (Step Int ρ)}{s0:Int}{gk:ρ→Option β}(v:Nat)(ks:List Nat)(is:List Nat)(enc:Unit→ρ)(kb:List Nat)(ib:List Nat)
    (hs:kS T n K cf m e L=.loop id y K' m' e' L')
    (h0:O7 B0.length m' e' L' is m' ([(v,.i .i64 s0)]++kp e' ks) ([]++kl L' is)=some ([(v,.i .i64 s0)]++kp e' ks,[]++kl L' is))
    (k1:∀{ro o},gk ro=some q→∀s,(hr:∀p,o=.stop p→p=ro)→W (G (.mk P T hT n c B0 (NxP n c B0 o m' (fun s (_:Unit)=>[(v,.i .i64 s)]++kp e' ks) (fun _ _=>[]++kl L' is)) (BkR n c B0 hr enc m' (fun _ (_:Unit)=>[]++kp e' kb) (fun _ _=>[]++kl L' ib) id (XK (.mk P T hT n c B0 N X Q) K')) Q) [] m' ([(v,.i .i64 s)]++kp e' ks) ([]++kl L' is) (.c y)) o (fb s))
    (k2:W (G (.mk P T hT n c B0 N X Q) K' m' ([]++kp e' kb) ([]++kl L' ib) .n) q (gk (enc ()))):W (G (.mk P T hT n c B0 N X Q) K m e L cf) q ((loop fb s0).bind gk):=
  O2 () ks (fun s (_:Unit)=>[(v,.i .i64 s)]) is is (fun _ _=>[]) enc kb (fun _ (_:Unit)=>[]) ib (fun _ _=>[]) hs h0 (fun h s _ hr=>k1 h s hr) fun _ _=>k2
theorem gQ{β:Type}{kf:α→Option β}{q:β}[aM α](E:CO α)(j:Nat){t:TypeId}{s:AC}{i:Int}{ls:List α}(hs:kS T n K cf m e L=.idx o d t s ls.length i Lv cf1 cf2 K' m' e' L')(hj:L'[j]?=some (ow s ls))(hz:fC j cf1.CK=true)
    (k:∀x,idx ls i=some x→∀y:E.ex,Shp s ls.length→W (G (.mk P T hT n c B0 N X Q) K' (m'+1) e' (L'.set j .no++([.o (sJ (s.v ls.length) ls i.toNat),.box m' (E.cs x y),wOf α m' s ls.length i.toNat]++E.Lx x y)) (cf1.ext [wOf α m' s ls.length i.toNat])) q (kf x)):W (G (.mk P T hT n c B0 N X Q) K m e L cf) q ((idx ls i).bind kf):=fun hF=>oe E j hs hj hz hF fun x h1 h2 y h3=>k x h1 y h3 h2
end
noncomputable section
variable {α β ex:Type} {fo:Option α} {kf:α→Option β} {q:β} {d:Option Nat} {f:FuncId} {xs xs0:List SV} {M:List Ch} {sv:α→ex→SV} {Lr:α→ex→List Ch}
theorem jQ(is:List Nat)
    (hs:cpS (kS T n K cf m e L)=some (o,d,f,xs,cf1,cf2,K',m',e',L')) (hi:a8 (fun i=>L'[i]?) is=some M) (hx:a8 (rnP [] 0) xs=some xs0)
    (hk:(PA M && (dJ is && is.all fun j=>fC j cf1.CK))=true)
    (hc:∀{κ:Ctx},HG c κ L' is→VS P κ f fo xs0 [] M sv Lr)
    (k:∀x,∀y:ex,W (G (.mk P T hT n c B0 N X Q) K' m' (dse d (sv x y) e') (E6 L' is++Lr x y) cf2) q (kf x)) (hn:∀x y,(PA (Lr x y) && FX 0 (sv x y))=true:=by exact fun _ _=>rfl):W (G (.mk P T hT n c B0 N X Q) K m e L cf) q (fo.bind kf):=fun hF=>
  cw0 is hs hi hx hk hn (fun h _ hx=>hc h _ hx) hF fun x _ h y=>k x y h
theorem bD{c1:List SV}{a1:α→ex→List SV}(i1 n1 o1 k1:Nat)(is:List Nat)
    (hs:cpS (kS T n K cf m e L)=some (o,d,f,xs,cf1,cf2,K',m',e',L')) (hb:aHX L' [(i1,n1,o1,k1)]=some [c1]) (hi:a8 (fun i=>L'[i]?) is=some M) (hx:a8 (rnP [(i1,n1,o1,k1)] 0) xs=some xs0)
    (hk:(PA M && ([c1].all (FX.okC 0) && (dJ (i1 :: is) && (i1 :: is).all fun j=>fC j cf1.CK)))=true)
    (hc:∀{κ:Ctx},HG c κ L' (i1 :: is)→∀{b1:Nat×Nat},VS P κ f fo xs0 [b1] (.box 0 c1 :: M) sv (fun x y=>.box 0 (a1 x y) :: Lr x y))
    (k:∀x,∀y:ex,W (G (.mk P T hT n c B0 N X Q) K' m' (dse d (sv x y) e') (MO L' (E6 L' (i1 :: is)++Lr x y) [(i1,n1,o1,k1)] [a1 x y]) cf2) q (kf x)) (hn:∀x y,(aAH [(i1,n1,o1,k1)] [a1 x y] && ([a1 x y].all (FX.okC 0) && (PA (Lr x y) && FX 0 (sv x y))))=true:=by exact fun _ _=>rfl):W (G (.mk P T hT n c B0 N X Q) K m e L cf) q (fo.bind kf):=fun hF=>
  cw1 i1 n1 o1 k1 is hs hb hi hx hk hn (fun h _ _ hx=>hc h _ hx) hF fun x _ h y=>k x y h
theorem XI{c1 c2:List SV}{a1 a2:α→ex→List SV}(i1 n1 o1 k1:Nat)(i2 n2 o2 k2:Nat)(is:List Nat)
    (hs:cpS (kS T n K cf m e L)=some (o,d,f,xs,cf1,cf2,K',m',e',L')) (hb:aHX L' [(i1,n1,o1,k1),(i2,n2,o2,k2)]=some [c1,c2]) (hi:a8 (fun i=>L'[i]?) is=some M) (hx:a8 (rnP [(i1,n1,o1,k1),(i2,n2,o2,k2)] 0) xs=some xs0)
    (hk:(PA M && ([c1,c2].all (FX.okC 0) && (dJ (i1 :: i2 :: is) && (i1 :: i2 :: is).all fun j=>fC j cf1.CK)))=true)
    (hc:∀{κ:Ctx},HG c κ L' (i1 :: i2 :: is)→∀{b1 b2:Nat×Nat},VS P κ f fo xs0 [b1,b2] (.box 0 c1 :: .box 1 c2 :: M) sv (fun x y=>.box 0 (a1 x y) :: .box 1 (a2 x y) :: Lr x y))
    (k:∀x,∀y:ex,W (G (.mk P T hT n c B0 N X Q) K' m' (dse d (sv x y) e') (MO L' (E6 L' (i1 :: i2 :: is)++Lr x y) [(i1,n1,o1,k1),(i2,n2,o2,k2)] [a1 x y,a2 x y]) cf2) q (kf x)) (hn:∀x y,(aAH [(i1,n1,o1,k1),(i2,n2,o2,k2)] [a1 x y,a2 x y] && ([a1 x y,a2 x y].all (FX.okC 0) && (PA (Lr x y) && FX 0 (sv x y))))=true:=by exact fun _ _=>rfl):W (G (.mk P T hT n c B0 N X Q) K m e L cf) q (fo.bind kf):=fun hF=>
  cw2 i1 n1 o1 k1 i2 n2 o2 k2 is hs hb hi hx hk hn (fun h _ _ _ hx=>hc h _ hx) hF fun x _ h y=>k x y h
end
theorem aH7{α β:Type}{iR:aM α}{C:KG α}{sr:β→SV}{g:FuncId}{w:World}{p:α→Option β}(hc:∀args w,(callFunc g args).run P w=.ok (.enter g args) w)(hn:∀{κ:Ctx} {x y},C.sub κ.S0 κ.w0 x y→V0 P κ g (p x) [C.sv x y] sr):Fu1 P (dA w) C sr g [] p:=fu1 hc (by intro κ x y h q hq;exact hn h _ hq)
theorem aJP{α β:Type}{iR:aM α}{C:KG α}{sr:β→SV}{g:FuncId}{w:World}{Bs:Bl}{cs:List (Nat×List SV)}{p:α→Option β}(hc:∀args w,(callFunc g args).run P w=.ok (.enter g args) w)(hB:∀w1,fP F0 w w1→mC (dA w1) w1 Bs (roL 0 cs))(hl:a8 (fH Bs) (aPB 0 cs)=some (aAG Bs))(hn:∀{w1 x y},fP F0 w w1→C.sub (O0 w1) w1 x y→VS P (dA w1) g (p x) (C.sv x y :: aPB 0 cs) Bs (roL 0 cs) (fun r (_:Unit)=>sr r) (fun _ _=>[]))(hz:∀q,FX 0 (sr q)=true:=by exact fun _=>rfl):Fu1 P (dA w) C sr g (aAG Bs) p:=fk1 hc hB hl hz (by intro w1 x y h h' q hq;exact hn h h' _ hq)
noncomputable section
variable {α β:Type} {fo:Option α} {kf:α→Option β} {q:β} {d:Nat} {f g:FuncId} {xs:List SV} {sv:α→SV}
theorem aJQ{n1:Nat}{c1:List SV}(is:List Nat)(hs:kS T n K cf m e L=.callp o (some d) f xs cf1 cf2 K' m' e' L')(hk:kl L' is=[.ro n1 c1])(ho:(aHU [(n1,c1)] && okA xs.dropLast)=true)(hx:xs=xs.dropLast ++ [.f g [n1]])
    (hc:∀{w},HS c w L'→∀{b1:Nat×Nat},(∀w1,fP F0 w w1→mC (dA w1) w1 [b1] [.ro 0 c1])→V0 P (dA w) f fo (xs.dropLast ++ [.k (.func (.func g) #[] (aAG [b1]).toArray)]) sv)
    (k:∀x,W (G (.mk P T hT n c B0 N X Q) K' m' ((d,sv x) :: e') L' cf2) q (kf x)):W (G (.mk P T hT n c B0 N X Q) K m e L cf) q (fo.bind kf):=fun hF=>
  aXU is hs hk ho hx (fun h _ h2 _ hx=>hc h h2 _ hx) hF fun x _ h=>k x h
end
end
end Go.Gv
end
noncomputable section
namespace Go.Gv
def pV(y:Nat×Nat):Value:=.pointer (some ⟨y.1,y.2,none⟩)
noncomputable section
variable {P:Program} {T:TT} {hT:F5 P T} {n:Nat} {c:Ctx} {B0:Bl} {N:Act→World→Prop} {X:Nat→Act→World→Prop} {Q:Act→World→Prop} {K K':List Fr} {m m':Nat} {e e':SE} {L L':List Ch} {cf cf1 cf2:vS} {o:Oper}
abbrev VP(P:Program)(c:Ctx)(f:FuncId){ρ:Type}(F:Option ρ)(xs:List SV)(cs:ρ→List SV):Prop:=VS P c f F xs [] [] (fun _ (y:Nat×Nat)=>.k (pV y)) (fun r y=>[.o (OV [y] 0 (cs r))])
theorem rtP{fn:Func}{ρ:Type}{r r':ρ}{t:Nat}{hr:fn.results=[ResultVar.tmp t].toArray}{zz:Option ρ}{cs:ρ→List SV}(is:List Nat)(hz:zz=some r')(hs:kS T n K cf m e L=.ret m' e' L')(hL:O7 0 m' e' L' is 1 [(t,.p 0 0)] [.box 0 (cs r')]=some ([(t,.p 0 0)],[.box 0 (cs r')]))(ho:FX.okC 0 (cs r')=true):W (G (.mk P T hT n c [] N X (QR P fn hr c [] (fun _ (y:Nat×Nat)=>.k (pV y)) (fun r y=>[.o (OV [y] 0 (cs r))]) r)) K m e L cf) r zz:=fun hF=>by
  subst hz;cases hF
  refine gE (g:=.mk P T hT n c [] N X _) ?_
  rw [hs]
  intro a w hr'
  obtain⟨B,hm,hA,hS⟩:=kZ.O7 hr' is hL
  have hB:∃y,B=[y]:=by
    cases B with
    | nil=>simp at hm
    | cons y B => cases B with
      | nil=>exact⟨y,rfl⟩
      | cons z B=>simp at hm
  obtain⟨y,rfl⟩:=hB
  have hS:mC c w [y] [.box 0 (cs r)]:=hS
  have hA:fM n [y] [(t,.p 0 0)] a:=hA
  have hv:aFU T [(t,.p 0 0)] [.box 0 (cs r)] [ResultVar.tmp t]=some (.p 0 0):=by simp [aFU,aOJ,zN]
  obtain⟨v,h1,h2⟩:=ZK hr hT hA hS hv
  have hv':v=pV y:=by
    simp only [fH,gV,bV,List.getElem?_cons_zero] at h1
    cases h1;rfl
  subst hv'
  refine⟨hA.d,_,h2,y,by simp [fH,gV,bV,pV,Value.oneCell'],?_⟩
  obtain⟨⟨R,s1,s2⟩,s0⟩:=hS
  exact⟨⟨R,s1.imp (.cons (fun F h=>h) .nil),fun x hx=>by rcases List.mem_cons.1 hx with rfl | hx <;> first | trivial | simp at hx⟩,s0⟩
theorem cP{α β:Type}{fo:Option α}{kf:α→Option β}{q:β}{d:Nat}{f:FuncId}{xs:List SV}{cs:α→List SV}(hs:kS T n K cf m e L=.call o (some d) f xs cf1 cf2 K' m' e' L')
    (hc:∀{w},HS c w L'→VP P (dA w) f fo xs cs) (k:∀x,W (G (.mk P T hT n c B0 N X Q) K' (m'+1) ((d,.p m' 0) :: e') (L' ++ [.box m' (cs x)]) cf2) q (kf x)) (hk:∀x,FX.okC 0 (cs x)=true:=by exact fun _=>rfl):W (G (.mk P T hT n c B0 N X Q) K m e L cf) q (fo.bind kf):=fun hF=>by
  refine gE (g:=.mk P T hT n c B0 N X Q) ?_
  rw [hs]
  intro fo' args ats ho hd hf ⟨ys,hys,hxs⟩ hA0 hdn hE
  subst hxs
  cases hfo:fo with
  | none=>rw [hfo] at hF;cases hF
  | some x =>
    rw [hfo] at hF
    refine hE Unit (fun _=>m'+1) (fun _=>(d,.p m' 0) :: e') (fun _=>L' ++ [.box m' (cs x)]) (fun _=>xD _) (fun B a w next Q' hm hA hS hnext=>?_) (fun _=>k x hF)
    obtain⟨hcall,hrun⟩:=hc ⟨_,hS⟩ x hfo
    obtain⟨vs,h1,h2⟩:=W5 hA hys
    obtain⟨v,h3,h4⟩:=eG hA hf
    simp [fH,a8] at h3
    subst h3
    have h5:=hrun vs (ZL hA0 (by rw [Q7];exact h1)) (aO4 w)
    have h6:=TV (w:=w) hcall ho h4 h2
    unfold Oper.wp
    rw [h6 _ a hA.env,Oper.upon_enter]
    refine Calls.mono h5 fun en w' ⟨v,hv,y,g1,g2⟩=>?_
    subst hv
    rw [hd]
    have hv':v=pV y:=by simpa [fH,gV,bV,pV,Value.oneCell'] using g1.symm
    subst hv'
    have hb:∀{F:cV},(OV [y] 0 (cs x)).P w' F→(OV ((TR (.mk P T hT n c B0 N X Q) cf1++B) ++ [y]) m' (cs x)).P w' F:=fun⟨b,z,us,k1,k2,k3⟩=>by
      simp only [List.getElem?_cons_zero,Option.some.injEq] at k1
      refine⟨y.1,y.2,us,?_,?_,by rw [k1];exact k3⟩
      · rw [List.getElem?_append_right (by omega),hm];simp
      · simpa using eW (fun x v h=>by simpa using fT (B:=[]) (TR (.mk P T hT n c B0 N X Q) cf1++B ++ [y]) h) (F6 (hk x) k2)
    have g3:fH ((TR (.mk P T hT n c B0 N X Q) cf1++B) ++ [y]) (.p m' 0)=some (pV y):=by
      simp only [fH,gV,bV]
      rw [List.getElem?_append_right (by omega),hm]
      simp [pV]
    refine hnext () _ _ ⟨[y],by simp only [List.length_append,List.length_cons,List.length_nil] at hm ⊢;omega,hA.ext g3 (hA.env.put (by simpa [rX,Nat.blt_eq] using hdn) _),?_⟩
    obtain⟨⟨R,s1,s2⟩,s0⟩:=(hS.after (L2:=[.o (OV [y] 0 (cs x))]) rfl g2).app [y]
    refine⟨⟨R,s1.imp ?_,fun z hz=>?_⟩,s0⟩
    · rw [List.map_append,List.map_append]
      exact iG.append (iG.refl _) (.cons (fun F h=>hb h) .nil)
    · rcases List.mem_append.1 hz with hz | hz
      · exact s2 z (List.mem_append_left _ hz)
      · rcases List.mem_cons.1 hz with rfl | hz <;> first | trivial | simp at hz
end
end Go.Gv
end
noncomputable section
namespace Go.Gv
theorem aE0{k:Nat}:∀{js:List Nat},fC k js=true→k∉js
  | [],_=>by simp
  | j :: r, h => by
    unfold fC at h
    cases q:Nat.beq k j
    · rw [q] at h
      have h1:=aE0 h
      have h2:k≠j:=fun e=>by rw [e] at q;simp at q
      simp [h1,h2]
    · rw [q] at h;simp at h
theorem RD{v:Ch}:∀{js:List Nat} {L xs:List Ch} {k:Nat},fC k js=true→L[k]?=some v→(E6 L js++xs)[k]?=some v
  | [], L, xs, k, _, h => by
    have hk:=(List.getElem?_eq_some_iff.1 h).1
    simp only [E6]
    rw [List.getElem?_append_left hk];exact h
  | j :: r, L, xs, k, hn, h => by
    have h1:=aE0 hn
    simp only [List.mem_cons,not_or] at h1
    refine RD (js:=r) (L:=L.set j .no) ?_ ?_
    · unfold fC at hn
      cases q:Nat.beq k j
      · rw [q] at hn;exact hn
      · rw [q] at hn;simp at hn
    · rw [List.getElem?_set_ne (Ne.symm h1.1)];exact h
theorem aLL{y:List Ch}:∀{is:List Nat} {L xs:List Ch},(∀i∈is,i < L.length)→E6 (L++xs) is++y=E6 L is++(xs++y)
  | [],L,xs,_=>by simp [E6]
  | i :: r, L, xs, h => by
    simp only [E6]
    rw [List.set_append_left _ _ (h i List.mem_cons_self)]
    exact aLL (fun j hj=>by rw [List.length_set];exact h j (List.mem_cons_of_mem _ hj))
theorem aLM:∀{js is:List Nat} {L:List Ch},E6 (E6 L js) is=E6 L (js++is)
  | [],_,_=>rfl
  | j :: r,is,L=>by simp only [E6,List.cons_append];exact aLM
theorem aLN{L:List Ch}:∀{is:List Nat} {c:List Ch},a8 (fun i=>L[i]?) is=some c→∀i∈is,i < L.length
  | [],_,_,i,h=>by cases h
  | j :: r, c, h, i, hi => by
    simp only [a8] at h
    cases q:L[j]? with
    | none=>rw [q] at h;simp at h
    | some x =>
      rw [q] at h
      cases q2:a8 (fun i=>L[i]?) r with
      | none=>simp only [q2] at h;simp at h
      | some z =>
        rcases List.mem_cons.1 hi with e | hi
        · subst e;exact(List.getElem?_eq_some_iff.1 q).1
        · exact aLN q2 i hi
theorem aH8{js:List Nat}{L xs:List Ch}:∀{is:List Nat} {c:List Ch},(is.all fun j=>fC j js)=true→a8 (fun i=>L[i]?) is=some c→a8 (fun i=>(E6 L js++xs)[i]?) is=some c
  | [],_,_,h=>h
  | j :: r, c, hn, h => by
    simp only [List.all_cons,Bool.and_eq_true] at hn
    simp only [a8] at h ⊢
    cases q:L[j]? with
    | none=>rw [q] at h;simp at h
    | some x =>
      rw [q] at h
      rw [RD hn.1 q]
      cases q2:a8 (fun i=>L[i]?) r with
      | none=>simp only [q2] at h;simp at h
      | some z =>
        simp only [q2] at h
        rw [aH8 hn.2 q2];exact h
noncomputable section
variable {n:Nat} {c:Ctx} {B0:Bl} {m:Nat} {e:SE} {L:List Ch}
theorem cqF{Z:Act→World→Prop}{js:List Nat}{xs:List Ch}{α:Type}[aM α](E:CO α)(h:Nat)(is:List Nat){s:AC}{l:List α}{i:Int}{nb:Nat}{x:α}(hx:idx l i=some x)(y:E.ex){cs0:List SV}{ec:List Value}(hs:L[h]?=some (.o (sJ (s.v l.length) l i.toNat)))(hb:L[h+1]?=some (.box nb cs0))(hv:L[h+2]?=some (wOf α nb s l.length i.toNat))(hi:a8 (fun i=>L[i]?) is=some (E.Lx x y))(hc:nbL cs0=E.cs x y)(hec:a8 (bV []) (E.cs x y)=some ec)(ha:dJ (h :: (h+1) :: is)=true)(hd:((h :: (h+1) :: (h+2) :: is).all fun j=>fC j js)=true)
    (kk:∀a w,kZ n c B0 m e (E6 L (js++h :: (h+1) :: is)++(xs ++ [ow s l])) a w→Z a w):∀a w,kZ n c B0 m e (E6 L js++xs) a w→Z a w:=by
  simp only [List.all_cons,Bool.and_eq_true] at hd
  refine fU E h is hx y (RD hd.1 hs) (RD hd.2.1 hb) (RD hd.2.2.1 hv) (aH8 hd.2.2.2 hi) hc hec ha ?_
  have hlt:∀j∈h :: (h+1) :: is,j < (E6 L js).length:=fun j hj=>by
    rw [MP]
    rcases List.mem_cons.1 hj with q | hj
    · subst q;exact(List.getElem?_eq_some_iff.1 hs).1
    rcases List.mem_cons.1 hj with q | hj
    · subst q;exact(List.getElem?_eq_some_iff.1 hb).1
    · exact aLN hi j hj
  rw [aLL hlt,aLM]
  exact kk
def kf(L xs:List Ch)(k:Nat):List Nat→List Ch
  | []=>[]
  | i :: is => match Nat.blt i k with
    | true => match L[i]? with
      | some x=>x :: kf L xs k is
      | none=>kf L xs k is
    | false => match xs[i - k]? with
      | some x=>x :: kf L xs k is
      | none=>kf L xs k is
theorem aS8{js:List Nat}{L xs:List Ch}{k:Nat}(hk:L.length=k):∀{is:List Nat},(is.all fun j=>fC j js)=true→kl (E6 L js++xs) is=kf L xs k is
  | [],_=>rfl
  | i :: is, h => by
    simp only [List.all_cons,Bool.and_eq_true] at h
    simp only [kl,kf]
    rw [aS8 hk h.2]
    by_cases q:i < k
    · have e1:Nat.blt i k=true:=by simpa using q
      have hi:i < L.length:=by omega
      rw [e1,RD h.1 (List.getElem?_eq_getElem hi),List.getElem?_eq_getElem hi]
    · have e1:Nat.blt i k=false:=by
        cases z:Nat.blt i k
        · rfl
        · exact absurd (by simpa using z) q
      rw [e1,List.getElem?_append_right (by rw [MP];omega),MP,hk]
      rfl
theorem aP1:∀(M N:List Ch),kl (N++M) ((List.range' N.length M.length))=M
  | [],N=>rfl
  | x :: M, N => by
    rw [List.length_cons,List.range'_succ]
    simp only [kl]
    rw [List.getElem?_append_right (Nat.le_refl _),Nat.sub_self]
    simp only [List.getElem?_cons_zero]
    have:=aP1 M (N ++ [x])
    rw [List.append_assoc,List.length_append,List.length_singleton,List.singleton_append] at this
    rw [this]
theorem W7:∀(k a:Nat),dJ (List.range' a k)=true
  | 0,_=>rfl
  | k + 1, a => by
    rw [List.range'_succ]
    simp only [dJ,Bool.and_eq_true]
    refine⟨?_,W7 k (a+1)⟩
    rw [List.all_eq_true]
    intro j hj
    have:=List.mem_range'.1 hj
    obtain⟨q,_,e⟩:=this
    have:a≠j:=by omega
    cases z:Nat.beq a j
    · rfl
    · exact absurd (Nat.eq_of_beq_eq_true z) this
def asK(b m:Nat)(e:SE)(M:List Ch)(m':Nat)(e':SE)(L':List Ch):Option (SE×List Ch):=match Nat.ble b m',Nat.ble m' m with
  | true, true => match reE e e' with
    | some s => match okE m' s, okL m' (reL L' M) with
      | true,true=>some (s,reL L' M)
      | _,_=>none
    | none=>none
  | _,_=>none
theorem aUP{b m:Nat}{e:SE}{M:List Ch}{m':Nat}{e':SE}{L':List Ch}:O7 b m e M (List.range' 0 M.length) m' e' L'=asK b m e M m' e' L':=by
  have:=aP1 M []
  simp only [List.nil_append,List.length_nil] at this
  unfold O7 asK asS
  rw [W7,this]
  cases Nat.ble b m' <;> cases Nat.ble m' m <;> rfl
theorem jnF{π υ:Type}{js:List Nat}{xs:List Ch}{eq:π→Prop}{mj:Nat}{ej:π→υ→SE}{Lj:π→υ→List Ch}{p:π}(u:υ)(is:List Nat)(k:Nat)(hF:eq p)(hk:L.length=k)(hn:(is.all fun j=>fC j js)=true)(ha:dJ is=true)(h:asK B0.length m e (kf L xs k is) mj (ej p u) (Lj p u)=some (ej p u,Lj p u)):∀a w,kZ n c B0 m e (E6 L js++xs) a w→JP n c B0 eq mj ej Lj a w:=fun a w hr=>by
  obtain⟨B,h1,h2,h3⟩:=hr
  have h4:=aJF h3 is ha
  rw [aS8 hk hn] at h4
  refine⟨p,u,hF,kZ.O7 (f:=ej p u) (M:=Lj p u) (⟨B,h1,h2,h4⟩:kZ n c B0 m e (kf L xs k is) a w) (List.range' 0 (kf L xs k is).length) ?_⟩
  rw [aUP];exact h
end
end Go.Gv
end
noncomputable section
namespace Go.Gv
structure aE where
  Bytes:List Int
  Class:List Int
  deriving DecidableEq,Inhabited
instance:aM aE:=aM.via (fun d=>(d.Bytes,d.Class))
instance:Fits aE:=Fits.via (fun d=>(d.Bytes,d.Class))
structure aH where
  aP:List Int
  deriving DecidableEq,Inhabited
instance:aM aH:=aM.via (fun d=>(d.aP))
instance:Fits aH:=Fits.via (fun d=>(d.aP))
theorem aH9{S:cV}{w:World}{cs:List Value}{d:aH}(h:aM.rd S w cs d):∃v0:Value,cs=[v0]∧aM.rd S w [v0] d.aP:=by
  obtain⟨u0,q0⟩:=I6 h
  rw [q0] at h
  exact⟨u0,q0,h⟩
theorem PB(d:aH){v0:Value}:OP [v0] d [fV [v0] d.aP]:=(show OP (α:=(List Int)) _ (d.aP) _ from aI5)
theorem _root_.Go.Gv.St.aP2{c:Ctx}{L:List Chunk}{R:List Fact}{w:World}{s:Value}{l:List aH}{i:Nat}{x:aH}(h:St c w L R)(j:Nat)(hj:R[j]?=some (zK [s] l))(hi:l[i]?=some x):∃v0:Value,b9 w (O1 s) (OT 1 i s) [v0]∧St c w L (R ++ [zK [v0] x.aP]):=by
  obtain⟨S,hS,hk⟩:=h.aNN hj
  obtain⟨ec,h1,h2⟩:=aHD hS hi
  obtain⟨v0,q,q0⟩:=aH9 h2
  rw [q] at h1
  exact⟨v0,h1,hk _ (by intro f hf;simp only [List.mem_cons,List.not_mem_nil,or_false] at hf;subst hf;exact q0)⟩
structure aA where
  Global:List aH
  bJ:List aH
  deriving DecidableEq,Inhabited
instance:aM aA:=aM.via (fun d=>(d.Global,d.bJ))
instance:Fits aA:=Fits.via (fun d=>(d.Global,d.bJ))
structure Mem where
  aE:aE
  aA:aA
  deriving DecidableEq,Inhabited
instance:aM Mem:=aM.via (fun d=>(d.aE,d.aA))
instance:Fits Mem:=Fits.via (fun d=>(d.aE,d.aA))
structure gK where
  On:Bool
  aL:Int
  fF:Bool
  Seen:Int
  deriving DecidableEq,Inhabited
instance:aM gK:=aM.via (fun d=>(d.On,d.aL,d.fF,d.Seen))
instance:Fits gK:=Fits.via (fun d=>(d.On,d.aL,d.fF,d.Seen))
theorem aUQ{S:cV}{w:World}{cs:List Value}{d:gK}(h:aM.rd S w cs d):cs=[.bool (d.On),.int .i64 (d.aL),.bool (d.fF),.int .i64 (d.Seen)]:=by
  obtain⟨c0,r0,e0,h0,n0⟩:=h
  have q0:c0=[_]:=h0
  obtain⟨c1,r1,e1,h1,n1⟩:=n0
  have q1:c1=[_]:=h1
  obtain⟨c2,r2,e2,h2,n2⟩:=n1
  have q2:c2=[_]:=h2
  have q3:r2=[_]:=n2
  exact by rw [e0,e1,e2,q0,q1,q2,q3];rfl
theorem aUR{S:cV}{w:World}(d:gK):aM.rd S w [.bool (d.On),.int .i64 (d.aL),.bool (d.fF),.int .i64 (d.Seen)] d:=⟨[.bool (d.On)],[.int .i64 (d.aL),.bool (d.fF),.int .i64 (d.Seen)],rfl,rfl,⟨[.int .i64 (d.aL)],[.bool (d.fF),.int .i64 (d.Seen)],rfl,rfl,⟨[.bool (d.fF)],[.int .i64 (d.Seen)],rfl,rfl,rfl⟩⟩⟩
instance:Flat gK:=⟨fun h=>Flat.own_of (α:=Bool×Int×Bool×Int) h,fun h=>Flat.no (α:=Bool×Int×Bool×Int) h⟩
theorem aUS(d:gK):OP [.bool (d.On),.int .i64 (d.aL),.bool (d.fF),.int .i64 (d.Seen)] d []:=(show OP (α:=Bool×Int×Bool×Int) _ (d.On,d.aL,d.fF,d.Seen) _ from (jF (c1:=[.bool (d.On)]) (c2:=[.int .i64 (d.aL),.bool (d.fF),.int .i64 (d.Seen)]) (A:=[]) (B:=[]) (fQ rfl) (jF (c1:=[.int .i64 (d.aL)]) (c2:=[.bool (d.fF),.int .i64 (d.Seen)]) (A:=[]) (B:=[]) (fQ rfl) (jF (c1:=[.bool (d.fF)]) (c2:=[.int .i64 (d.Seen)]) (A:=[]) (B:=[]) (fQ rfl) (fQ rfl) rfl) rfl) rfl))
structure aI where
  aL:Int
  bA:List gK
  deriving DecidableEq,Inhabited
instance:aM aI:=aM.via (fun d=>(d.aL,d.bA))
instance:Fits aI:=Fits.via (fun d=>(d.aL,d.bA))
structure b8 where
  Handle:Int
  aL:Int
  deriving DecidableEq,Inhabited
instance:aM b8:=aM.via (fun d=>(d.Handle,d.aL))
instance:Fits b8:=Fits.via (fun d=>(d.Handle,d.aL))
theorem aLO{S:cV}{w:World}{cs:List Value}{d:b8}(h:aM.rd S w cs d):cs=[.int .i64 (d.Handle),.int .i64 (d.aL)]:=by
  obtain⟨c0,r0,e0,h0,n0⟩:=h
  have q0:c0=[_]:=h0
  have q1:r0=[_]:=n0
  exact by rw [e0,q0,q1];rfl
theorem aR7{S:cV}{w:World}(d:b8):aM.rd S w [.int .i64 (d.Handle),.int .i64 (d.aL)] d:=⟨[.int .i64 (d.Handle)],[.int .i64 (d.aL)],rfl,rfl,rfl⟩
instance:Flat b8:=⟨fun h=>Flat.own_of (α:=Int×Int) h,fun h=>Flat.no (α:=Int×Int) h⟩
theorem aR8(d:b8):OP [.int .i64 (d.Handle),.int .i64 (d.aL)] d []:=(show OP (α:=Int×Int) _ (d.Handle,d.aL) _ from (jF (c1:=[.int .i64 (d.Handle)]) (c2:=[.int .i64 (d.aL)]) (A:=[]) (B:=[]) (fQ rfl) (fQ rfl) rfl))
theorem aR9{S:cV}{w:World}{s:Value}{l:List b8}{i:Nat}{x:b8}(h:aM.rd S w [s] l)(hi:l[i]?=some x):b9 w (O1 s) (OT 2 i s) [.int .i64 (x.Handle),.int .i64 (x.aL)]:=by
  obtain⟨ec,h1,h2⟩:=aHD h hi
  rw [aLO h2] at h1;exact h1
structure aO where
  Rows:List b8
  deriving DecidableEq,Inhabited
instance:aM aO:=aM.via (fun d=>(d.Rows))
instance:Fits aO:=Fits.via (fun d=>(d.Rows))
theorem aIA{S:cV}{w:World}{cs:List Value}{d:aO}(h:aM.rd S w cs d):∃v0:Value,cs=[v0]∧aM.rd S w [v0] d.Rows:=by
  obtain⟨u0,q0⟩:=I6 h
  rw [q0] at h
  exact⟨u0,q0,h⟩
theorem aIB(d:aO){v0:Value}:OP [v0] d [fV [v0] d.Rows]:=(show OP (α:=(List b8)) _ (d.Rows) _ from aI5)
theorem _root_.Go.Gv.St.aIC{c:Ctx}{L:List Chunk}{R:List Fact}{w:World}{s:Value}{l:List aO}{i:Nat}{x:aO}(h:St c w L R)(j:Nat)(hj:R[j]?=some (zK [s] l))(hi:l[i]?=some x):∃v0:Value,b9 w (O1 s) (OT 1 i s) [v0]∧St c w L (R ++ [zK [v0] x.Rows]):=by
  obtain⟨S,hS,hk⟩:=h.aNN hj
  obtain⟨ec,h1,h2⟩:=aHD hS hi
  obtain⟨v0,q,q0⟩:=aIA h2
  rw [q] at h1
  exact⟨v0,h1,hk _ (by intro f hf;simp only [List.mem_cons,List.not_mem_nil,or_false] at hf;subst hf;exact q0)⟩
structure aB where
  Mem:Mem
  aI:aI
  aV:List aO
  iC:List Int
  deriving DecidableEq,Inhabited
instance:aM aB:=aM.via (fun d=>(d.Mem,d.aI,d.aV,d.iC))
instance:Fits aB:=Fits.via (fun d=>(d.Mem,d.aI,d.aV,d.iC))
structure gA where
  Kind:Int
  Cell:Int
  eT:Int
  eU:Int
  deriving DecidableEq,Inhabited
instance:aM gA:=aM.via (fun d=>(d.Kind,d.Cell,d.eT,d.eU))
instance:Fits gA:=Fits.via (fun d=>(d.Kind,d.Cell,d.eT,d.eU))
theorem aP3{S:cV}{w:World}{cs:List Value}{d:gA}(h:aM.rd S w cs d):cs=[.int .i64 (d.Kind),.int .i64 (d.Cell),.int .i64 (d.eT),.int .i64 (d.eU)]:=by
  obtain⟨c0,r0,e0,h0,n0⟩:=h
  have q0:c0=[_]:=h0
  obtain⟨c1,r1,e1,h1,n1⟩:=n0
  have q1:c1=[_]:=h1
  obtain⟨c2,r2,e2,h2,n2⟩:=n1
  have q2:c2=[_]:=h2
  have q3:r2=[_]:=n2
  exact by rw [e0,e1,e2,q0,q1,q2,q3];rfl
theorem aJR{S:cV}{w:World}(d:gA):aM.rd S w [.int .i64 (d.Kind),.int .i64 (d.Cell),.int .i64 (d.eT),.int .i64 (d.eU)] d:=⟨[.int .i64 (d.Kind)],[.int .i64 (d.Cell),.int .i64 (d.eT),.int .i64 (d.eU)],rfl,rfl,⟨[.int .i64 (d.Cell)],[.int .i64 (d.eT),.int .i64 (d.eU)],rfl,rfl,⟨[.int .i64 (d.eT)],[.int .i64 (d.eU)],rfl,rfl,rfl⟩⟩⟩
instance:Flat gA:=⟨fun h=>Flat.own_of (α:=Int×Int×Int×Int) h,fun h=>Flat.no (α:=Int×Int×Int×Int) h⟩
theorem aUT(d:gA):OP [.int .i64 (d.Kind),.int .i64 (d.Cell),.int .i64 (d.eT),.int .i64 (d.eU)] d []:=(show OP (α:=Int×Int×Int×Int) _ (d.Kind,d.Cell,d.eT,d.eU) _ from (jF (c1:=[.int .i64 (d.Kind)]) (c2:=[.int .i64 (d.Cell),.int .i64 (d.eT),.int .i64 (d.eU)]) (A:=[]) (B:=[]) (fQ rfl) (jF (c1:=[.int .i64 (d.Cell)]) (c2:=[.int .i64 (d.eT),.int .i64 (d.eU)]) (A:=[]) (B:=[]) (fQ rfl) (jF (c1:=[.int .i64 (d.eT)]) (c2:=[.int .i64 (d.eU)]) (A:=[]) (B:=[]) (fQ rfl) (fQ rfl) rfl) rfl) rfl))
structure Sub where
  Kind:Int
  A:Int
  Pc:Int
  E:Int
  Row:Int
  B:Int
  H:Int
  Out:Int
  Code:Int
  cQ:Bool
  deriving DecidableEq,Inhabited
instance:aM Sub:=aM.via (fun d=>(d.Kind,d.A,d.Pc,d.E,d.Row,d.B,d.H,d.Out,d.Code,d.cQ))
instance:Fits Sub:=Fits.via (fun d=>(d.Kind,d.A,d.Pc,d.E,d.Row,d.B,d.H,d.Out,d.Code,d.cQ))
theorem aUU{S:cV}{w:World}{cs:List Value}{d:Sub}(h:aM.rd S w cs d):cs=[.int .i64 (d.Kind),.int .i64 (d.A),.int .i64 (d.Pc),.int .i64 (d.E),.int .i64 (d.Row),.int .i64 (d.B),.int .i64 (d.H),.int .i64 (d.Out),.int .i64 (d.Code),.bool (d.cQ)]:=by
  obtain⟨c0,r0,e0,h0,n0⟩:=h
  have q0:c0=[_]:=h0
  obtain⟨c1,r1,e1,h1,n1⟩:=n0
  have q1:c1=[_]:=h1
  obtain⟨c2,r2,e2,h2,n2⟩:=n1
  have q2:c2=[_]:=h2
  obtain⟨c3,r3,e3,h3,n3⟩:=n2
  have q3:c3=[_]:=h3
  obtain⟨c4,r4,e4,h4,n4⟩:=n3
  have q4:c4=[_]:=h4
  obtain⟨c5,r5,e5,h5,n5⟩:=n4
  have q5:c5=[_]:=h5
  obtain⟨c6,r6,e6,h6,n6⟩:=n5
  have q6:c6=[_]:=h6
  obtain⟨c7,r7,e7,h7,n7⟩:=n6
  have q7:c7=[_]:=h7
  obtain⟨c8,r8,e8,h8,n8⟩:=n7
  have q8:c8=[_]:=h8
  have q9:r8=[_]:=n8
  exact by rw [e0,e1,e2,e3,e4,e5,e6,e7,e8,q0,q1,q2,q3,q4,q5,q6,q7,q8,q9];rfl
theorem aP4{S:cV}{w:World}(d:Sub):aM.rd S w [.int .i64 (d.Kind),.int .i64 (d.A),.int .i64 (d.Pc),.int .i64 (d.E),.int .i64 (d.Row),.int .i64 (d.B),.int .i64 (d.H),.int .i64 (d.Out),.int .i64 (d.Code),.bool (d.cQ)] d:=⟨[.int .i64 (d.Kind)],[.int .i64 (d.A),.int .i64 (d.Pc),.int .i64 (d.E),.int .i64 (d.Row),.int .i64 (d.B),.int .i64 (d.H),.int .i64 (d.Out),.int .i64 (d.Code),.bool (d.cQ)],rfl,rfl,⟨[.int .i64 (d.A)],[.int .i64 (d.Pc),.int .i64 (d.E),.int .i64 (d.Row),.int .i64 (d.B),.int .i64 (d.H),.int .i64 (d.Out),.int .i64 (d.Code),.bool (d.cQ)],rfl,rfl,⟨[.int .i64 (d.Pc)],[.int .i64 (d.E),.int .i64 (d.Row),.int .i64 (d.B),.int .i64 (d.H),.int .i64 (d.Out),.int .i64 (d.Code),.bool (d.cQ)],rfl,rfl,⟨[.int .i64 (d.E)],[.int .i64 (d.Row),.int .i64 (d.B),.int .i64 (d.H),.int .i64 (d.Out),.int .i64 (d.Code),.bool (d.cQ)],rfl,rfl,⟨[.int .i64 (d.Row)],[.int .i64 (d.B),.int .i64 (d.H),.int .i64 (d.Out),.int .i64 (d.Code),.bool (d.cQ)],rfl,rfl,⟨[.int .i64 (d.B)],[.int .i64 (d.H),.int .i64 (d.Out),.int .i64 (d.Code),.bool (d.cQ)],rfl,rfl,⟨[.int .i64 (d.H)],[.int .i64 (d.Out),.int .i64 (d.Code),.bool (d.cQ)],rfl,rfl,⟨[.int .i64 (d.Out)],[.int .i64 (d.Code),.bool (d.cQ)],rfl,rfl,⟨[.int .i64 (d.Code)],[.bool (d.cQ)],rfl,rfl,rfl⟩⟩⟩⟩⟩⟩⟩⟩⟩
instance:Flat Sub:=⟨fun h=>Flat.own_of (α:=Int×Int×Int×Int×Int×Int×Int×Int×Int×Bool) h,fun h=>Flat.no (α:=Int×Int×Int×Int×Int×Int×Int×Int×Int×Bool) h⟩
structure bX where
  iV:Bool
  Op:gA
  aN:Int
  Pc:Int
  Sub:Sub
  H:Int
  Old:Int
  eU:Int
  Code:Int
  deriving DecidableEq,Inhabited
instance:aM bX:=aM.via (fun d=>(d.iV,d.Op,d.aN,d.Pc,d.Sub,d.H,d.Old,d.eU,d.Code))
instance:Fits bX:=Fits.via (fun d=>(d.iV,d.Op,d.aN,d.Pc,d.Sub,d.H,d.Old,d.eU,d.Code))
theorem aUV{S:cV}{w:World}{cs:List Value}{d:bX}(h:aM.rd S w cs d):cs=[.bool (d.iV),.int .i64 (d.Op.Kind),.int .i64 (d.Op.Cell),.int .i64 (d.Op.eT),.int .i64 (d.Op.eU),.int .i64 (d.aN),.int .i64 (d.Pc),.int .i64 (d.Sub.Kind),.int .i64 (d.Sub.A),.int .i64 (d.Sub.Pc),.int .i64 (d.Sub.E),.int .i64 (d.Sub.Row),.int .i64 (d.Sub.B),.int .i64 (d.Sub.H),.int .i64 (d.Sub.Out),.int .i64 (d.Sub.Code),.bool (d.Sub.cQ),.int .i64 (d.H),.int .i64 (d.Old),.int .i64 (d.eU),.int .i64 (d.Code)]:=by
  obtain⟨c0,r0,e0,h0,n0⟩:=h
  have q0:c0=[_]:=h0
  obtain⟨c1,r1,e1,h1,n1⟩:=n0
  have q1:=aP3 h1
  obtain⟨c2,r2,e2,h2,n2⟩:=n1
  have q2:c2=[_]:=h2
  obtain⟨c3,r3,e3,h3,n3⟩:=n2
  have q3:c3=[_]:=h3
  obtain⟨c4,r4,e4,h4,n4⟩:=n3
  have q4:=aUU h4
  obtain⟨c5,r5,e5,h5,n5⟩:=n4
  have q5:c5=[_]:=h5
  obtain⟨c6,r6,e6,h6,n6⟩:=n5
  have q6:c6=[_]:=h6
  obtain⟨c7,r7,e7,h7,n7⟩:=n6
  have q7:c7=[_]:=h7
  have q8:r7=[_]:=n7
  exact by rw [e0,e1,e2,e3,e4,e5,e6,e7,q0,q1,q2,q3,q4,q5,q6,q7,q8];rfl
theorem MQ{S:cV}{w:World}(d:bX):aM.rd S w [.bool (d.iV),.int .i64 (d.Op.Kind),.int .i64 (d.Op.Cell),.int .i64 (d.Op.eT),.int .i64 (d.Op.eU),.int .i64 (d.aN),.int .i64 (d.Pc),.int .i64 (d.Sub.Kind),.int .i64 (d.Sub.A),.int .i64 (d.Sub.Pc),.int .i64 (d.Sub.E),.int .i64 (d.Sub.Row),.int .i64 (d.Sub.B),.int .i64 (d.Sub.H),.int .i64 (d.Sub.Out),.int .i64 (d.Sub.Code),.bool (d.Sub.cQ),.int .i64 (d.H),.int .i64 (d.Old),.int .i64 (d.eU),.int .i64 (d.Code)] d:=⟨[.bool (d.iV)],[.int .i64 (d.Op.Kind),.int .i64 (d.Op.Cell),.int .i64 (d.Op.eT),.int .i64 (d.Op.eU),.int .i64 (d.aN),.int .i64 (d.Pc),.int .i64 (d.Sub.Kind),.int .i64 (d.Sub.A),.int .i64 (d.Sub.Pc),.int .i64 (d.Sub.E),.int .i64 (d.Sub.Row),.int .i64 (d.Sub.B),.int .i64 (d.Sub.H),.int .i64 (d.Sub.Out),.int .i64 (d.Sub.Code),.bool (d.Sub.cQ),.int .i64 (d.H),.int .i64 (d.Old),.int .i64 (d.eU),.int .i64 (d.Code)],rfl,rfl,⟨[.int .i64 (d.Op.Kind),.int .i64 (d.Op.Cell),.int .i64 (d.Op.eT),.int .i64 (d.Op.eU)],[.int .i64 (d.aN),.int .i64 (d.Pc),.int .i64 (d.Sub.Kind),.int .i64 (d.Sub.A),.int .i64 (d.Sub.Pc),.int .i64 (d.Sub.E),.int .i64 (d.Sub.Row),.int .i64 (d.Sub.B),.int .i64 (d.Sub.H),.int .i64 (d.Sub.Out),.int .i64 (d.Sub.Code),.bool (d.Sub.cQ),.int .i64 (d.H),.int .i64 (d.Old),.int .i64 (d.eU),.int .i64 (d.Code)],rfl,(aJR _),⟨[.int .i64 (d.aN)],[.int .i64 (d.Pc),.int .i64 (d.Sub.Kind),.int .i64 (d.Sub.A),.int .i64 (d.Sub.Pc),.int .i64 (d.Sub.E),.int .i64 (d.Sub.Row),.int .i64 (d.Sub.B),.int .i64 (d.Sub.H),.int .i64 (d.Sub.Out),.int .i64 (d.Sub.Code),.bool (d.Sub.cQ),.int .i64 (d.H),.int .i64 (d.Old),.int .i64 (d.eU),.int .i64 (d.Code)],rfl,rfl,⟨[.int .i64 (d.Pc)],[.int .i64 (d.Sub.Kind),.int .i64 (d.Sub.A),.int .i64 (d.Sub.Pc),.int .i64 (d.Sub.E),.int .i64 (d.Sub.Row),.int .i64 (d.Sub.B),.int .i64 (d.Sub.H),.int .i64 (d.Sub.Out),.int .i64 (d.Sub.Code),.bool (d.Sub.cQ),.int .i64 (d.H),.int .i64 (d.Old),.int .i64 (d.eU),.int .i64 (d.Code)],rfl,rfl,⟨[.int .i64 (d.Sub.Kind),.int .i64 (d.Sub.A),.int .i64 (d.Sub.Pc),.int .i64 (d.Sub.E),.int .i64 (d.Sub.Row),.int .i64 (d.Sub.B),.int .i64 (d.Sub.H),.int .i64 (d.Sub.Out),.int .i64 (d.Sub.Code),.bool (d.Sub.cQ)],[.int .i64 (d.H),.int .i64 (d.Old),.int .i64 (d.eU),.int .i64 (d.Code)],rfl,(aP4 _),⟨[.int .i64 (d.H)],[.int .i64 (d.Old),.int .i64 (d.eU),.int .i64 (d.Code)],rfl,rfl,⟨[.int .i64 (d.Old)],[.int .i64 (d.eU),.int .i64 (d.Code)],rfl,rfl,⟨[.int .i64 (d.eU)],[.int .i64 (d.Code)],rfl,rfl,rfl⟩⟩⟩⟩⟩⟩⟩⟩
instance:Flat bX:=⟨fun h=>Flat.own_of (α:=Bool×gA×Int×Int×Sub×Int×Int×Int×Int) h,fun h=>Flat.no (α:=Bool×gA×Int×Int×Sub×Int×Int×Int×Int) h⟩
theorem aUW(d:bX):OP [.bool (d.iV),.int .i64 (d.Op.Kind),.int .i64 (d.Op.Cell),.int .i64 (d.Op.eT),.int .i64 (d.Op.eU),.int .i64 (d.aN),.int .i64 (d.Pc),.int .i64 (d.Sub.Kind),.int .i64 (d.Sub.A),.int .i64 (d.Sub.Pc),.int .i64 (d.Sub.E),.int .i64 (d.Sub.Row),.int .i64 (d.Sub.B),.int .i64 (d.Sub.H),.int .i64 (d.Sub.Out),.int .i64 (d.Sub.Code),.bool (d.Sub.cQ),.int .i64 (d.H),.int .i64 (d.Old),.int .i64 (d.eU),.int .i64 (d.Code)] d []:=(show OP (α:=Bool×gA×Int×Int×Sub×Int×Int×Int×Int) _ (d.iV,d.Op,d.aN,d.Pc,d.Sub,d.H,d.Old,d.eU,d.Code) _ from (jF (c1:=[.bool (d.iV)]) (c2:=[.int .i64 (d.Op.Kind),.int .i64 (d.Op.Cell),.int .i64 (d.Op.eT),.int .i64 (d.Op.eU),.int .i64 (d.aN),.int .i64 (d.Pc),.int .i64 (d.Sub.Kind),.int .i64 (d.Sub.A),.int .i64 (d.Sub.Pc),.int .i64 (d.Sub.E),.int .i64 (d.Sub.Row),.int .i64 (d.Sub.B),.int .i64 (d.Sub.H),.int .i64 (d.Sub.Out),.int .i64 (d.Sub.Code),.bool (d.Sub.cQ),.int .i64 (d.H),.int .i64 (d.Old),.int .i64 (d.eU),.int .i64 (d.Code)]) (A:=[]) (B:=[]) (fQ rfl) (jF (c1:=[.int .i64 (d.Op.Kind),.int .i64 (d.Op.Cell),.int .i64 (d.Op.eT),.int .i64 (d.Op.eU)]) (c2:=[.int .i64 (d.aN),.int .i64 (d.Pc),.int .i64 (d.Sub.Kind),.int .i64 (d.Sub.A),.int .i64 (d.Sub.Pc),.int .i64 (d.Sub.E),.int .i64 (d.Sub.Row),.int .i64 (d.Sub.B),.int .i64 (d.Sub.H),.int .i64 (d.Sub.Out),.int .i64 (d.Sub.Code),.bool (d.Sub.cQ),.int .i64 (d.H),.int .i64 (d.Old),.int .i64 (d.eU),.int .i64 (d.Code)]) (A:=[]) (B:=[]) (fQ (aJR _)) (jF (c1:=[.int .i64 (d.aN)]) (c2:=[.int .i64 (d.Pc),.int .i64 (d.Sub.Kind),.int .i64 (d.Sub.A),.int .i64 (d.Sub.Pc),.int .i64 (d.Sub.E),.int .i64 (d.Sub.Row),.int .i64 (d.Sub.B),.int .i64 (d.Sub.H),.int .i64 (d.Sub.Out),.int .i64 (d.Sub.Code),.bool (d.Sub.cQ),.int .i64 (d.H),.int .i64 (d.Old),.int .i64 (d.eU),.int .i64 (d.Code)]) (A:=[]) (B:=[]) (fQ rfl) (jF (c1:=[.int .i64 (d.Pc)]) (c2:=[.int .i64 (d.Sub.Kind),.int .i64 (d.Sub.A),.int .i64 (d.Sub.Pc),.int .i64 (d.Sub.E),.int .i64 (d.Sub.Row),.int .i64 (d.Sub.B),.int .i64 (d.Sub.H),.int .i64 (d.Sub.Out),.int .i64 (d.Sub.Code),.bool (d.Sub.cQ),.int .i64 (d.H),.int .i64 (d.Old),.int .i64 (d.eU),.int .i64 (d.Code)]) (A:=[]) (B:=[]) (fQ rfl) (jF (c1:=[.int .i64 (d.Sub.Kind),.int .i64 (d.Sub.A),.int .i64 (d.Sub.Pc),.int .i64 (d.Sub.E),.int .i64 (d.Sub.Row),.int .i64 (d.Sub.B),.int .i64 (d.Sub.H),.int .i64 (d.Sub.Out),.int .i64 (d.Sub.Code),.bool (d.Sub.cQ)]) (c2:=[.int .i64 (d.H),.int .i64 (d.Old),.int .i64 (d.eU),.int .i64 (d.Code)]) (A:=[]) (B:=[]) (fQ (aP4 _)) (jF (c1:=[.int .i64 (d.H)]) (c2:=[.int .i64 (d.Old),.int .i64 (d.eU),.int .i64 (d.Code)]) (A:=[]) (B:=[]) (fQ rfl) (jF (c1:=[.int .i64 (d.Old)]) (c2:=[.int .i64 (d.eU),.int .i64 (d.Code)]) (A:=[]) (B:=[]) (fQ rfl) (jF (c1:=[.int .i64 (d.eU)]) (c2:=[.int .i64 (d.Code)]) (A:=[]) (B:=[]) (fQ rfl) (fQ rfl) rfl) rfl) rfl) rfl) rfl) rfl) rfl) rfl))
structure Queue where
  fX:List gA
  deriving DecidableEq,Inhabited
instance:aM Queue:=aM.via (fun d=>(d.fX))
instance:Fits Queue:=Fits.via (fun d=>(d.fX))
theorem aP5{S:cV}{w:World}{cs:List Value}{d:Queue}(h:aM.rd S w cs d):∃v0:Value,cs=[v0]∧aM.rd S w [v0] d.fX:=by
  obtain⟨u0,q0⟩:=I6 h
  rw [q0] at h
  exact⟨u0,q0,h⟩
theorem aP6(d:Queue){v0:Value}:OP [v0] d [fV [v0] d.fX]:=(show OP (α:=(List gA)) _ (d.fX) _ from aI5)
structure Ev where
  Kind:Int
  Who:Int
  aN:Int
  Cell:Int
  Handle:Int
  eU:Int
  Code:Int
  deriving DecidableEq,Inhabited
instance:aM Ev:=aM.via (fun d=>(d.Kind,d.Who,d.aN,d.Cell,d.Handle,d.eU,d.Code))
instance:Fits Ev:=Fits.via (fun d=>(d.Kind,d.Who,d.aN,d.Cell,d.Handle,d.eU,d.Code))
theorem aWP{S:cV}{w:World}{cs:List Value}{d:Ev}(h:aM.rd S w cs d):cs=[.int .i64 (d.Kind),.int .i64 (d.Who),.int .i64 (d.aN),.int .i64 (d.Cell),.int .i64 (d.Handle),.int .i64 (d.eU),.int .i64 (d.Code)]:=by
  obtain⟨c0,r0,e0,h0,n0⟩:=h
  have q0:c0=[_]:=h0
  obtain⟨c1,r1,e1,h1,n1⟩:=n0
  have q1:c1=[_]:=h1
  obtain⟨c2,r2,e2,h2,n2⟩:=n1
  have q2:c2=[_]:=h2
  obtain⟨c3,r3,e3,h3,n3⟩:=n2
  have q3:c3=[_]:=h3
  obtain⟨c4,r4,e4,h4,n4⟩:=n3
  have q4:c4=[_]:=h4
  obtain⟨c5,r5,e5,h5,n5⟩:=n4
  have q5:c5=[_]:=h5
  have q6:r5=[_]:=n5
  exact by rw [e0,e1,e2,e3,e4,e5,q0,q1,q2,q3,q4,q5,q6];rfl
instance:Flat Ev:=⟨fun h=>Flat.own_of (α:=Int×Int×Int×Int×Int×Int×Int) h,fun h=>Flat.no (α:=Int×Int×Int×Int×Int×Int×Int) h⟩
theorem aWQ(d:Ev):OP [.int .i64 (d.Kind),.int .i64 (d.Who),.int .i64 (d.aN),.int .i64 (d.Cell),.int .i64 (d.Handle),.int .i64 (d.eU),.int .i64 (d.Code)] d []:=(show OP (α:=Int×Int×Int×Int×Int×Int×Int) _ (d.Kind,d.Who,d.aN,d.Cell,d.Handle,d.eU,d.Code) _ from (jF (c1:=[.int .i64 (d.Kind)]) (c2:=[.int .i64 (d.Who),.int .i64 (d.aN),.int .i64 (d.Cell),.int .i64 (d.Handle),.int .i64 (d.eU),.int .i64 (d.Code)]) (A:=[]) (B:=[]) (fQ rfl) (jF (c1:=[.int .i64 (d.Who)]) (c2:=[.int .i64 (d.aN),.int .i64 (d.Cell),.int .i64 (d.Handle),.int .i64 (d.eU),.int .i64 (d.Code)]) (A:=[]) (B:=[]) (fQ rfl) (jF (c1:=[.int .i64 (d.aN)]) (c2:=[.int .i64 (d.Cell),.int .i64 (d.Handle),.int .i64 (d.eU),.int .i64 (d.Code)]) (A:=[]) (B:=[]) (fQ rfl) (jF (c1:=[.int .i64 (d.Cell)]) (c2:=[.int .i64 (d.Handle),.int .i64 (d.eU),.int .i64 (d.Code)]) (A:=[]) (B:=[]) (fQ rfl) (jF (c1:=[.int .i64 (d.Handle)]) (c2:=[.int .i64 (d.eU),.int .i64 (d.Code)]) (A:=[]) (B:=[]) (fQ rfl) (jF (c1:=[.int .i64 (d.eU)]) (c2:=[.int .i64 (d.Code)]) (A:=[]) (B:=[]) (fQ rfl) (fQ rfl) rfl) rfl) rfl) rfl) rfl) rfl))
structure aD where
  aB:aB
  Cells:List Int
  aR:List bX
  cG:List Queue
  Log:List Ev
  aN:Int
  deriving DecidableEq,Inhabited
instance:aM aD:=aM.via (fun d=>(d.aB,d.Cells,d.aR,d.cG,d.Log,d.aN))
instance:Fits aD:=Fits.via (fun d=>(d.aB,d.Cells,d.aR,d.cG,d.Log,d.aN))
structure Span where
  aP8:Int
  To:Int
  deriving DecidableEq,Inhabited
instance:aM Span:=aM.via (fun d=>(d.aP8,d.To))
instance:Fits Span:=Fits.via (fun d=>(d.aP8,d.To))
instance:Flat Span:=⟨fun h=>Flat.own_of (α:=Int×Int) h,fun h=>Flat.no (α:=Int×Int) h⟩
structure aK where
  b:List UInt8
  i:Int
  h:Int
  deriving DecidableEq,Inhabited
instance:aM aK:=aM.via (fun d=>(d.b,d.i,d.h))
instance:Fits aK:=Fits.via (fun d=>(d.b,d.i,d.h))
structure aP7 where
  cG:List Queue
  aS9:List Int
  deriving DecidableEq,Inhabited
instance:aM aP7:=aM.via (fun d=>(d.cG,d.aS9))
instance:Fits aP7:=Fits.via (fun d=>(d.cG,d.aS9))
end Go.Gv
end
noncomputable section
namespace Go.Gv
noncomputable section
def F8(x1:Bool):Option Bool:=
  some x1
def bH(x low high:Int):Option Bool:=
  (if decide (low≤x) then F8 (decide (x≤high)) else F8 false)
def NU:Option Bool:=
  some true
def kH(x3:Int)(x5:Bool):Option (Step Int (Out Unit Bool)):=
  (if x5 then some (.stop (Out.ret false)) else some (.next (bC (x3+1))))
def qL(c:aI):Int→Option (Step Int (Out Unit Bool))
  | x3=>(if decide (x3 < 3) then (idx c.bA x3).bind fun x4=>(if !x4.On then (if !(decide (x4=(⟨false,0,false,0⟩:gK))) then kH x3 true else (bH x4.aL 0 c.aL).bind fun x6=>(if !x6 then kH x3 true else (bH x4.Seen 0 2).bind fun x7=>kH x3 (!x7))) else (bH x4.aL 0 c.aL).bind fun x8=>(if !x8 then kH x3 true else (bH x4.Seen 0 2).bind fun x9=>kH x3 (!x9))) else some (.stop (Out.brk ())))
def E7:(Out Unit Bool)→Option Bool
  | .brk ()=>NU
  | .ret r=>some r
def mG(c:aI)(x1:Bool):Option Bool:=
  (if x1 then some false else (loop (qL c) 0).bind (E7))
def mU(c:aI):Option Bool:=
  (bH c.aL 0 100000).bind fun x10=>(if !x10 then mG c true else mG c ((c.bA.length:Int) != 3))
def NV(b:List Int):Option Bool:=
  some (decide ((b.length:Int)≤1000))
def mH(b:List Int):Int→Option (Step Int (Out Unit Bool))
  | x2=>(if decide (x2 < (b.length:Int)) then (idx b x2).bind fun x3=>(bH x3 0 255).bind fun x4=>(if !x4 then some (.stop (Out.ret false)) else some (.next (bC (x2+1)))) else some (.stop (Out.brk ())))
def E8(b:List Int):(Out Unit Bool)→Option Bool
  | .brk ()=>NV b
  | .ret r=>some r
def F9(b:List Int):Option Bool:=
  (loop (mH b) 0).bind (E8 b)
def XJ:Option Bool:=
  some true
def mI(h:aE):Int→Option (Step Int (Out Unit Bool))
  | x3=>(if decide (x3 < 6) then (idx h.Class x3).bind fun x4=>(bH x4 (-1) 2).bind fun x5=>(if !x5 then some (.stop (Out.ret false)) else some (.next (bC (x3+1)))) else some (.stop (Out.brk ())))
def XL:(Out Unit Bool)→Option Bool
  | .brk ()=>XJ
  | .ret r=>some r
def qM(h:aE)(x1:Bool):Option Bool:=
  (if x1 then some false else (loop (mI h) 0).bind (XL))
def zQ(h:aE):Option Bool:=
  (if (h.Bytes.length:Int) != 384 then qM h true else (if (h.Class.length:Int) != 6 then qM h true else (F9 h.Bytes).bind fun x6=>qM h (!x6)))
def aAM(x5:Int):Option Int:=
  some x5
def sL(b:List Int)(at_ width:Int):(Int×Int)→Option (Step (Int×Int) Int)
  | (x3,x4)=>(if decide (x4 < width) then (idx b (bC (at_+x4))).bind fun x6=>some (.next (bC ((bC (x3 * 256))+x6),bC (x4+1))) else some (.stop (x3)))
def aAN:Int→Option Int
  | x5=>aAM x5
def sM(b:List Int)(at_ width:Int):Option Int:=
  (loop (sL b at_ width) (0,0)).bind (aAN)
def mV(c:Int):Option Int:=
  (if c == 0 then some 8 else (if c == 1 then some 16 else (if c == 2 then some 40 else some 0)))
def vT(c:Int):Option Int:=
  (bH c 0 2).bind fun x1=>(if !x1 then some 0 else (mV c).bind fun x2=>some (bC (4+x2)))
def k9(c:Int):Option Int:=
  (bH c 0 2).bind fun x1=>(if !x1 then some 0 else (vT c).bind fun x2=>need (x2≠0) (some (bC (Int.tdiv 56 x2))))
def y5(slot:Int):Option Int:=
  (bH slot 0 23).bind fun x1=>(if !x1 then some (-1) else some (bC (Int.tdiv slot 4)))
def uG(slot:Int):Option Int:=
  (bH slot 0 23).bind fun x1=>(if !x1 then some (-1) else some (Int.tmod slot 4))
def DF(slot c:Int)(x1:Bool):Option Int:=
  (if x1 then some (-1) else (y5 slot).bind fun x2=>(uG slot).bind fun x3=>(vT c).bind fun x4=>some (bC ((bC ((bC (x2 * 64))+8))+(bC (x3 * x4)))))
def pM(slot c:Int):Option Int:=
  (y5 slot).bind fun x5=>(if decide (x5 < 0) then DF slot c true else (uG slot).bind fun x6=>(k9 c).bind fun x7=>(bH x6 0 (bC (x7 - 1))).bind fun x8=>DF slot c (!x8))
def sN(page index:Int)(x1:Bool):Option Int:=
  (if x1 then some (-1) else some (bC ((bC (page * 4))+index)))
def pJ(page index:Int):Option Int:=
  (bH page 0 5).bind fun x2=>(if !x2 then sN page index true else (bH index 0 3).bind fun x3=>sN page index (!x3))
def aAO:Option Bool:=
  some true
def oE(h:aE)(p:Int):Int→Option (Step Int (Out Unit Bool))
  | x3=>(if decide (x3 < (bC ((bC (p * 64))+64))) then (idx h.Bytes x3).bind fun x4=>(if x4 != 0 then some (.stop (Out.ret false)) else some (.next (bC (x3+1)))) else some (.stop (Out.brk ())))
def aAP:(Out Unit Bool)→Option Bool
  | .brk ()=>aAO
  | .ret r=>some r
def aAQ:Option Bool:=
  some true
def oF(h:aE)(p x1:Int):Int→Option (Step Int (Out Unit Bool))
  | x9=>(k9 x1).bind fun x10=>(if decide (x9 < x10) then (pJ p x9).bind fun x11=>(pM x11 x1).bind fun x12=>(sM h.Bytes x12 4).bind fun x13=>(bH x13 1 7).bind fun x14=>(if !x14 then some (.stop (Out.ret false)) else some (.next (bC (x9+1)))) else some (.stop (Out.brk ())))
def aAR:(Out Unit Bool)→Option Bool
  | .brk ()=>aAQ
  | .ret r=>some r
def PC(h:aE)(p x1:Int):Option Bool:=
  (loop (oF h p x1) 0).bind (aAR)
def oG(h:aE)(p:Int):Int→Option (Step Int (Out Unit Bool))
  | x7=>(if decide (x7 < (bC ((bC (p * 64))+8))) then (idx h.Bytes x7).bind fun x15=>(if x15 != 0 then some (.stop (Out.ret false)) else some (.next (bC (x7+1)))) else some (.stop (Out.brk ())))
def PD(h:aE)(p x1:Int):(Out Unit Bool)→Option Bool
  | .brk ()=>PC h p x1
  | .ret r=>some r
def jR(h:aE)(p x1:Int)(x5:Bool):Option Bool:=
  (if x5 then some false else (loop (oG h p) (bC ((bC (p * 64))+3))).bind (PD h p x1))
def I8(h:aE)(p:Int):Option Bool:=
  (idx h.Class p).bind fun x1=>(if decide (x1 < 0) then (loop (oE h p) (bC (p * 64))).bind (aAP) else (idx h.Bytes (bC (p * 64))).bind fun x16=>(if x16 != 171 then jR h p x1 true else (idx h.Bytes (bC ((bC (p * 64))+1))).bind fun x17=>(if x17 != x1 then jR h p x1 true else (idx h.Bytes (bC ((bC (p * 64))+2))).bind fun x18=>(k9 x1).bind fun x19=>jR h p x1 (x18 != x19))))
def aAS:Option Bool:=
  some true
def sO(h:aE):Int→Option (Step Int (Out Unit Bool))
  | x3=>(if decide (x3 < 6) then (I8 h x3).bind fun x4=>(if !x4 then some (.stop (Out.ret false)) else some (.next (bC (x3+1)))) else some (.stop (Out.brk ())))
def aAT:(Out Unit Bool)→Option Bool
  | .brk ()=>aAS
  | .ret r=>some r
def y6(h:aE):Option Bool:=
  (zQ h).bind fun x1=>(if !x1 then some false else (loop (sO h) 0).bind (aAT))
def aC9:Option Bool:=
  some false
def rK(l:List Int)(x:Int):Int→Option (Step Int (Out Unit Bool))
  | x2=>(if decide (x2 < (l.length:Int)) then (idx l x2).bind fun x3=>(if x3 == x then some (.stop (Out.ret true)) else some (.next (bC (x2+1)))) else some (.stop (Out.brk ())))
def aDA:(Out Unit Bool)→Option Bool
  | .brk ()=>aC9
  | .ret r=>some r
def yL(l:List Int)(x:Int):Option Bool:=
  (loop (rK l x) 0).bind (aDA)
def aDB(x10:List Int):Option (List Int):=
  some x10
def vU(l:aA):((List Int)×Int)→Option (Step ((List Int)×Int) (List Int))
  | (x8,x9)=>(if decide (x9 < (l.bJ.length:Int)) then (idx l.bJ x9).bind fun x11=>need (x8.length+x11.aP.length≤1073741824) (some (.next (x8++x11.aP,bC (x9+1)))) else some (.stop (x8)))
def aDC:(List Int)→Option (List Int)
  | x10=>aDB x10
def RP(l:aA)(x5:List Int):Option (List Int):=
  (loop (vU l) (x5,0)).bind (aDC)
def vV(l:aA):((List Int)×Int)→Option (Step ((List Int)×Int) (List Int))
  | (x3,x4)=>(if decide (x4 < (l.Global.length:Int)) then (idx l.Global x4).bind fun x12=>need (x3.length+x12.aP.length≤1073741824) (some (.next (x3++x12.aP,bC (x4+1)))) else some (.stop (x3)))
def RQ(l:aA):(List Int)→Option (List Int)
  | x5=>RP l x5
def CU(l:aA):Option (List Int):=
  (loop (vV l) (([]:List Int),0)).bind (RQ l)
def XM:Option Bool:=
  some true
def xE(x6:Int)(x7:Bool):Option (Step Int (Out Unit Bool)):=
  (if x7 then some (.stop (Out.ret false)) else some (.next (bC (x6+1))))
def mJ(x4:(List Int)):Int→Option (Step Int (Out Unit Bool))
  | x6=>(if decide (x6 < (x4.length:Int)) then (idx x4 x6).bind fun x8=>(bH x8 0 23).bind fun x9=>(if !x9 then xE x6 true else need (0≤(x6:Int)∧(x6:Int)≤(x4.length:Int)) ((idx x4 x6).bind fun x10=>(yL ((x4.take x6.toNat).drop 0) x10).bind fun x11=>xE x6 x11)) else some (.stop (Out.brk ())))
def XN:(Out Unit Bool)→Option Bool
  | .brk ()=>XM
  | .ret r=>some r
def NW(l:aA):Option Bool:=
  (CU l).bind fun x4=>(loop (mJ x4) 0).bind (XN)
def mK(l:aA):Int→Option (Step Int (Out Unit Bool))
  | x3=>(if decide (x3 < (l.bJ.length:Int)) then (idx l.bJ x3).bind fun x12=>(if decide (2 < (x12.aP.length:Int)) then some (.stop (Out.ret false)) else some (.next (bC (x3+1)))) else some (.stop (Out.brk ())))
def NX(l:aA):(Out Unit Bool)→Option Bool
  | .brk ()=>NW l
  | .ret r=>some r
def xF(l:aA)(x1:Bool):Option Bool:=
  (if x1 then some false else (loop (mK l) 0).bind (NX l))
def pN(l:aA):Option Bool:=
  (if (l.Global.length:Int) != 3 then xF l true else xF l ((l.bJ.length:Int) != 9))
def qN(h:aE)(x1:Int)(x2:Bool):Option Int:=
  (if x2 then some (-1) else (idx h.Class x1).bind fun x3=>some x3)
def iH(h:aE)(slot:Int):Option Int:=
  (y5 slot).bind fun x1=>(if decide (x1 < 0) then qN h x1 true else (idx h.Class x1).bind fun x4=>(if decide (x4 < 0) then qN h x1 true else (idx h.Class x1).bind fun x5=>(uG slot).bind fun x6=>(k9 x5).bind fun x7=>qN h x1 (decide (x7≤x6))))
def sP(h:aE)(slot:Int):Option Int:=
  (iH h slot).bind fun x1=>(pM slot x1).bind fun x2=>(sM h.Bytes x2 4).bind fun x3=>some x3
def VV:Option Bool:=
  some true
def uH(x2:Int)(x3:Bool):Option (Step Int (Out Unit Bool)):=
  (if x3 then some (.stop (Out.ret false)) else some (.next (bC (x2+1))))
def lN(h:aE)(l:List Int)(c:Int):Int→Option (Step Int (Out Unit Bool))
  | x2=>(if decide (x2 < (l.length:Int)) then (idx l x2).bind fun x4=>(iH h x4).bind fun x5=>(if x5 != c then uH x2 true else (idx l x2).bind fun x6=>(sP h x6).bind fun x7=>uH x2 (decide (6 < x7))) else some (.stop (Out.brk ())))
def VW:(Out Unit Bool)→Option Bool
  | .brk ()=>VV
  | .ret r=>some r
def vW(h:aE)(l:List Int)(c:Int):Option Bool:=
  (loop (lN h l c) 0).bind (VW)
def rL(w_ c:Int)(x1:Bool):Option Int:=
  (if x1 then some (-1) else some (bC ((bC (w_ * 3))+c)))
def lV(w_ c:Int):Option Int:=
  (bH w_ 0 2).bind fun x2=>(if !x2 then rL w_ c true else (bH c 0 2).bind fun x3=>rL w_ c (!x3))
def aDD:Option Bool:=
  some true
def RR(x3:Int):Option (Step Int (Out Unit Bool)):=
  some (.next (bC (x3+1)))
def vX(m:Mem)(x3:Int):Int→Option (Step Int (Out Unit Bool))
  | x7=>(if decide (x7 < 3) then (lV x7 x3).bind fun x8=>(idx m.aA.bJ x8).bind fun x9=>(vW m.aE x9.aP x3).bind fun x10=>(if !x10 then some (.stop (Out.ret false)) else some (.next (bC (x7+1)))) else some (.stop (Out.brk ())))
def RS(x3:Int):(Out Unit Bool)→Option (Step Int (Out Unit Bool))
  | .brk ()=>RR x3
  | .ret r=>some (.stop (Out.ret r))
def vY(m:Mem):Int→Option (Step Int (Out Unit Bool))
  | x3=>(if decide (x3 < 3) then (idx m.aA.Global x3).bind fun x4=>(vW m.aE x4.aP x3).bind fun x5=>(if !x5 then some (.stop (Out.ret false)) else (loop (vX m x3) 0).bind (RS x3)) else some (.stop (Out.brk ())))
def aDE:(Out Unit Bool)→Option Bool
  | .brk ()=>aDD
  | .ret r=>some r
def DG(m:Mem)(x1:Bool):Option Bool:=
  (if x1 then some false else (loop (vY m) 0).bind (aDE))
def sQ(m:Mem):Option Bool:=
  (y6 m.aE).bind fun x11=>(if !x11 then DG m true else (pN m.aA).bind fun x12=>DG m (!x12))
def aAU(x5:List b8):Option (List b8):=
  some x5
def sS(l:List aO):((List b8)×Int)→Option (Step ((List b8)×Int) (List b8))
  | (x3,x4)=>(if decide (x4 < (l.length:Int)) then (idx l x4).bind fun x6=>need (x3.length+x6.Rows.length≤1073741824) (some (.next (x3++x6.Rows,bC (x4+1)))) else some (.stop (x3)))
def aAV:(List b8)→Option (List b8)
  | x5=>aAU x5
def y7(l:List aO):Option (List b8):=
  (loop (sS l) (([]:List b8),0)).bind (aAV)
def uI(x1:Bool):Option Bool:=
  some x1
def gC(h:Int):Option Bool:=
  (bH h 32 223).bind fun x2=>(if x2 then uI (decide ((Int.tmod h 32) < 24)) else uI false)
def eD(h:Int):Option Int:=
  (gC h).bind fun x1=>(if !x1 then some (-1) else some (Int.tmod h 32))
def XO:Option Bool:=
  some true
def qO(x5:List Int)(x6 x8:Int)(x9:Bool):Option (Step ((List Int)×Int) (Out Unit Bool)):=
  (if x9 then some (.stop (Out.ret false)) else need (x5.length+([x8]).length≤1073741824) (some (.next (x5++([x8]),bC (x6+1)))))
def qP(x1:(List b8)):((List Int)×Int)→Option (Step ((List Int)×Int) (Out Unit Bool))
  | (x5,x6)=>(if decide (x6 < (x1.length:Int)) then (idx x1 x6).bind fun x7=>(eD x7.Handle).bind fun x8=>(if decide (x8 < 0) then qO x5 x6 x8 true else (bH x7.aL 0 100000).bind fun x10=>(if !x10 then qO x5 x6 x8 true else (yL x5 x8).bind fun x11=>qO x5 x6 x8 x11)) else some (.stop (Out.brk ())))
def XP:(Out Unit Bool)→Option Bool
  | .brk ()=>XO
  | .ret r=>some r
def xG(x1:(List b8))(x2:Bool):Option Bool:=
  (if x2 then some false else (loop (qP x1) (([]:List Int),0)).bind (XP))
def uJ(l:List aO):Option Bool:=
  (y7 l).bind fun x1=>(if (l.length:Int) != 3 then xG x1 true else xG x1 (decide (24 < (x1.length:Int))))
def RT(z:List Int):Option Bool:=
  some ((z.length:Int) == 3)
def DH(x2:Int)(x3:Bool):Option (Step Int (Out Unit Bool)):=
  (if x3 then some (.stop (Out.ret false)) else some (.next (bC (x2+1))))
def vZ(z:List Int):Int→Option (Step Int (Out Unit Bool))
  | x2=>(if decide (x2 < (z.length:Int)) then (idx z x2).bind fun x4=>(if x4 != 0 then (idx z x2).bind fun x5=>(gC x5).bind fun x6=>DH x2 (!x6) else DH x2 false) else some (.stop (Out.brk ())))
def RU(z:List Int):(Out Unit Bool)→Option Bool
  | .brk ()=>RT z
  | .ret r=>some r
def CV(z:List Int):Option Bool:=
  (loop (vZ z) 0).bind (RU z)
def I9(l:aA)(slot:Int):Option Bool:=
  (CU l).bind fun x1=>(yL x1 slot).bind fun x2=>some x2
def GA(m:Mem)(slot:Int):Option Int:=
  (iH m.aE slot).bind fun x1=>(if decide (x1 < 0) then some 0 else (I9 m.aA slot).bind fun x2=>(if x2 then some 1 else (sP m.aE slot).bind fun x3=>(if decide (6 < x3) then some 2 else some 3)))
def zR(h:Int):Option Int:=
  (gC h).bind fun x1=>(if !x1 then some 0 else some (bC (Int.tdiv h 32)))
def qQ(x1:Bool):Option Bool:=
  some x1
def pO(m:Mem)(h:Int):Option Bool:=
  (gC h).bind fun x2=>(if x2 then (eD h).bind fun x3=>(GA m x3).bind fun x4=>(if x4 == 3 then (eD h).bind fun x5=>(sP m.aE x5).bind fun x6=>(zR h).bind fun x7=>qQ (x6 == x7) else qQ false) else qQ false)
def aAW:Option Bool:=
  some true
def zT(x4:Int)(x5:Bool):Option (Step Int (Out Unit Bool)):=
  (if x5 then some (.stop (Out.ret false)) else some (.next (bC (x4+1))))
def sT(b:aB)(x2:(List b8)):Int→Option (Step Int (Out Unit Bool))
  | x4=>(if decide (x4 < (x2.length:Int)) then (idx x2 x4).bind fun x6=>(pO b.Mem x6.Handle).bind fun x7=>(if !x7 then zT x4 true else zT x4 (decide (b.aI.aL < x6.aL))) else some (.stop (Out.brk ())))
def aAX:(Out Unit Bool)→Option Bool
  | .brk ()=>aAW
  | .ret r=>some r
def oH(b:aB)(x1:Bool):Option Bool:=
  (if x1 then some false else (y7 b.aV).bind fun x2=>(loop (sT b x2) 0).bind (aAX))
def EJ(b:aB):Option Bool:=
  (sQ b.Mem).bind fun x8=>(if !x8 then oH b true else (mU b.aI).bind fun x9=>(if !x9 then oH b true else (uJ b.aV).bind fun x10=>(if !x10 then oH b true else (CV b.iC).bind fun x11=>oH b (!x11))))
def jZ(x1:Bool):Option Bool:=
  some x1
def sU(kind:Int):Option Bool:=
  (if kind == 1 then jZ true else (if kind == 2 then jZ true else (if kind == 3 then jZ true else jZ (kind == 7))))
def GB(x3:Bool):Option Bool:=
  some x3
def GC(x4:Bool):Option Bool:=
  some x4
def zU(o_:gA)(x2:Bool):Option Bool:=
  (if x2 then some false else (if o_.Kind != 1 then (if o_.eT == 0 then GB (o_.eU == 0) else GB false) else (bH o_.eT 0 100).bind fun x5=>(if x5 then (bH o_.eU 0 65535).bind fun x6=>GC x6 else GC false)))
def HC(o_:gA):Option Bool:=
  (bH o_.Kind 1 7).bind fun x1=>(if !x1 then some false else (sU o_.Kind).bind fun x7=>(if !x7 then (if o_.Cell != 0 then zU o_ true else (bH o_.Cell 0 1).bind fun x8=>zU o_ (!x8)) else (bH o_.Cell 0 1).bind fun x9=>zU o_ (!x9)))
def NY(todo:List Queue):Option Bool:=
  some ((todo.length:Int) == 3)
def NZ(x2:Int):Option (Step Int (Out Unit Bool)):=
  some (.next (bC (x2+1)))
def mL(todo:List Queue)(x2:Int):Int→Option (Step Int (Out Unit Bool))
  | x5=>(idx todo x2).bind fun x6=>(if decide (x5 < (x6.fX.length:Int)) then (idx todo x2).bind fun x7=>(idx x7.fX x5).bind fun x8=>(HC x8).bind fun x9=>(if !x9 then some (.stop (Out.ret false)) else some (.next (bC (x5+1)))) else some (.stop (Out.brk ())))
def N0(x2:Int):(Out Unit Bool)→Option (Step Int (Out Unit Bool))
  | .brk ()=>NZ x2
  | .ret r=>some (.stop (Out.ret r))
def mM(todo:List Queue):Int→Option (Step Int (Out Unit Bool))
  | x2=>(if decide (x2 < (todo.length:Int)) then (idx todo x2).bind fun x3=>(if decide (12 < (x3.fX.length:Int)) then some (.stop (Out.ret false)) else (loop (mL todo x2) 0).bind (N0 x2)) else some (.stop (Out.brk ())))
def N2(todo:List Queue):(Out Unit Bool)→Option Bool
  | .brk ()=>NY todo
  | .ret r=>some r
def zV(todo:List Queue):Option Bool:=
  (loop (mM todo) 0).bind (N2 todo)
def xH(x1:Bool):Option Bool:=
  some x1
def gX(h:Int):Option Bool:=
  (if h == 0 then xH true else (gC h).bind fun x2=>xH x2)
def XQ:Option Bool:=
  some true
def eE(x5:Int)(x7:Bool):Option (Step Int (Out Unit Bool)):=
  (if x7 then some (.stop (Out.ret false)) else some (.next (bC (x5+1))))
def mN(s:aD):Int→Option (Step Int (Out Unit Bool))
  | x5=>(if decide (x5 < 3) then (idx s.aR x5).bind fun x6=>(if !x6.iV then (if !(decide (x6=(⟨false,(⟨0,0,0,0⟩:gA),0,0,(⟨0,0,0,0,0,0,0,0,0,false⟩:Sub),0,0,0,0⟩:bX))) then eE x5 true else (if x6.iV then (HC x6.Op).bind fun x8=>(if !x8 then eE x5 true else (gX x6.H).bind fun x9=>(if !x9 then eE x5 true else (gX x6.Old).bind fun x10=>eE x5 (!x10))) else (gX x6.H).bind fun x11=>(if !x11 then eE x5 true else (gX x6.Old).bind fun x12=>eE x5 (!x12)))) else (if x6.iV then (HC x6.Op).bind fun x13=>(if !x13 then eE x5 true else (gX x6.H).bind fun x14=>(if !x14 then eE x5 true else (gX x6.Old).bind fun x15=>eE x5 (!x15))) else (gX x6.H).bind fun x16=>(if !x16 then eE x5 true else (gX x6.Old).bind fun x17=>eE x5 (!x17)))) else some (.stop (Out.brk ())))
def XR:(Out Unit Bool)→Option Bool
  | .brk ()=>XQ
  | .ret r=>some r
def N3(s:aD):Option Bool:=
  (loop (mN s) 0).bind (XR)
def mO(s:aD):Int→Option (Step Int (Out Unit Bool))
  | x3=>(if decide (x3 < 2) then (idx s.Cells x3).bind fun x18=>(gX x18).bind fun x19=>(if !x19 then some (.stop (Out.ret false)) else some (.next (bC (x3+1)))) else some (.stop (Out.brk ())))
def N4(s:aD):(Out Unit Bool)→Option Bool
  | .brk ()=>N3 s
  | .ret r=>some r
def kI(s:aD)(x1:Bool):Option Bool:=
  (if x1 then some false else (loop (mO s) 0).bind (N4 s))
def uK(s:aD):Option Bool:=
  (EJ s.aB).bind fun x20=>(if !x20 then kI s true else (if (s.Cells.length:Int) != 2 then kI s true else (if (s.aR.length:Int) != 3 then kI s true else (zV s.cG).bind fun x21=>(if !x21 then kI s true else (bH s.aN 0 1000000).bind fun x22=>kI s (!x22)))))
def lH(b:List Int):Option (List Int):=
  need (([]:List Int).length+b.length≤1073741824) (some (([]:List Int)++b))
def y8(h:aE):Option aE:=
  (lH h.Bytes).bind fun x1=>(lH h.Class).bind fun x2=>some (⟨x1,x2⟩:aE)
def aAY(x5:List aH):Option (List aH):=
  some x5
def HK(l:List aH):((List aH)×Int)→Option (Step ((List aH)×Int) (List aH))
  | (x3,x4)=>(if decide (x4 < (l.length:Int)) then (idx l x4).bind fun x6=>(lH x6.aP).bind fun x7=>need (x3.length+([(⟨x7⟩:aH)]).length≤1073741824) (some (.next (x3++([(⟨x7⟩:aH)]),bC (x4+1)))) else some (.stop (x3)))
def aAZ:(List aH)→Option (List aH)
  | x5=>aAY x5
def EK(l:List aH):Option (List aH):=
  (loop (HK l) (([]:List aH),0)).bind (aAZ)
def sV(l:aA):Option aA:=
  (EK l.Global).bind fun x1=>(EK l.bJ).bind fun x2=>some (⟨x1,x2⟩:aA)
def sW(m:Mem):Option Mem:=
  (y8 m.aE).bind fun x1=>(sV m.aA).bind fun x2=>some (⟨x1,x2⟩:Mem)
def mW(c:aI):Option aI:=
  need (([]:List gK).length+c.bA.length≤1073741824) (some (⟨c.aL,([]:List gK)++c.bA⟩:aI))
def XS(x5:List aO):Option (List aO):=
  some x5
def E9(l:List aO):((List aO)×Int)→Option (Step ((List aO)×Int) (List aO))
  | (x3,x4)=>(if decide (x4 < (l.length:Int)) then (idx l x4).bind fun x6=>need (([]:List b8).length+x6.Rows.length≤1073741824) (need (x3.length+([(⟨([]:List b8)++x6.Rows⟩:aO)]).length≤1073741824) (some (.next (x3++([(⟨([]:List b8)++x6.Rows⟩:aO)]),bC (x4+1))))) else some (.stop (x3)))
def XT:(List aO)→Option (List aO)
  | x5=>XS x5
def uL(l:List aO):Option (List aO):=
  (loop (E9 l) (([]:List aO),0)).bind (XT)
def zW(b:aB):Option aB:=
  (sW b.Mem).bind fun x1=>(mW b.aI).bind fun x2=>(uL b.aV).bind fun x3=>(lH b.iC).bind fun x4=>some (⟨x1,x2,x3,x4⟩:aB)
def TZ(x5:List Queue):Option (List Queue):=
  some x5
def zX(l:List Queue):((List Queue)×Int)→Option (Step ((List Queue)×Int) (List Queue))
  | (x3,x4)=>(if decide (x4 < (l.length:Int)) then (idx l x4).bind fun x6=>need (([]:List gA).length+x6.fX.length≤1073741824) (need (x3.length+([(⟨([]:List gA)++x6.fX⟩:Queue)]).length≤1073741824) (some (.next (x3++([(⟨([]:List gA)++x6.fX⟩:Queue)]),bC (x4+1))))) else some (.stop (x3)))
def T0:(List Queue)→Option (List Queue)
  | x5=>TZ x5
def sY(l:List Queue):Option (List Queue):=
  (loop (zX l) (([]:List Queue),0)).bind (T0)
def FA(x1:aD):Option aD:=
  some x1
def GD(s:aD):Option aD:=
  (zW s.aB).bind fun x2=>(lH s.Cells).bind fun x3=>need (([]:List bX).length+s.aR.length≤1073741824)<|(sY s.cG).bind fun x4=>need (([]:List Ev).length+s.Log.length≤1073741824)<|FA (⟨x2,x3,([]:List bX)++s.aR,x4,([]:List Ev)++s.Log,s.aN⟩:aD)
def eH(kind a_:Int):Option Sub:=
  some (⟨kind,a_,0,0,0,0,0,0,0,false⟩:Sub)
def dY(s:aD)(w_:Int)(x2:Queue)(x3:gA)(x4:bX):Option aD:=
  (idx s.aR w_).bind fun x5=>need (s.Log.length+([(⟨1,w_,bC (s.aN+1),x3.Cell,0,0,0⟩:Ev)]).length≤1073741824) (some (⟨s.aB,s.Cells,s.aR.set w_.toNat x4,s.cG.set w_.toNat (⟨(x2.fX.take x2.fX.length).drop ((1:Int).toNat)⟩:Queue),s.Log++([(⟨1,w_,bC (s.aN+1),x3.Cell,0,0,0⟩:Ev)]),bC (s.aN+1)⟩:aD))
def jC(s:aD)(w_:Int)(x2:Queue)(x3:gA)(x7:Bool):Option aD:=
  (if x7 then (eH 5 0).bind fun x8=>(idx s.aB.aI.bA w_).bind fun x9=>(if x9.On then dY s w_ x2 x3 (⟨true,x3,bC (s.aN+1),9,x8,0,0,0,1⟩:bX) else dY s w_ x2 x3 (⟨true,x3,bC (s.aN+1),0,x8,0,0,0,0⟩:bX)) else (if x3.Kind == 4 then (eH 3 0).bind fun x10=>dY s w_ x2 x3 (⟨true,x3,bC (s.aN+1),0,x10,0,0,0,0⟩:bX) else dY s w_ x2 x3 (⟨true,x3,bC (s.aN+1),0,(⟨0,0,0,0,0,0,0,0,0,false⟩:Sub),0,0,0,0⟩:bX)))
def hJ(s:aD)(w_:Int)(x1:Bool):Option aD:=
  (if x1 then some s else (idx s.cG w_).bind fun x2=>(idx x2.fX 0).bind fun x3=>need (0≤(1:Int)∧(1:Int)≤(x2.fX.length:Int)) ((if x3.Kind == 1 then (eH 1 x3.eT).bind fun x6=>dY s w_ x2 x3 (⟨true,x3,bC (s.aN+1),0,x6,0,0,0,0⟩:bX) else (if x3.Kind == 2 then jC s w_ x2 x3 true else jC s w_ x2 x3 (x3.Kind == 5)))))
def v5(s:aD)(w_:Int):Option aD:=
  (idx s.cG w_).bind fun x11=>(if (x11.fX.length:Int) == 0 then hJ s w_ true else hJ s w_ (s.aN == 1000000))
def XU:Option Int:=
  some (-1)
def iW(size:Int):Int→Option (Step Int (Out Unit Int))
  | x2=>(if decide (x2 < 3) then (mV x2).bind fun x3=>(bH size 1 x3).bind fun x4=>(if x4 then some (.stop (Out.ret x2)) else some (.next (bC (x2+1)))) else some (.stop (Out.brk ())))
def XV:(Out Unit Int)→Option Int
  | .brk ()=>XU
  | .ret r=>some r
def zY(size:Int):Option Int:=
  (loop (iW size) 0).bind (XV)
def XW(x7:List Int):Option (List Int):=
  some x7
def qR(at_:Int):((List Int)×Int×Int)→Option (Step ((List Int)×Int×Int) (List Int))
  | (x4,x5,x6)=>(if decide (0≤x6) then (idx x4 (bC (at_+x6))).bind fun x8=>some (.next (x4.set ((bC (at_+x6)).toNat) (Int.tmod x5 256),bC (Int.tdiv x5 256),bC (x6 - 1))) else some (.stop (x4)))
def XX:(List Int)→Option (List Int)
  | x7=>XW x7
def jH(b:List Int)(at_ width n:Int):Option (List Int):=
  (loop (qR at_) (b,n,bC (width - 1))).bind (XX)
def XY(h:aE):Option (aE×(List Int)):=
  some (h,([]:List Int))
def FB(x2:Int):Option (Step Int (Out Unit (aE×(List Int)))):=
  some (.next (bC (x2+1)))
def XZ(h:aE)(c x2:Int)(x14 x15:List Int):Option (Step Int (Out Unit (aE×(List Int)))):=
  some (.stop (Out.ret ((⟨x15,h.Class.set x2.toNat c⟩:aE),x14)))
def FC(x2:Int)(x11:List Int)(x12:Int)(x17:List Int):Option (Step ((List Int)×Int×(List Int)) ((List Int)×(List Int))):=
  (pJ x2 x12).bind fun x18=>need (x11.length+([x18]).length≤1073741824) (some (.next (x11++([x18]),bC (x12+1),x17)))
def xI(c x2:Int):((List Int)×Int×(List Int))→Option (Step ((List Int)×Int×(List Int)) ((List Int)×(List Int)))
  | (x11,x12,x13)=>(k9 c).bind fun x16=>(if decide (x12 < x16) then (pJ x2 x12).bind fun x19=>(pM x19 c).bind fun x20=>(jH x13 x20 4 1).bind fun x21=>FC x2 x11 x12 x21 else some (.stop ((x11,x13))))
def X0(h:aE)(c x2:Int):((List Int)×(List Int))→Option (Step Int (Out Unit (aE×(List Int))))
  | (x14,x15)=>XZ h c x2 x14 x15
def kJ(h:aE)(c:Int):Int→Option (Step Int (Out Unit (aE×(List Int))))
  | x2=>(if decide (x2 < 6) then (idx h.Class x2).bind fun x3=>(if x3 != (-1) then FB x2 else (idx h.Bytes (bC (x2 * 64))).bind fun x4=>(idx (h.Bytes.set ((bC (x2 * 64)).toNat) 171) (bC ((bC (x2 * 64))+1))).bind fun x5=>(k9 c).bind fun x6=>(idx ((h.Bytes.set ((bC (x2 * 64)).toNat) 171).set ((bC ((bC (x2 * 64))+1)).toNat) c) (bC ((bC (x2 * 64))+2))).bind fun x7=>(loop (xI c x2) (([]:List Int),0,((h.Bytes.set ((bC (x2 * 64)).toNat) 171).set ((bC ((bC (x2 * 64))+1)).toNat) c).set ((bC ((bC (x2 * 64))+2)).toNat) x6)).bind (X0 h c x2)) else some (.stop (Out.brk ())))
def X2(h:aE):(Out Unit (aE×(List Int)))→Option (aE×(List Int))
  | .brk ()=>XY h
  | .ret r=>some r
def pP(h:aE)(c:Int):Option (aE×(List Int)):=
  (loop (kJ h c) 0).bind (X2 h)
def FD(m:Mem)(c:Int)(x1:aE×(List Int))(x2:aH)(x3:Int):Option (Mem×Int):=
  some ((⟨x1.1,(⟨m.aA.Global.set c.toNat (⟨x2.aP++((x1.2.take x1.2.length).drop ((1:Int).toNat))⟩:aH),m.aA.bJ⟩:aA)⟩:Mem),x3)
def zZ(m:Mem)(c:Int):Option (Mem×Int):=
  (pP m.aE c).bind fun x1=>(if (x1.2.length:Int) == 0 then some ((⟨x1.1,m.aA⟩:Mem),(-1)) else (idx m.aA.Global c).bind fun x2=>need (0≤(1:Int)∧(1:Int)≤(x1.2.length:Int)) (need (x2.aP.length+((x1.2.take x1.2.length).drop ((1:Int).toNat)).length≤1073741824) ((idx x1.2 0).bind fun x4=>FD m c x1 x2 x4)))
def KH(s:aH)(x1:Int):Option (aH×Int):=
  some ((⟨(s.aP.take ((bC ((s.aP.length:Int) - 1)).toNat)).drop 0⟩:aH),x1)
def pQ(s:aH):Option (aH×Int):=
  (if (s.aP.length:Int) == 0 then some (s,(-1)) else need (0≤(bC ((s.aP.length:Int) - 1):Int)∧(bC ((s.aP.length:Int) - 1):Int)≤(s.aP.length:Int)) ((idx s.aP (bC ((s.aP.length:Int) - 1))).bind fun x2=>KH s x2))
def cC(s:Sub)(code:Int):Option Sub:=
  some ({s with Code:=code,cQ:=true}:Sub)
def lO(slot gen:Int)(x1:Bool):Option Int:=
  (if x1 then some 0 else some (bC ((bC (gen * 32))+slot)))
def nF(slot gen:Int):Option Int:=
  (bH slot 0 23).bind fun x2=>(if !x2 then lO slot gen true else (bH gen 1 6).bind fun x3=>lO slot gen (!x3))
def v7(m:Mem)(slot:Int):Option Int:=
  (sP m.aE slot).bind fun x1=>(nF slot x1).bind fun x2=>some x2
def MR(b:aB)(s:Sub)(slot pc:Int):Option Sub:=
  (if decide (0≤slot) then (v7 b.Mem slot).bind fun x1=>(cC ({s with Out:=x1}:Sub) 0).bind fun x2=>some x2 else some ({s with Pc:=pc}:Sub))
def uM(s:Sub)(x3:Int)(x5:Bool)(x6:aB):Option (aB×Sub):=
  (if x5 then (cC s 3).bind fun x7=>some (x6,x7) else (MR x6 s x3 (bC (s.Pc+1))).bind fun x8=>some (x6,x8))
def lP(s:Sub)(x3:Int)(x4:aB):Option (aB×Sub):=
  (if decide (x3 < 0) then uM s x3 (s.Pc == 3) x4 else uM s x3 false x4)
def uN(b:aB)(s:Sub)(x1:Int)(x12:Bool):Option (aB×Sub):=
  (if x12 then (idx b.Mem.aA.Global x1).bind fun x13=>(pQ x13).bind fun x14=>lP s x14.2 ({b with Mem:=(⟨b.Mem.aE,(⟨b.Mem.aA.Global.set x1.toNat x14.1,b.Mem.aA.bJ⟩:aA)⟩:Mem)}:aB) else (if s.Pc == 2 then (zZ b.Mem x1).bind fun x15=>lP s x15.2 ({b with Mem:=x15.1}:aB) else (cC s 1).bind fun x16=>some (b,x16)))
def DI(b:aB)(w_:Int)(s:Sub):Option (aB×Sub):=
  (zY s.A).bind fun x1=>(if decide (x1 < 0) then (cC s 2).bind fun x2=>some (b,x2) else (if s.Pc == 0 then (lV w_ x1).bind fun x9=>(idx b.Mem.aA.bJ x9).bind fun x10=>(pQ x10).bind fun x11=>lP s x11.2 ({b with Mem:=(⟨b.Mem.aE,(⟨b.Mem.aA.Global,b.Mem.aA.bJ.set x9.toNat x11.1⟩:aA)⟩:Mem)}:aB) else (if s.Pc == 1 then uN b s x1 true else uN b s x1 (s.Pc == 3))))
def X3:Option Bool:=
  some false
def qS(x3:Int)(x4:Bool):Option (Step Int (Out Unit Bool)):=
  (if x4 then some (.stop (Out.ret true)) else some (.next (bC (x3+1))))
def mP(slot:Int)(x1:(List b8)):Int→Option (Step Int (Out Unit Bool))
  | x3=>(if decide (x3 < (x1.length:Int)) then (idx x1 x3).bind fun x5=>(gC x5.Handle).bind fun x6=>(if x6 then (eD x5.Handle).bind fun x7=>qS x3 (x7 == slot) else qS x3 false) else some (.stop (Out.brk ())))
def X4:(Out Unit Bool)→Option Bool
  | .brk ()=>X3
  | .ret r=>some r
def GF(l:List aO)(slot:Int):Option Bool:=
  (y7 l).bind fun x1=>(loop (mP slot x1) 0).bind (X4)
def z0(b:aB)(s:Sub)(x5:List aO):Option (aB×Sub):=
  (cC s 0).bind fun x6=>some (({b with aV:=x5}:aB),x6)
def rY(b:aB)(w_:Int)(s:Sub)(x3:Bool):Option (aB×Sub):=
  (if x3 then (cC s 4).bind fun x4=>some (b,x4) else (idx b.aV w_).bind fun x7=>need (x7.Rows.length+([(⟨s.A,s.E⟩:b8)]).length≤1073741824)<|z0 b s (b.aV.set w_.toNat (⟨x7.Rows++([(⟨s.A,s.E⟩:b8)])⟩:aO)))
def z4(b:aB)(w_:Int)(s:Sub):Option (aB×Sub):=
  (if s.Pc == 0 then some (b,({s with Pc:=1,E:=b.aI.aL}:Sub)) else (if s.Pc == 1 then (bH s.E 0 b.aI.aL).bind fun x1=>(if !x1 then (cC s 1).bind fun x2=>some (b,x2) else (pO b.Mem s.A).bind fun x8=>(if !x8 then rY b w_ s true else (eD s.A).bind fun x9=>(GF b.aV x9).bind fun x10=>rY b w_ s x10)) else (cC s 1).bind fun x11=>some (b,x11)))
def oJ(w_:Int)(x1:aI)(x3:gK)(x4:Bool):Option (aI×Bool):=
  (if x4 then some (x1,true) else (if x3.Seen == 2 then (idx x1.bA w_).bind fun x5=>some ((⟨x1.aL,x1.bA.set w_.toNat ({x5 with fF:=true,Seen:=0}:gK)⟩:aI),true) else (idx x1.bA w_).bind fun x6=>some ((⟨x1.aL,x1.bA.set w_.toNat ({x6 with Seen:=bC (x3.Seen+1)}:gK)⟩:aI),false)))
def z5(c:aI)(w_ e_:Int)(x1:aI)(x2:Bool):Option (aI×Bool):=
  (if x2 then some (x1,false) else (idx c.bA w_).bind fun x3=>(if !x3.On then oJ w_ x1 x3 true else (if x3.fF then oJ w_ x1 x3 true else oJ w_ x1 x3 (x3.aL == e_))))
def EL(c:aI)(w_ e_:Int):Option (aI×Bool):=
  (mW c).bind fun x1=>(mU c).bind fun x7=>(if !x7 then z5 c w_ e_ x1 true else (bH w_ 0 2).bind fun x8=>z5 c w_ e_ x1 (!x8))
def z6(e_:Int)(x1:aI)(x2:Bool):Option (aI×Bool):=
  (if x2 then some (x1,false) else some ((⟨bC (e_+1),x1.bA⟩:aI),true))
def LS(c:aI)(e_:Int):Option (aI×Bool):=
  (mW c).bind fun x1=>(mU c).bind fun x3=>(if !x3 then z6 e_ x1 true else (if c.aL != e_ then z6 e_ x1 true else z6 e_ x1 (e_ == 100000)))
def pR(b:aB)(s:Sub)(x3:aI×Bool)(x5:Int):Option (aB×Sub):=
  some (({b with aI:=x3.1}:aB),({s with Pc:=x5,B:=bC (s.B+1)}:Sub))
def pS(b:aB)(s:Sub)(x6:aI×Bool)(x7:Int):Option (aB×Sub):=
  (cC ({s with Out:=x7}:Sub) 0).bind fun x8=>some (({b with aI:=x6.1}:aB),x8)
def xJ(b:aB)(s:Sub):Option (aB×Sub):=
  (if s.Pc == 0 then some (b,({s with Pc:=1,E:=b.aI.aL,B:=0}:Sub)) else (if s.Pc == 1 then (bH s.B 0 2).bind fun x1=>(if !x1 then (cC s 1).bind fun x2=>some (b,x2) else (EL b.aI s.B s.E).bind fun x3=>(if !x3.2 then (cC s 8).bind fun x4=>some (({b with aI:=x3.1}:aB),x4) else (if (bC (s.B+1)) == 3 then pR b s x3 2 else pR b s x3 s.Pc))) else (if s.Pc == 2 then (LS b.aI s.E).bind fun x6=>(if x6.2 then pS b s x6 1 else pS b s x6 s.Out) else (cC s 1).bind fun x9=>some (b,x9))))
def GG(x1:Bool):Option Bool:=
  some x1
def LU(r_:b8)(e_:Int):Option Bool:=
  (if decide (2≤e_) then GG (decide (r_.aL≤(bC (e_ - 2)))) else GG false)
def X5:Option Int:=
  some (-1)
def gY(l:List b8)(e_:Int):Int→Option (Step Int (Out Unit Int))
  | x2=>(if decide (x2 < (l.length:Int)) then (idx l x2).bind fun x3=>(LU x3 e_).bind fun x4=>(if x4 then some (.stop (Out.ret x2)) else some (.next (bC (x2+1)))) else some (.stop (Out.brk ())))
def X6:(Out Unit Int)→Option Int
  | .brk ()=>X5
  | .ret r=>some r
def z7(l:List b8)(from_ e_:Int):Option Int:=
  (loop (gY l e_) (if 0 < from_ then from_ else 0)).bind (X6)
def z8(x2 x3:List aH):Option aA:=
  some (⟨x2,x3⟩:aA)
def HL(x:aA)(slot x1:Int)(x4:aH):Option aA:=
  z8 x.Global (x.bJ.set x1.toNat (⟨x4.aP++([slot])⟩:aH))
def HM(x:aA)(x5:List aH):Option aA:=
  z8 x5 x.bJ
def EM(x:aA)(w_ c slot:Int):Option aA:=
  (lV w_ c).bind fun x1=>(idx x.bJ x1).bind fun x4=>(if decide ((x4.aP.length:Int) < 2) then need (x4.aP.length+([slot]).length≤1073741824)<|HL x slot x1 x4 else (idx x.Global c).bind fun x6=>need (x6.aP.length+([slot]).length≤1073741824)<|HM x (x.Global.set c.toNat (⟨x6.aP++([slot])⟩:aH)))
def HN(x:Mem)(x3:List Int)(x4 x5:List aH):Option Mem:=
  some (⟨(⟨x3,x.aE.Class⟩:aE),(⟨x4,x5⟩:aA)⟩:Mem)
def HO(x:Mem)(w_ slot x1 x2:Int)(x3:List Int):Option Mem:=
  (if decide ((bC (x2+1))≤6) then (EM x.aA w_ x1 slot).bind fun x6=>HN x x3 x6.Global x6.bJ else HN x x3 x.aA.Global x.aA.bJ)
def EN(x:Mem)(w_ slot:Int):Option Mem:=
  (iH x.aE slot).bind fun x1=>(sP x.aE slot).bind fun x2=>(pM slot x1).bind fun x7=>(jH x.aE.Bytes x7 4 (bC (x2+1))).bind fun x8=>HO x w_ slot x1 x2 x8
def pT(b:aB)(s:Sub)(x8:Int):Option (aB×Sub):=
  some (b,({s with Pc:=x8,B:=bC (s.B+1)}:Sub))
def eN(b:aB)(s:Sub)(x5:Bool):Option (aB×Sub):=
  (if x5 then (cC s 1).bind fun x6=>some (b,x6) else (idx b.iC s.B).bind fun x7=>(if x7 == s.H then some (b,({s with Pc:=1,Row:=bC (s.Row+1)}:Sub)) else (if (bC (s.B+1)) == 3 then pT b s 3 else pT b s s.Pc)))
def yN(s:Sub)(x14:aB):Option (aB×Sub):=
  some (x14,({s with Pc:=1,Out:=bC (s.Out+1)}:Sub))
def eO(b:aB)(w_:Int)(s:Sub)(x1:aO)(x12:Bool):Option (aB×Sub):=
  (if x12 then (cC s 1).bind fun x13=>some (b,x13) else need (0≤(s.Row:Int)∧(s.Row:Int)≤(x1.Rows.length:Int)) (need (0≤(bC (s.Row+1):Int)∧(bC (s.Row+1):Int)≤(x1.Rows.length:Int)) (need (s.Row.toNat≤(bC (s.Row+1)).toNat) ((eD s.H).bind fun x15=>(EN b.Mem w_ x15).bind fun x16=>yN s ({b with Mem:=x16,aV:=b.aV.set w_.toNat (⟨((dQ x1.Rows s.Row.toNat (x1.Rows.drop ((bC (s.Row+1)).toNat))).take (s.Row.toNat+(x1.Rows.length - ((bC (s.Row+1)).toNat)))).drop 0⟩:aO)}:aB)))))
def xK(b:aB)(w_:Int)(s:Sub):Option (aB×Sub):=
  (idx b.aV w_).bind fun x1=>(if s.Pc == 0 then some (b,({s with Pc:=1,E:=b.aI.aL,Row:=0}:Sub)) else (if s.Pc == 1 then (z7 x1.Rows s.Row s.E).bind fun x2=>(if decide (x2 < 0) then (cC s 0).bind fun x3=>some (b,x3) else (idx x1.Rows x2).bind fun x4=>some (b,({s with Pc:=2,Row:=x2,B:=0,H:=x4.Handle}:Sub))) else (if s.Pc == 2 then (bH s.B 0 2).bind fun x9=>(if !x9 then eN b s true else (bH s.Row 0 (bC ((x1.Rows.length:Int) - 1))).bind fun x10=>(if !x10 then eN b s true else (idx x1.Rows s.Row).bind fun x11=>eN b s (x11.Handle != s.H))) else (if s.Pc == 3 then (bH s.Row 0 (bC ((x1.Rows.length:Int) - 1))).bind fun x17=>(if !x17 then eO b w_ s x1 true else (idx x1.Rows s.Row).bind fun x18=>(if x18.Handle != s.H then eO b w_ s x1 true else (LU x18 s.E).bind fun x19=>eO b w_ s x1 (!x19))) else (cC s 1).bind fun x20=>some (b,x20)))))
def v8(w_ e_:Int)(x1:aI)(x2:Bool):Option (aI×Bool):=
  (if x2 then some (x1,false) else (idx x1.bA w_).bind fun x3=>some ((⟨x1.aL,x1.bA.set w_.toNat (⟨true,e_,false,0⟩:gK)⟩:aI),true))
def HP(c:aI)(w_ e_:Int):Option (aI×Bool):=
  (mW c).bind fun x1=>(mU c).bind fun x4=>(if !x4 then v8 w_ e_ x1 true else (bH w_ 0 2).bind fun x5=>(if !x5 then v8 w_ e_ x1 true else (bH e_ 0 c.aL).bind fun x6=>v8 w_ e_ x1 (!x6)))
def JA(b:aB)(w_:Int)(s:Sub):Option (aB×Sub):=
  (if s.Pc == 0 then some (b,({s with Pc:=1,E:=b.aI.aL}:Sub)) else (if s.Pc == 1 then (HP b.aI w_ s.E).bind fun x1=>(if !x1.2 then (cC s 1).bind fun x2=>some (({b with aI:=x1.1}:aB),x2) else some (({b with aI:=x1.1}:aB),({s with Pc:=2}:Sub))) else (if s.Pc == 2 then (if b.aI.aL == s.E then (cC s 0).bind fun x3=>some (b,x3) else some (b,({s with Pc:=0}:Sub))) else (cC s 1).bind fun x4=>some (b,x4))))
def sZ(b:aB)(w_:Int)(s:Sub):Option (aB×Sub):=
  (if s.cQ then some (b,s) else (if s.Kind == 1 then (DI b w_ s).bind fun x1=>some (x1.1,x1.2) else (if s.Kind == 2 then (z4 b w_ s).bind fun x2=>some (x2.1,x2.2) else (if s.Kind == 3 then (xJ b s).bind fun x3=>some (x3.1,x3.2) else (if s.Kind == 4 then (xK b w_ s).bind fun x4=>some (x4.1,x4.2) else (if s.Kind == 5 then (JA b w_ s).bind fun x5=>some (x5.1,x5.2) else (cC s 1).bind fun x6=>some (b,x6)))))))
def bQ(j:bX)(pc code:Int):Option bX:=
  some ({j with Pc:=pc,Code:=code}:bX)
def z9(slot c:Int):Option Int:=
  (pM slot c).bind fun x1=>(if decide (x1 < 0) then some (-1) else some (bC (x1+4)))
def tA(at_ x3 x4:Int)(x5:Bool):Option (Int×Int):=
  (if x5 then some (0,2) else (z9 x3 x4).bind fun x6=>some (bC (x6+at_),0))
def tB(m:Mem)(h at_ width:Int)(x1:Bool):Option (Int×Int):=
  (if x1 then some (0,1) else (pO m h).bind fun x2=>(if !x2 then some (0,4) else (eD h).bind fun x3=>(iH m.aE x3).bind fun x4=>(mV x4).bind fun x7=>(bH at_ 0 (bC (x7 - 1))).bind fun x8=>(if !x8 then tA at_ x3 x4 true else (mV x4).bind fun x9=>tA at_ x3 x4 (decide ((bC (x9 - at_)) < width)))))
def JB(m:Mem)(h at_ width:Int):Option (Int×Int):=
  (sQ m).bind fun x10=>(if !x10 then tB m h at_ width true else (bH width 1 7).bind fun x11=>tB m h at_ width (!x11))
def KI(x8:Int)(x9:List UInt8):Option (List UInt8):=
  (if decide (0 < x8) then some ([]) else some x9)
def v9(width:Int):(Int×(List UInt8)×Int)→Option (Step (Int×(List UInt8)×Int) (Int×(List UInt8)))
  | (x5,x6,x7)=>(if decide (x7 < width) then need (([u8 (Int.tmod x5 256)]).length+x6.length≤9223372036854775807) (some (.next (bC (Int.tdiv x5 256),([u8 (Int.tmod x5 256)])++x6,bC (x7+1)))) else some (.stop ((x5,x6))))
def KJ:(Int×(List UInt8))→Option (List UInt8)
  | (x8,x9)=>KI x8 x9
def wA(n width:Int)(x1:Bool):Option (List UInt8):=
  (if x1 then some ([]) else (loop (v9 width) (n,[],0)).bind (KJ))
def yO(n width:Int):Option (List UInt8):=
  (bH width 1 7).bind fun x10=>(if !x10 then wA n width true else wA n width (decide (n < 0)))
def mX(m:Mem)(h at_ width n:Int):Option (Mem×Int):=
  (sW m).bind fun x1=>(JB m h at_ width).bind fun x2=>(if x2.2 != 0 then some (x1,x2.2) else (yO n width).bind fun x3=>(if x3 == ([]) then some (x1,1) else (jH x1.aE.Bytes x2.1 width n).bind fun x4=>some ((⟨(⟨x4,x1.aE.Class⟩:aE),x1.aA⟩:Mem),0)))
def y9(s:aD)(w_:Int)(j:bX):Option (aD×bX):=
  (if j.Pc == 0 then (sZ s.aB w_ j.Sub).bind fun x1=>(if !x1.2.cQ then some (({s with aB:=x1.1}:aD),({j with Sub:=x1.2}:bX)) else (if x1.2.Code != 0 then (bQ ({j with Sub:=x1.2}:bX) 9 x1.2.Code).bind fun x2=>some (({s with aB:=x1.1}:aD),x2) else (gC x1.2.Out).bind fun x3=>(if !x3 then (bQ ({j with Sub:=x1.2}:bX) 9 1).bind fun x4=>some (({s with aB:=x1.1}:aD),x4) else (bQ ({j with Sub:=x1.2,H:=x1.2.Out}:bX) 1 0).bind fun x5=>some (({s with aB:=x1.1}:aD),x5)))) else (if j.Pc == 1 then (mX s.aB.Mem j.H 0 4 j.Op.eU).bind fun x6=>(if x6.2 != 0 then (bQ j 9 x6.2).bind fun x7=>some (({s with aB:=(⟨x6.1,s.aB.aI,s.aB.aV,s.aB.iC⟩:aB)}:aD),x7) else (bQ j 2 0).bind fun x8=>some (({s with aB:=(⟨x6.1,s.aB.aI,s.aB.aV,s.aB.iC⟩:aB)}:aD),x8)) else (if j.Pc == 2 then (idx s.Cells j.Op.Cell).bind fun x9=>need (s.Log.length+([(⟨2,w_,j.aN,j.Op.Cell,j.H,j.Op.eU,0⟩:Ev)]).length≤1073741824) ((if x9 == 0 then (bQ ({j with Old:=x9}:bX) 9 0).bind fun x10=>some (({s with Cells:=s.Cells.set j.Op.Cell.toNat j.H,Log:=s.Log++([(⟨2,w_,j.aN,j.Op.Cell,j.H,j.Op.eU,0⟩:Ev)])}:aD),x10) else (eH 2 x9).bind fun x11=>(bQ ({j with Sub:=x11,Old:=x9}:bX) 3 0).bind fun x12=>some (({s with Cells:=s.Cells.set j.Op.Cell.toNat j.H,Log:=s.Log++([(⟨2,w_,j.aN,j.Op.Cell,j.H,j.Op.eU,0⟩:Ev)])}:aD),x12))) else (if j.Pc == 3 then (sZ s.aB w_ j.Sub).bind fun x13=>(if !x13.2.cQ then some (({s with aB:=x13.1}:aD),({j with Sub:=x13.2}:bX)) else (bQ ({j with Sub:=x13.2}:bX) 9 x13.2.Code).bind fun x14=>some (({s with aB:=x13.1}:aD),x14)) else (bQ j 9 1).bind fun x15=>some (s,x15)))))
def gZ(s:aD)(w_:Int)(j:bX):Option aD:=
  need (s.Log.length+([(⟨3,w_,j.aN,j.Op.Cell,j.H,0,0⟩:Ev)]).length≤1073741824) (some ({s with Log:=s.Log++([(⟨3,w_,j.aN,j.Op.Cell,j.H,0,0⟩:Ev)])}:aD))
def oK(h:aE)(x at_ width x3:Int)(x4:Bool):Option (Int×Bool):=
  (if x4 then some (0,false) else (eD x).bind fun x5=>(z9 x5 x3).bind fun x6=>(sM h.Bytes (bC (x6+at_)) width).bind fun x7=>some (x7,true))
def AA(h:aE)(x at_ width:Int)(x1:Bool):Option (Int×Bool):=
  (if x1 then some (0,false) else (eD x).bind fun x2=>(iH h x2).bind fun x3=>(if decide (x3 < 0) then oK h x at_ width x3 true else (mV x3).bind fun x8=>(bH at_ 0 (bC (x8 - 1))).bind fun x9=>(if !x9 then oK h x at_ width x3 true else (mV x3).bind fun x10=>oK h x at_ width x3 (decide ((bC (x10 - at_)) < width)))))
def JC(h:aE)(x at_ width:Int):Option (Int×Bool):=
  (gC x).bind fun x11=>(if !x11 then AA h x at_ width true else (bH width 1 7).bind fun x12=>AA h x at_ width (!x12))
def pU(s:aD)(j:bX):Option Int:=
  (JC s.aB.Mem.aE j.H 0 4).bind fun x1=>some x1.1
def oL(j:bX)(pc:Int)(x2:Bool):Option bX:=
  (if x2 then (bQ j pc 0).bind fun x3=>some x3 else (bQ ({j with eU:=0}:bX) pc 6).bind fun x4=>some x4)
def wB(s:aD)(w_:Int)(j:bX)(pc:Int):Option bX:=
  (idx s.aB.aI.bA w_).bind fun x1=>(if x1.On then oL j pc (!x1.fF) else oL j pc false)
def wC(w_:Int)(x1:aI)(x2:Bool):Option (aI×Bool):=
  (if x2 then some (x1,false) else (idx x1.bA w_).bind fun x3=>some ((⟨x1.aL,x1.bA.set w_.toNat (⟨false,0,false,0⟩:gK)⟩:aI),true))
def yP(c:aI)(w_:Int):Option (aI×Bool):=
  (mW c).bind fun x1=>(mU c).bind fun x4=>(if !x4 then wC w_ x1 true else (bH w_ 0 2).bind fun x5=>(if !x5 then wC w_ x1 true else (idx c.bA w_).bind fun x6=>wC w_ x1 (!x6.On)))
def zA(s:aD)(w_:Int)(j:bX):Option (aD×bX):=
  (if j.Pc == 0 then (sZ s.aB w_ j.Sub).bind fun x1=>(if !x1.2.cQ then some (({s with aB:=x1.1}:aD),({j with Sub:=x1.2}:bX)) else (bQ ({j with Sub:=x1.2}:bX) 1 0).bind fun x2=>some (({s with aB:=x1.1}:aD),x2)) else (if j.Pc == 1 then (idx s.Cells j.Op.Cell).bind fun x3=>(gZ s w_ ({j with H:=x3}:bX)).bind fun x4=>(if x3 == 0 then (bQ ({j with H:=x3}:bX) 4 8).bind fun x5=>some (x4,x5) else (bQ ({j with H:=x3}:bX) 2 0).bind fun x6=>some (x4,x6)) else (if j.Pc == 2 then (pU s j).bind fun x7=>(bQ ({j with eU:=x7}:bX) 3 0).bind fun x8=>some (s,x8) else (if j.Pc == 3 then (wB s w_ j 4).bind fun x9=>some (s,x9) else (if j.Pc == 4 then (yP s.aB.aI w_).bind fun x10=>(bQ j 9 j.Code).bind fun x11=>some (({s with aB:=(⟨s.aB.Mem,x10.1,s.aB.aV,s.aB.iC⟩:aB)}:aD),x11) else (bQ j 9 1).bind fun x12=>some (s,x12))))))
def qT(w_ h:Int)(x1:(List Int))(x2:Bool):Option ((List Int)×Bool):=
  (if x2 then some (x1,false) else (idx x1 w_).bind fun x3=>some (x1.set w_.toNat h,true))
def uO(z:List Int)(w_ h:Int):Option ((List Int)×Bool):=
  (lH z).bind fun x1=>(CV z).bind fun x4=>(if !x4 then qT w_ h x1 true else (bH w_ 0 2).bind fun x5=>(if !x5 then qT w_ h x1 true else (gC h).bind fun x6=>qT w_ h x1 (!x6)))
def wD(w_:Int)(x1:(List Int))(x2:Bool):Option ((List Int)×Bool):=
  (if x2 then some (x1,false) else (idx x1 w_).bind fun x3=>some (x1.set w_.toNat 0,true))
def HQ(z:List Int)(w_:Int):Option ((List Int)×Bool):=
  (lH z).bind fun x1=>(CV z).bind fun x4=>(if !x4 then wD w_ x1 true else (bH w_ 0 2).bind fun x5=>(if !x5 then wD w_ x1 true else (idx z w_).bind fun x6=>wD w_ x1 (x6 == 0)))
def zC(s:aD)(w_:Int)(j:bX):Option (aD×bX):=
  (if j.Pc == 0 then (idx s.Cells j.Op.Cell).bind fun x1=>(if x1 == 0 then (gZ s w_ ({j with H:=x1}:bX)).bind fun x2=>(bQ ({j with H:=x1}:bX) 4 8).bind fun x3=>some (x2,x3) else (bQ ({j with H:=x1}:bX) 1 0).bind fun x4=>some (s,x4)) else (if j.Pc == 1 then (uO s.aB.iC w_ j.H).bind fun x5=>(bQ j 2 0).bind fun x6=>some (({s with aB:=(⟨s.aB.Mem,s.aB.aI,s.aB.aV,x5.1⟩:aB)}:aD),x6) else (if j.Pc == 2 then (idx s.Cells j.Op.Cell).bind fun x7=>(if x7 != j.H then (bQ j 0 0).bind fun x8=>some (s,x8) else (gZ s w_ j).bind fun x9=>(bQ j 3 0).bind fun x10=>some (x9,x10)) else (if j.Pc == 3 then (pU s j).bind fun x11=>(bQ ({j with eU:=x11}:bX) 4 0).bind fun x12=>some (s,x12) else (if j.Pc == 4 then (HQ s.aB.iC w_).bind fun x13=>(bQ j 9 j.Code).bind fun x14=>some (({s with aB:=(⟨s.aB.Mem,s.aB.aI,s.aB.aV,x13.1⟩:aB)}:aD),x14) else (bQ j 9 1).bind fun x15=>some (s,x15))))))
def uP(s:aD)(w_:Int)(j:bX):Option (aD×bX):=
  (idx s.aB.aI.bA w_).bind fun x1=>(if j.Pc == 0 then (if !x1.On then (bQ j 9 5).bind fun x2=>some (s,x2) else (if x1.fF then (bQ j 9 6).bind fun x3=>some (s,x3) else (idx s.Cells j.Op.Cell).bind fun x4=>(gZ s w_ ({j with H:=x4}:bX)).bind fun x5=>(if x4 == 0 then (bQ ({j with H:=x4}:bX) 9 8).bind fun x6=>some (x5,x6) else (bQ ({j with H:=x4}:bX) 1 0).bind fun x7=>some (x5,x7)))) else (if j.Pc == 1 then (pU s j).bind fun x8=>(bQ ({j with eU:=x8}:bX) 2 0).bind fun x9=>some (s,x9) else (if j.Pc == 2 then (wB s w_ j 9).bind fun x10=>some (s,x10) else (bQ j 9 1).bind fun x11=>some (s,x11))))
def jD(s:aD)(w_:Int)(j:bX)(x5:Bool):Option (aD×bX):=
  (if x5 then (bQ j 9 1).bind fun x6=>some (s,x6) else (sZ s.aB w_ j.Sub).bind fun x7=>(if !x7.2.cQ then some (({s with aB:=x7.1}:aD),({j with Sub:=x7.2}:bX)) else (if j.Op.Kind == 5 then (bQ ({j with Sub:=x7.2}:bX) 9 x7.2.Code).bind fun x8=>some (({s with aB:=x7.1}:aD),x8) else (if j.Pc == 0 then (eH 4 0).bind fun x9=>(bQ ({j with Sub:=x9}:bX) 1 0).bind fun x10=>some (({s with aB:=x7.1}:aD),x10) else (bQ ({j with Sub:=x7.2,eU:=x7.2.Out}:bX) 9 x7.2.Code).bind fun x11=>some (({s with aB:=x7.1}:aD),x11)))))
def oN(s:aD)(w_:Int)(j:bX)(x1:Bool):Option (aD×bX):=
  (if x1 then (yP s.aB.aI w_).bind fun x2=>(if !x2.2 then (bQ j 9 5).bind fun x3=>some (({s with aB:=(⟨s.aB.Mem,x2.1,s.aB.aV,s.aB.iC⟩:aB)}:aD),x3) else (bQ j 9 0).bind fun x4=>some (({s with aB:=(⟨s.aB.Mem,x2.1,s.aB.aV,s.aB.iC⟩:aB)}:aD),x4)) else (if j.Op.Kind == 6 then jD s w_ j true else (if j.Pc != 0 then (if j.Pc != 1 then jD s w_ j true else jD s w_ j (j.Op.Kind == 5)) else jD s w_ j false)))
def rM(s:aD)(w_:Int)(j:bX):Option (aD×bX):=
  (if j.Op.Kind == 6 then oN s w_ j (j.Pc == 0) else oN s w_ j false)
def dN(w_:Int)(x3:aD)(x4:bX):Option aD:=
  (idx x3.aR w_).bind fun x5=>some ({x3 with aR:=x3.aR.set w_.toNat x4}:aD)
def yQ(s:aD)(w_:Int):Option aD:=
  (idx s.aR w_).bind fun x1=>(if !x1.iV then (v5 s w_).bind fun x2=>some x2 else (if x1.Pc == 9 then need (s.Log.length+([(⟨4,w_,x1.aN,x1.Op.Cell,x1.H,x1.eU,x1.Code⟩:Ev)]).length≤1073741824) (some ({s with aR:=s.aR.set w_.toNat (⟨false,(⟨0,0,0,0⟩:gA),0,0,(⟨0,0,0,0,0,0,0,0,0,false⟩:Sub),0,0,0,0⟩:bX),Log:=s.Log++([(⟨4,w_,x1.aN,x1.Op.Cell,x1.H,x1.eU,x1.Code⟩:Ev)])}:aD)) else (if x1.Op.Kind == 1 then (y9 s w_ x1).bind fun x6=>dN w_ x6.1 x6.2 else (if x1.Op.Kind == 2 then (zA s w_ x1).bind fun x7=>dN w_ x7.1 x7.2 else (if x1.Op.Kind == 3 then (zC s w_ x1).bind fun x8=>dN w_ x8.1 x8.2 else (if x1.Op.Kind == 7 then (uP s w_ x1).bind fun x9=>dN w_ x9.1 x9.2 else (rM s w_ x1).bind fun x10=>dN w_ x10.1 x10.2))))))
def zD:Option Int:=
  some (-1)
def j4(s:List bX)(f:(bX→Option Bool)):Int→Option (Step Int (Out Unit Int))
  | x2=>(if decide (x2 < (s.length:Int)) then (idx s x2).bind fun x3=>(f x3).bind fun x4=>(if x4 then some (.stop (Out.ret x2)) else some (.next (bC (x2+1)))) else some (.stop (Out.brk ())))
def oO:(Out Unit Int)→Option Int
  | .brk ()=>zD
  | .ret r=>some r
def tC(s:List bX)(f:(bX→Option Bool)):Option Int:=
  (loop (j4 s f) 0).bind (oO)
def j5(s:List bX)(f:(bX→Option Bool)):Option Bool:=
  (tC s f).bind fun x1=>some (decide (0≤x1))
def vJ:Option Int:=
  some (-1)
def i6(s:List Queue)(f:(Queue→Option Bool)):Int→Option (Step Int (Out Unit Int))
  | x2=>(if decide (x2 < (s.length:Int)) then (idx s x2).bind fun x3=>(f x3).bind fun x4=>(if x4 then some (.stop (Out.ret x2)) else some (.next (bC (x2+1)))) else some (.stop (Out.brk ())))
def mD:(Out Unit Int)→Option Int
  | .brk ()=>vJ
  | .ret r=>some r
def pW(s:List Queue)(f:(Queue→Option Bool)):Option Int:=
  (loop (i6 s f) 0).bind (mD)
def i7(s:List Queue)(f:(Queue→Option Bool)):Option Bool:=
  (pW s f).bind fun x1=>some (decide (0≤x1))
def eX(s:List Int):Option (List Int):=
  need (([]:List Int).length+s.length≤1073741824) (some (([]:List Int)++s))
def rN(h:aE):Option aE:=
  (eX h.Bytes).bind fun x1=>(eX h.Class).bind fun x2=>some (⟨x1,x2⟩:aE)
def T1(x5 x10:List aH):Option aA:=
  some (⟨x5,x10⟩:aA)
def AB(x8:Int)(x12:List aH):Option (Step (Int×(List aH)) (List aH)):=
  some (.next (bC (x8+1),x12))
def AD(l:aA):(Int×(List aH))→Option (Step (Int×(List aH)) (List aH))
  | (x8,x9)=>(if decide (x8 < (l.bJ.length:Int)) then (idx l.bJ x8).bind fun x11=>(eX x11.aP).bind fun x13=>need (x9.length+([(⟨x13⟩:aH)]).length≤1073741824)<|AB x8 (x9++([(⟨x13⟩:aH)])) else some (.stop (x9)))
def T2(x5:List aH):(List aH)→Option aA
  | x10=>T1 x5 x10
def JD(l:aA)(x5:List aH):Option aA:=
  (loop (AD l) (0,[])).bind (T2 x5)
def AE(x3:Int)(x15:List aH):Option (Step (Int×(List aH)) (List aH)):=
  some (.next (bC (x3+1),x15))
def AF(l:aA):(Int×(List aH))→Option (Step (Int×(List aH)) (List aH))
  | (x3,x4)=>(if decide (x3 < (l.Global.length:Int)) then (idx l.Global x3).bind fun x14=>(eX x14.aP).bind fun x16=>need (x4.length+([(⟨x16⟩:aH)]).length≤1073741824)<|AE x3 (x4++([(⟨x16⟩:aH)])) else some (.stop (x4)))
def JE(l:aA):(List aH)→Option aA
  | x5=>JD l x5
def gR(l:aA):Option aA:=
  (loop (AF l) (0,[])).bind (JE l)
def AG(m:Mem):Option Mem:=
  (rN m.aE).bind fun x1=>(gR m.aA).bind fun x2=>some (⟨x1,x2⟩:Mem)
def uQ(s:List gK):Option (List gK):=
  need (([]:List gK).length+s.length≤1073741824) (some (([]:List gK)++s))
def jS(c:aI):Option aI:=
  (uQ c.bA).bind fun x1=>some (⟨c.aL,x1⟩:aI)
def rZ(s:List b8):Option (List b8):=
  need (([]:List b8).length+s.length≤1073741824) (some (([]:List b8)++s))
def T3(x5:List aO):Option (List aO):=
  some x5
def AH(l:List aO):((List aO)×Int)→Option (Step ((List aO)×Int) (List aO))
  | (x3,x4)=>(if decide (x4 < (l.length:Int)) then (idx l x4).bind fun x6=>(rZ x6.Rows).bind fun x7=>need (x3.length+([(⟨x7⟩:aO)]).length≤1073741824) (some (.next (x3++([(⟨x7⟩:aO)]),bC (x4+1)))) else some (.stop (x3)))
def T4:(List aO)→Option (List aO)
  | x5=>T3 x5
def jT(l:List aO):Option (List aO):=
  (loop (AH l) (([]:List aO),0)).bind (T4)
def DJ(b:aB):Option aB:=
  (AG b.Mem).bind fun x1=>(jS b.aI).bind fun x2=>(jT b.aV).bind fun x3=>(eX b.iC).bind fun x4=>some (⟨x1,x2,x3,x4⟩:aB)
def CX(s:List bX):Option (List bX):=
  need (([]:List bX).length+s.length≤1073741824) (some (([]:List bX)++s))
def FE(s:List gA):Option (List gA):=
  need (([]:List gA).length+s.length≤1073741824) (some (([]:List gA)++s))
def VX(x5:List Queue):Option (List Queue):=
  some x5
def CY(todo:List Queue):((List Queue)×Int)→Option (Step ((List Queue)×Int) (List Queue))
  | (x3,x4)=>(if decide (x4 < (todo.length:Int)) then (idx todo x4).bind fun x6=>(FE x6.fX).bind fun x7=>need (x3.length+([(⟨x7⟩:Queue)]).length≤1073741824) (some (.next (x3++([(⟨x7⟩:Queue)]),bC (x4+1)))) else some (.stop (x3)))
def VY:(List Queue)→Option (List Queue)
  | x5=>VX x5
def wE(todo:List Queue):Option (List Queue):=
  (loop (CY todo) (([]:List Queue),0)).bind (VY)
def FF(s:List Ev):Option (List Ev):=
  need (([]:List Ev).length+s.length≤1073741824) (some (([]:List Ev)++s))
def AI(s:aD):Option aD:=
  (DJ s.aB).bind fun x1=>(eX s.Cells).bind fun x2=>(CX s.aR).bind fun x3=>(wE s.cG).bind fun x4=>(FF s.Log).bind fun x5=>some (⟨x1,x2,x3,x4,x5,s.aN⟩:aD)
def oP(x1:Bool):Option Bool:=
  some x1
def cL(n low high:Int):Option Bool:=
  (if decide (low≤n) then oP (decide (n≤high)) else oP false)
def zE:Option Int:=
  some (-1)
def hO(s:List gK)(f:(gK→Option Bool)):Int→Option (Step Int (Out Unit Int))
  | x2=>(if decide (x2 < (s.length:Int)) then (idx s x2).bind fun x3=>(f x3).bind fun x4=>(if x4 then some (.stop (Out.ret x2)) else some (.next (bC (x2+1)))) else some (.stop (Out.brk ())))
def oQ:(Out Unit Int)→Option Int
  | .brk ()=>zE
  | .ret r=>some r
def tD(s:List gK)(f:(gK→Option Bool)):Option Int:=
  (loop (hO s f) 0).bind (oQ)
def j6(s:List gK)(f:(gK→Option Bool)):Option Bool:=
  (tD s f).bind fun x1=>some (decide (0≤x1))
def j7(x1:Bool):Option Bool:=
  some x1
def tE(p:gK)(k0:aI):Option Bool:=
  (cL p.aL 0 k0.aL).bind fun x2=>(if !x2 then j7 true else (cL p.Seen 0 2).bind fun x3=>(if !x3 then j7 true else (if !p.On then j7 (!(decide (p=(⟨false,0,false,0⟩:gK)))) else j7 false)))
def qU(x1:Bool):Option Bool:=
  some x1
def mY(c:aI):Option Bool:=
  (cL c.aL 0 100000).bind fun x2=>(if x2 then (if (c.bA.length:Int) == 3 then (j6 c.bA (fun y0=>tE y0 c)).bind fun x3=>qU (!x3) else qU false) else qU false)
def lI(slot:Int):Option Bool:=
  (cL slot 0 23).bind fun x1=>some x1
def pX(x10:List Raw):Option (List Raw):=
  some x10
def gG(slices:List (List Raw)):((List Raw)×Int)→Option (Step ((List Raw)×Int) (List Raw))
  | (x8,x9)=>(if decide (x9 < (slices.length:Int)) then (idx slices x9).bind fun x11=>need (x8.length+x11.length≤1073741824) (some (.next (x8++x11,bC (x9+1)))) else some (.stop (x8)))
def MS:(List Raw)→Option (List Raw)
  | x10=>pX x10
def lA(slices:List (List Raw))(x5:Int):Option (List Raw):=
  need (0≤x5∧x5≤1073741824) ((loop (gG slices) ([],0)).bind (MS))
def fE(slices:List (List Raw)):(Int×Int)→Option (Step (Int×Int) Int)
  | (x3,x4)=>(if decide (x4 < (slices.length:Int)) then (idx slices x4).bind fun x12=>(if decide ((bC (x3+(x12.length:Int))) < 0) then none else some (.next (bC (x3+(x12.length:Int)),bC (x4+1)))) else some (.stop (x3)))
def AJ(slices:List (List Raw)):Int→Option (List Raw)
  | x5=>lA slices x5
def nQ(slices:List (List Raw)):Option (List Raw):=
  (loop (fE slices) (0,0)).bind (AJ slices)
theorem IX{u1 u2:List Raw}(h:u1.length+u2.length≤1073741824):loop (fE [u1,u2]) (0,0)=some ((u1.length+u2.length:Nat):Int):=by
  have e1:bC (u1.length:Int)=u1.length:=HJ (by omega)
  have e2:bC ((u1.length:Int)+(u2.length:Int))=((u1.length+u2.length:Nat):Int):=by rw [HJ (by omega)];rfl
  have e3:bC (0+1)=1:=HJ (by omega)
  have e4:bC 2=2:=HJ (by omega)
  have n1:¬(u1.length:Int) < 0:=by omega
  have n2:¬((u1.length+u2.length:Nat):Int) < 0:=by omega
  rw [cR (s':=((u1.length:Int),1)) ?_,cR (s':=(((u1.length+u2.length:Nat):Int),2)) ?_,cT (r:=((u1.length+u2.length:Nat):Int)) ?_]
  · simp [fE]
  · simp [fE,idx,e2,e4]
    omega
  · simp [fE,idx,e1,n1]
    exact e3
theorem LV{u1 u2:List Raw}{n1 n2:Nat}(hl:u1.length=n1∧u2.length=n2)(h:n1+n2≤1073741824):nQ [u1,u2]=some (u1++u2):=by
  obtain⟨rfl,rfl⟩:=hl
  have e3:bC (0+1)=1:=HJ (by omega)
  have e4:bC 2=2:=HJ (by omega)
  unfold nQ
  rw [IX h]
  simp only [aJ,AJ,lA]
  rw [aU (by omega),cR (s':=(u1,1)) ?_,cR (s':=(u1++u2,2)) ?_,cT (r:=u1++u2) ?_]
  · rfl
  · simp [gG]
  · simp [gG,idx,e4,aU h]
  · have h1:u1.length≤1073741824:=by omega
    simp [gG,idx,aU h1]
    exact e3
def FG:Option Bool:=
  some true
def xL(x4:Int)(x12:List Bool):Option (Step (Int×(List Bool)) (Out Unit Bool)):=
  some (.next (bC (x4+1),x12))
def mQ(x10:Int)(x11:List Bool)(x13:Int)(x14:Bool):Option (Step (Int×(List Bool)) (Out (List Bool) Bool)):=
  (if x14 then some (.stop (Out.ret false)) else need (0≤(x13:Int)∧(x13:Int) < 24) ((idx (x11:List Bool) x13).bind fun x15=>some (.next (bC (x10+1),x11.set (x13.toNat) true))))
def kK(x6:aH):(Int×(List Bool))→Option (Step (Int×(List Bool)) (Out (List Bool) Bool))
  | (x10,x11)=>(if decide (x10 < (x6.aP.length:Int)) then (idx x6.aP x10).bind fun x13=>(lI x13).bind fun x16=>(if !x16 then mQ x10 x11 x13 true else need (0≤(x13:Int)∧(x13:Int) < 24) ((idx (x11:List Bool) x13).bind fun x17=>mQ x10 x11 x13 x17)) else some (.stop (Out.brk x11)))
def N5(x4:Int):(Out (List Bool) Bool)→Option (Step (Int×(List Bool)) (Out Unit Bool))
  | .brk x12=>xL x4 x12
  | .ret r=>some (.stop (Out.ret r))
def kL(x4:Int)(x5:List Bool)(x6:aH)(x7:Bool):Option (Step (Int×(List Bool)) (Out Unit Bool)):=
  (if x7 then some (.stop (Out.ret false)) else (loop (kK x6) (0,x5)).bind (N5 x4))
def kM(l:aA):(Int×(List Bool))→Option (Step (Int×(List Bool)) (Out Unit Bool))
  | (x4,x5)=>(if decide (x4 < ((l.bJ++l.Global).length:Int)) then (idx (l.bJ++l.Global) x4).bind fun x6=>(if decide (x4 < (l.bJ.length:Int)) then kL x4 x5 x6 (decide (2 < (x6.aP.length:Int))) else kL x4 x5 x6 false) else some (.stop (Out.brk ())))
def X7:(Out Unit Bool)→Option Bool
  | .brk ()=>FG
  | .ret r=>some r
def qV(l:aA)(x1:Bool):Option Bool:=
  (if x1 then some false else need (l.bJ.length+l.Global.length≤1073741824) ((loop (kM l) (0,[false,false,false,false,false,false,false,false,false,false,false,false,false,false,false,false,false,false,false,false,false,false,false,false])).bind (X7)))
def jI(l:aA):Option Bool:=
  (if (l.Global.length:Int) != 3 then qV l true else qV l ((l.bJ.length:Int) != 9))
def zF:Option Int:=
  some (-1)
def hQ(s:List Int)(f:(Int→Option Bool)):Int→Option (Step Int (Out Unit Int))
  | x2=>(if decide (x2 < (s.length:Int)) then (idx s x2).bind fun x3=>(f x3).bind fun x4=>(if x4 then some (.stop (Out.ret x2)) else some (.next (bC (x2+1)))) else some (.stop (Out.brk ())))
def oR:(Out Unit Int)→Option Int
  | .brk ()=>zF
  | .ret r=>some r
def tF(s:List Int)(f:(Int→Option Bool)):Option Int:=
  (loop (hQ s f) 0).bind (oR)
def d8(s:List Int)(f:(Int→Option Bool)):Option Bool:=
  (tF s f).bind fun x1=>some (decide (0≤x1))
def PE(x:Int):Option Bool:=
  (cL x 0 255).bind fun x1=>some x1
def AK(x:Int):Option Bool:=
  (PE x).bind fun x1=>some (!x1)
def xM(x1:Bool):Option Bool:=
  some x1
def GH(b:List Int):Option Bool:=
  (if decide ((b.length:Int)≤1000) then (d8 b (fun y0=>AK y0)).bind fun x2=>xM (!x2) else xM false)
def DK(c:Int):Option Bool:=
  (cL c (-1) 2).bind fun x1=>some (!x1)
def oT(x1:Bool):Option Bool:=
  some x1
def EO(h:aE):Option Bool:=
  (if (h.Bytes.length:Int) == 384 then (GH h.Bytes).bind fun x2=>(if x2 then (if (h.Class.length:Int) == 6 then (d8 h.Class (fun y0=>DK y0)).bind fun x3=>oT (!x3) else oT false) else oT false) else oT false)
def jJ(c:Int):Option Bool:=
  (cL c 0 2).bind fun x1=>some x1
def zG(c:Int):Option Int:=
  (jJ c).bind fun x1=>(if !x1 then some 0 else (idx ([8,16,40]:List Int) c).bind fun x2=>some x2)
def rO(c:Int):Option Int:=
  (jJ c).bind fun x1=>(if !x1 then some 0 else (zG c).bind fun x2=>some (bC (4+x2)))
def mZ(c:Int):Option Int:=
  (jJ c).bind fun x1=>(if !x1 then some 0 else (rO c).bind fun x2=>need (x2≠0) (some (bC (Int.tdiv 56 x2))))
def X8(x5:Int):Option Int:=
  some x5
def qW(b:List Int)(at_ width:Int):(Int×Int)→Option (Step (Int×Int) Int)
  | (x3,x4)=>(if decide (x4 < (((b.take ((bC (at_+width)).toNat)).drop at_.toNat).length:Int)) then (idx ((b.take ((bC (at_+width)).toNat)).drop at_.toNat) x4).bind fun x6=>some (.next (bC ((bC (256 * x3))+x6),bC (x4+1))) else some (.stop (x3)))
def X9:Int→Option Int
  | x5=>X8 x5
def lB(b:List Int)(at_ width:Int):Option Int:=
  need (0≤(at_:Int)∧(at_:Int)≤(bC (at_+width):Int)∧(bC (at_+width):Int)≤(b.length:Int)) ((loop (qW b at_ width) (0,0)).bind (X9))
def DL(x:Int):Option Bool:=
  some (x != 0)
def EP(b:List Int):Option Bool:=
  (d8 b (fun y0=>DL y0)).bind fun x1=>some (!x1)
def aA0:Option Bool:=
  some true
def oV(h:aE)(page x1 x4:Int):Int→Option (Step Int (Out Unit Bool))
  | x6=>(if decide (x6 < x4) then (rO x1).bind fun x7=>(lB ((h.Bytes.take ((bC ((bC (page+1)) * 64)).toNat)).drop ((bC (page * 64)).toNat)) (bC (8+(bC (x6 * x7)))) 4).bind fun x8=>(cL x8 1 7).bind fun x9=>(if !x9 then some (.stop (Out.ret false)) else some (.next (bC (x6+1)))) else some (.stop (Out.brk ())))
def aA1:(Out Unit Bool)→Option Bool
  | .brk ()=>aA0
  | .ret r=>some r
def iI(h:aE)(page x1:Int)(x3:Bool):Option Bool:=
  (if x3 then some false else (mZ x1).bind fun x4=>(loop (oV h page x1 x4) 0).bind (aA1))
def JF(h:aE)(page:Int):Option Bool:=
  (idx h.Class page).bind fun x1=>need (0≤(bC (page * 64):Int)∧(bC (page * 64):Int)≤(bC ((bC (page+1)) * 64):Int)∧(bC ((bC (page+1)) * 64):Int)≤(h.Bytes.length:Int)) ((if decide (x1 < 0) then (EP ((h.Bytes.take ((bC ((bC (page+1)) * 64)).toNat)).drop ((bC (page * 64)).toNat))).bind fun x2=>some x2 else (idx ((h.Bytes.take ((bC ((bC (page+1)) * 64)).toNat)).drop ((bC (page * 64)).toNat)) 0).bind fun x10=>(if x10 != 171 then iI h page x1 true else (idx ((h.Bytes.take ((bC ((bC (page+1)) * 64)).toNat)).drop ((bC (page * 64)).toNat)) 1).bind fun x11=>(if x11 != x1 then iI h page x1 true else (idx ((h.Bytes.take ((bC ((bC (page+1)) * 64)).toNat)).drop ((bC (page * 64)).toNat)) 2).bind fun x12=>(mZ x1).bind fun x13=>(if x12 != x13 then iI h page x1 true else need (0≤(3:Int)∧(3:Int)≤(8:Int)∧(8:Int)≤(((h.Bytes.take ((bC ((bC (page+1)) * 64)).toNat)).drop ((bC (page * 64)).toNat)).length:Int)) ((EP ((((h.Bytes.take ((bC ((bC (page+1)) * 64)).toNat)).drop ((bC (page * 64)).toNat)).take ((8:Int).toNat)).drop ((3:Int).toNat))).bind fun x14=>iI h page x1 (!x14)))))))
def aA2:Option Bool:=
  some true
def tG(h:aE):Int→Option (Step Int (Out Unit Bool))
  | x3=>(if decide (x3 < 6) then (JF h x3).bind fun x4=>(if !x4 then some (.stop (Out.ret false)) else some (.next (bC (x3+1)))) else some (.stop (Out.brk ())))
def aA3:(Out Unit Bool)→Option Bool
  | .brk ()=>aA2
  | .ret r=>some r
def ER(h:aE):Option Bool:=
  (EO h).bind fun x1=>(if !x1 then some false else (loop (tG h) 0).bind (aA3))
def wF(slot c:Int)(x1:Bool):Option Int:=
  (if x1 then some (-1) else (rO c).bind fun x2=>some (bC ((bC ((bC ((bC (Int.tdiv slot 4)) * 64))+8))+(bC ((Int.tmod slot 4) * x2)))))
def tH(slot c:Int):Option Int:=
  (lI slot).bind fun x3=>(if !x3 then wF slot c true else (jJ c).bind fun x4=>(if !x4 then wF slot c true else (mZ c).bind fun x5=>wF slot c (decide (x5≤(Int.tmod slot 4)))))
def xN(h:aE)(slot:Int)(x1:Bool):Option Int:=
  (if x1 then some (-1) else (idx h.Class (bC (Int.tdiv slot 4))).bind fun x2=>some x2)
def m3(h:aE)(slot:Int):Option Int:=
  (lI slot).bind fun x3=>(if !x3 then xN h slot true else (idx h.Class (bC (Int.tdiv slot 4))).bind fun x4=>(tH slot x4).bind fun x5=>xN h slot (decide (x5 < 0)))
def pY(h:aE)(slot:Int):Option Int:=
  (EO h).bind fun x1=>(if !x1 then some (-1) else (m3 h slot).bind fun x2=>some x2)
def yR(h:aE)(slot:Int):Option Int:=
  (pY h slot).bind fun x1=>(if decide (x1 < 0) then some 0 else (tH slot x1).bind fun x2=>(lB h.Bytes x2 4).bind fun x3=>some x3)
def VZ:Option Bool:=
  some true
def uR(x2:Int)(x4:Bool):Option (Step Int (Out Unit Bool)):=
  (if x4 then some (.stop (Out.ret false)) else some (.next (bC (x2+1))))
def lQ(h:aE)(s:aH)(c:Int):Int→Option (Step Int (Out Unit Bool))
  | x2=>(if decide (x2 < (s.aP.length:Int)) then (idx s.aP x2).bind fun x3=>(m3 h x3).bind fun x5=>(if x5 != c then uR x2 true else (yR h x3).bind fun x6=>uR x2 (decide (6 < x6))) else some (.stop (Out.brk ())))
def V1:(Out Unit Bool)→Option Bool
  | .brk ()=>VZ
  | .ret r=>some r
def wG(h:aE)(s:aH)(c:Int):Option Bool:=
  (loop (lQ h s c) 0).bind (V1)
def aDF:Option Bool:=
  some true
def rP(m:Mem):Int→Option (Step Int (Out Unit Bool))
  | x5=>(if decide (x5 < (m.aA.bJ.length:Int)) then (idx m.aA.bJ x5).bind fun x6=>(wG m.aE x6 (Int.tmod x5 3)).bind fun x7=>(if !x7 then some (.stop (Out.ret false)) else some (.next (bC (x5+1)))) else some (.stop (Out.brk ())))
def aDG:(Out Unit Bool)→Option Bool
  | .brk ()=>aDF
  | .ret r=>some r
def RV(m:Mem):Option Bool:=
  (loop (rP m) 0).bind (aDG)
def rQ(m:Mem):Int→Option (Step Int (Out Unit Bool))
  | x3=>(if decide (x3 < (m.aA.Global.length:Int)) then (idx m.aA.Global x3).bind fun x8=>(wG m.aE x8 x3).bind fun x9=>(if !x9 then some (.stop (Out.ret false)) else some (.next (bC (x3+1)))) else some (.stop (Out.brk ())))
def RW(m:Mem):(Out Unit Bool)→Option Bool
  | .brk ()=>RV m
  | .ret r=>some r
def DM(m:Mem)(x1:Bool):Option Bool:=
  (if x1 then some false else (loop (rQ m) 0).bind (RW m))
def HR(m:Mem):Option Bool:=
  (ER m.aE).bind fun x10=>(if !x10 then DM m true else (jI m.aA).bind fun x11=>DM m (!x11))
def AL(x5:Int):Option Int:=
  some x5
def iJ(l:List aO):(Int×Int)→Option (Step (Int×Int) Int)
  | (x3,x4)=>(if decide (x4 < (l.length:Int)) then (idx l x4).bind fun x6=>some (.next (bC (x3+(x6.Rows.length:Int)),bC (x4+1))) else some (.stop (x3)))
def T5:Int→Option Int
  | x5=>AL x5
def tI(l:List aO):Option Int:=
  (loop (iJ l) (0,0)).bind (T5)
def lR(x1:Bool):Option Bool:=
  some x1
def gD(h:Int):Option Bool:=
  (cL h 32 223).bind fun x2=>(if x2 then lR (decide ((Int.tmod h 32) < 24)) else lR false)
def xO(l:List aO):Option Bool:=
  (tI l).bind fun x5=>some (decide (x5≤24))
def xP(x3:Int)(x11:List Bool):Option (Step (Int×(List Bool)) (Out Unit Bool)):=
  some (.next (bC (x3+1),x11))
def iX(x9:Int)(x10:List Bool)(x12:b8)(x13:Bool):Option (Step (Int×(List Bool)) (Out (List Bool) Bool)):=
  (if x13 then some (.stop (Out.ret false)) else need (0≤(Int.tmod x12.Handle 32:Int)∧(Int.tmod x12.Handle 32:Int) < 24) ((idx (x10:List Bool) (Int.tmod x12.Handle 32)).bind fun x14=>some (.next (bC (x9+1),x10.set ((Int.tmod x12.Handle 32).toNat) true))))
def kN(x6:aO):(Int×(List Bool))→Option (Step (Int×(List Bool)) (Out (List Bool) Bool))
  | (x9,x10)=>(if decide (x9 < (x6.Rows.length:Int)) then (idx x6.Rows x9).bind fun x12=>(gD x12.Handle).bind fun x15=>(if !x15 then iX x9 x10 x12 true else (cL x12.aL 0 100000).bind fun x16=>(if !x16 then iX x9 x10 x12 true else need (0≤(Int.tmod x12.Handle 32:Int)∧(Int.tmod x12.Handle 32:Int) < 24) ((idx (x10:List Bool) (Int.tmod x12.Handle 32)).bind fun x17=>iX x9 x10 x12 x17))) else some (.stop (Out.brk x10)))
def N6(x3:Int):(Out (List Bool) Bool)→Option (Step (Int×(List Bool)) (Out Unit Bool))
  | .brk x11=>xP x3 x11
  | .ret r=>some (.stop (Out.ret r))
def kO(l:List aO):(Int×(List Bool))→Option (Step (Int×(List Bool)) (Out Unit Bool))
  | (x3,x4)=>(if decide (x3 < (l.length:Int)) then (idx l x3).bind fun x6=>(loop (kN x6) (0,x4)).bind (N6 x3) else some (.stop (Out.brk ())))
def N7(l:List aO):(Out Unit Bool)→Option Bool
  | .brk ()=>xO l
  | .ret r=>some r
def lC(l:List aO):Option Bool:=
  (if (l.length:Int) != 3 then some false else (loop (kO l) (0,[false,false,false,false,false,false,false,false,false,false,false,false,false,false,false,false,false,false,false,false,false,false,false,false])).bind (N7 l))
def tJ(x1:Bool):Option Bool:=
  some x1
def pK(h:Int):Option Bool:=
  (if h == 0 then tJ true else (gD h).bind fun x2=>tJ x2)
def GI(h:Int):Option Bool:=
  (pK h).bind fun x1=>some (!x1)
def DN(x1:Bool):Option Bool:=
  some x1
def CZ(z:List Int):Option Bool:=
  (if (z.length:Int) == 3 then (d8 z (fun y0=>GI y0)).bind fun x2=>DN (!x2) else DN false)
def vK:Option Int:=
  some (-1)
def i9(s:List aO)(f:(aO→Option Bool)):Int→Option (Step Int (Out Unit Int))
  | x2=>(if decide (x2 < (s.length:Int)) then (idx s x2).bind fun x3=>(f x3).bind fun x4=>(if x4 then some (.stop (Out.ret x2)) else some (.next (bC (x2+1)))) else some (.stop (Out.brk ())))
def mE:(Out Unit Int)→Option Int
  | .brk ()=>vK
  | .ret r=>some r
def pZ(s:List aO)(f:(aO→Option Bool)):Option Int:=
  (loop (i9 s f) 0).bind (mE)
def gH(s:List aO)(f:(aO→Option Bool)):Option Bool:=
  (pZ s f).bind fun x1=>some (decide (0≤x1))
def wH:Option Int:=
  some (-1)
def jK(s:List b8)(f:(b8→Option Bool)):Int→Option (Step Int (Out Unit Int))
  | x2=>(if decide (x2 < (s.length:Int)) then (idx s x2).bind fun x3=>(f x3).bind fun x4=>(if x4 then some (.stop (Out.ret x2)) else some (.next (bC (x2+1)))) else some (.stop (Out.brk ())))
def nG:(Out Unit Int)→Option Int
  | .brk ()=>wH
  | .ret r=>some r
def rU(s:List b8)(f:(b8→Option Bool)):Option Int:=
  (loop (jK s f) 0).bind (nG)
def gT(s:List b8)(f:(b8→Option Bool)):Option Bool:=
  (rU s f).bind fun x1=>some (decide (0≤x1))
def FY:Option Int:=
  some (-1)
def eC(s:List Int)(v:Int):Int→Option (Step Int (Out Unit Int))
  | x2=>(if decide (x2 < (s.length:Int)) then (idx s x2).bind fun x3=>(if v == x3 then some (.stop (Out.ret x2)) else some (.next (bC (x2+1)))) else some (.stop (Out.brk ())))
def nR:(Out Unit Int)→Option Int
  | .brk ()=>FY
  | .ret r=>some r
def lS(s:List Int)(v:Int):Option Int:=
  (loop (eC s v) 0).bind (nR)
def nS(s:List Int)(v:Int):Option Bool:=
  (lS s v).bind fun x1=>some (decide (0≤x1))
def nH(s:aH)(k0:Int):Option Bool:=
  (nS s.aP k0).bind fun x1=>some x1
def vL:Option Int:=
  some (-1)
def jA(s:List aH)(f:(aH→Option Bool)):Int→Option (Step Int (Out Unit Int))
  | x2=>(if decide (x2 < (s.length:Int)) then (idx s x2).bind fun x3=>(f x3).bind fun x4=>(if x4 then some (.stop (Out.ret x2)) else some (.next (bC (x2+1)))) else some (.stop (Out.brk ())))
def mF:(Out Unit Int)→Option Int
  | .brk ()=>vL
  | .ret r=>some r
def p7(s:List aH)(f:(aH→Option Bool)):Option Int:=
  (loop (jA s f) 0).bind (mF)
def gI(s:List aH)(f:(aH→Option Bool)):Option Bool:=
  (p7 s f).bind fun x1=>some (decide (0≤x1))
def AM(x1:Bool):Option Bool:=
  some x1
def ES(l:aA)(slot:Int):Option Bool:=
  (gI l.Global (fun y0=>nH y0 slot)).bind fun x2=>(if x2 then AM true else (gI l.bJ (fun y0=>nH y0 slot)).bind fun x3=>AM x3)
def GJ(m:Mem)(slot:Int):Option Int:=
  (m3 m.aE slot).bind fun x1=>(if decide (x1 < 0) then some 0 else (ES m.aA slot).bind fun x2=>(if x2 then some 1 else (yR m.aE slot).bind fun x3=>(if decide (6 < x3) then some 2 else some 3)))
def tK(x1:Bool):Option Bool:=
  some x1
def zH(m:Mem)(h:Int):Option Bool:=
  (gD h).bind fun x2=>(if x2 then (GJ m (Int.tmod h 32)).bind fun x3=>(if x3 == 3 then (yR m.aE (Int.tmod h 32)).bind fun x4=>tK (x4 == (bC (Int.tdiv h 32))) else tK false) else tK false)
def p8(x1:Bool):Option Bool:=
  some x1
def xQ(r_:b8)(k0:aB):Option Bool:=
  (zH k0.Mem r_.Handle).bind fun x2=>(if !x2 then p8 true else p8 (decide (k0.aI.aL < r_.aL)))
def DO(l:aO)(k0:aB):Option Bool:=
  (gT l.Rows (fun y0=>xQ y0 k0)).bind fun x1=>some x1
def oW(b:aB)(x1:Bool):Option Bool:=
  (if x1 then some false else (gH b.aV (fun y0=>DO y0 b)).bind fun x2=>some (!x2))
def JG(b:aB):Option Bool:=
  (HR b.Mem).bind fun x3=>(if !x3 then oW b true else (mY b.aI).bind fun x4=>(if !x4 then oW b true else (lC b.aV).bind fun x5=>(if !x5 then oW b true else (CZ b.iC).bind fun x6=>oW b (!x6))))
def AN:Option Int:=
  some (-1)
def lD(s:List gA)(f:(gA→Option Bool)):Int→Option (Step Int (Out Unit Int))
  | x2=>(if decide (x2 < (s.length:Int)) then (idx s x2).bind fun x3=>(f x3).bind fun x4=>(if x4 then some (.stop (Out.ret x2)) else some (.next (bC (x2+1)))) else some (.stop (Out.brk ())))
def qA:(Out Unit Int)→Option Int
  | .brk ()=>AN
  | .ret r=>some r
def vP(s:List gA)(f:(gA→Option Bool)):Option Int:=
  (loop (lD s f) 0).bind (qA)
def lE(s:List gA)(f:(gA→Option Bool)):Option Bool:=
  (vP s f).bind fun x1=>some (decide (0≤x1))
def GK(x4:Bool):Option Bool:=
  some x4
def GL(x7:Bool):Option Bool:=
  some x7
def AO(o_:gA)(x3:Bool):Option Bool:=
  (if x3 then some false else (if o_.Kind == 1 then (cL o_.eT 0 100).bind fun x5=>(if x5 then (cL o_.eU 0 65535).bind fun x6=>GK x6 else GK false) else (if o_.eT == 0 then GL (o_.eU == 0) else GL false)))
def m4(o_:gA)(x1:Bool):Option Bool:=
  (cL o_.Kind 1 7).bind fun x2=>(if !x2 then some false else (if x1 then (cL o_.Cell 0 1).bind fun x8=>(if !x8 then AO o_ true else AO o_ false) else AO o_ (o_.Cell != 0)))
def HD(o_:gA):Option Bool:=
  (if o_.Kind == 1 then m4 o_ true else (if o_.Kind == 2 then m4 o_ true else (if o_.Kind == 3 then m4 o_ true else m4 o_ (o_.Kind == 7))))
def xR(o_:gA):Option Bool:=
  (HD o_).bind fun x1=>some (!x1)
def uS(x1:Bool):Option Bool:=
  some x1
def DP(q:Queue):Option Bool:=
  (if decide (12 < (q.fX.length:Int)) then uS true else (lE q.fX (fun y0=>xR y0)).bind fun x2=>uS x2)
def AP(x1:Bool):Option Bool:=
  some x1
def ET(todo:List Queue):Option Bool:=
  (if (todo.length:Int) == 3 then (i7 todo (fun y0=>DP y0)).bind fun x2=>AP (!x2) else AP false)
def tL(h:Int):Option Bool:=
  (pK h).bind fun x1=>some (!x1)
def wI(x1:Bool):Option Bool:=
  some x1
def MT(j:bX):Option Bool:=
  (if !j.iV then some (decide (j=(⟨false,(⟨0,0,0,0⟩:gA),0,0,(⟨0,0,0,0,0,0,0,0,0,false⟩:Sub),0,0,0,0⟩:bX))) else (HD j.Op).bind fun x2=>(if x2 then (pK j.H).bind fun x3=>(if x3 then (pK j.Old).bind fun x4=>wI x4 else wI false) else wI false))
def AQ(j:bX):Option Bool:=
  (MT j).bind fun x1=>some (!x1)
def g7(x1:Bool):Option Bool:=
  some x1
def AR(s:aD):Option Bool:=
  (JG s.aB).bind fun x2=>(if x2 then (if (s.Cells.length:Int) == 2 then (if (s.aR.length:Int) == 3 then (ET s.cG).bind fun x3=>(if x3 then (cL s.aN 0 1000000).bind fun x4=>(if x4 then (d8 s.Cells (fun y0=>tL y0)).bind fun x5=>(if !x5 then (j5 s.aR (fun y0=>AQ y0)).bind fun x6=>g7 (!x6) else g7 false) else g7 false) else g7 false) else g7 false) else g7 false) else g7 false)
def YA(x y:Int):Option (Int×Int):=
  some (IntKind.u64.wrap ((IntKind.u64.wrap ((IntKind.u64.wrap ((sI .u64 x 32) * (sI .u64 y 32)))+(sI .u64 (IntKind.u64.wrap ((IntKind.u64.wrap ((sI .u64 x 32) * (fY .and .u64 y 4294967295)))+(sI .u64 (IntKind.u64.wrap ((fY .and .u64 x 4294967295) * (fY .and .u64 y 4294967295))) 32))) 32)))+(sI .u64 (IntKind.u64.wrap ((fY .and .u64 (IntKind.u64.wrap ((IntKind.u64.wrap ((sI .u64 x 32) * (fY .and .u64 y 4294967295)))+(sI .u64 (IntKind.u64.wrap ((fY .and .u64 x 4294967295) * (fY .and .u64 y 4294967295))) 32))) 4294967295)+(IntKind.u64.wrap ((fY .and .u64 x 4294967295) * (sI .u64 y 32))))) 32)),IntKind.u64.wrap (x * y))
def RX(x y:Int):Option (Int×Int):=
  (YA x y).bind fun x1=>some (x1.1,x1.2)
def iY(kind a_:Int):Option Sub:=
  some (⟨kind,a_,0,0,0,0,0,0,0,false⟩:Sub)
def dL(s:aD)(kind w_ handle val code:Int)(x1:bX):Option aD:=
  some ({s with Log:=s.Log++([(⟨kind,w_,x1.aN,x1.Op.Cell,handle,val,code⟩:Ev)])}:aD)
def c9(s:aD)(kind w_ handle val code:Int):Option aD:=
  (idx s.aR w_).bind fun x1=>need (s.Log.length+([(⟨kind,w_,x1.aN,x1.Op.Cell,handle,val,code⟩:Ev)]).length≤1073741824)<|dL s kind w_ handle val code x1
def uT(s:List gA)(i j:Int):Option (List gA):=
  need (0≤(i:Int)∧(i:Int)≤(j:Int)∧(j:Int)≤((s.length:Int):Int)∧((s.length:Int):Int)≤(s.length:Int)) ((if i == j then some s else need (0≤(i:Int)∧(i:Int)≤(s.length:Int)) (need (0≤(j:Int)∧(j:Int)≤(s.length:Int)) (need (i.toNat≤j.toNat) (need (0≤(((((dQ s i.toNat (s.drop j.toNat)).take (i.toNat+(s.length - j.toNat))).drop 0).length:Int):Int)∧(((((dQ s i.toNat (s.drop j.toNat)).take (i.toNat+(s.length - j.toNat))).drop 0).length:Int):Int)≤((s.length:Int):Int)∧((s.length:Int):Int)≤((dQ s i.toNat (s.drop j.toNat)).length:Int)) (some (((dQ s i.toNat (s.drop j.toNat)).take (i.toNat+(s.length - j.toNat))).drop 0)))))))
def bP(j:bX)(code:Int):Option bX:=
  some ({j with Pc:=9,Code:=code}:bX)
def dV(s:aD)(w_:Int)(x4:(List gA))(x5:bX):Option aD:=
  (idx s.aR w_).bind fun x6=>(c9 ({s with aR:=s.aR.set w_.toNat x5,cG:=s.cG.set w_.toNat (⟨x4⟩:Queue),aN:=bC (s.aN+1)}:aD) 1 w_ 0 0 0).bind fun x7=>some x7
def iU(s:aD)(w_:Int)(x3:gA)(x4:(List gA))(x9:Bool):Option aD:=
  (if x9 then (iY 5 0).bind fun x10=>(idx s.aB.aI.bA w_).bind fun x11=>(if x11.On then (bP (⟨true,x3,bC (s.aN+1),0,x10,0,0,0,0⟩:bX) 1).bind fun x12=>dV s w_ x4 x12 else dV s w_ x4 (⟨true,x3,bC (s.aN+1),0,x10,0,0,0,0⟩:bX)) else (if x3.Kind == 4 then (iY 3 0).bind fun x13=>dV s w_ x4 (⟨true,x3,bC (s.aN+1),0,x13,0,0,0,0⟩:bX) else dV s w_ x4 (⟨true,x3,bC (s.aN+1),0,(⟨0,0,0,0,0,0,0,0,0,false⟩:Sub),0,0,0,0⟩:bX)))
def nT(s:aD)(w_:Int)(x1:Bool):Option aD:=
  (if x1 then some s else (idx s.cG w_).bind fun x2=>(idx x2.fX 0).bind fun x3=>(uT x2.fX 0 1).bind fun x4=>(if x3.Kind == 1 then (iY 1 x3.eT).bind fun x8=>dV s w_ x4 (⟨true,x3,bC (s.aN+1),0,x8,0,0,0,0⟩:bX) else (if x3.Kind == 2 then iU s w_ x3 x4 true else iU s w_ x3 x4 (x3.Kind == 5))))
def uU(s:aD)(w_:Int):Option aD:=
  (idx s.cG w_).bind fun x14=>(if (x14.fX.length:Int) == 0 then nT s w_ true else nT s w_ (s.aN == 1000000))
def bG(s:Sub)(code:Int):Option Sub:=
  some ({s with Code:=code,cQ:=true}:Sub)
def YB:Option Int:=
  some (-1)
def xS(x2:Int)(x3:Bool):Option (Step Int (Out Unit Int)):=
  (if x3 then some (.stop (Out.ret x2)) else some (.next (bC (x2+1))))
def iZ(size:Int):Int→Option (Step Int (Out Unit Int))
  | x2=>(if decide (x2 < 3) then (if decide (1≤size) then (zG x2).bind fun x4=>xS x2 (decide (size≤x4)) else xS x2 false) else some (.stop (Out.brk ())))
def YC:(Out Unit Int)→Option Int
  | .brk ()=>YB
  | .ret r=>some r
def GM(size:Int):Option Int:=
  (loop (iZ size) 0).bind (YC)
def e9(w_:Int):Option Bool:=
  (cL w_ 0 2).bind fun x1=>some x1
def DQ(w_ c:Int)(x1:Bool):Option Int:=
  (if x1 then some (-1) else some (bC ((bC (w_ * 3))+c)))
def HT(w_ c:Int):Option Int:=
  (e9 w_).bind fun x2=>(if !x2 then DQ w_ c true else (jJ c).bind fun x3=>DQ w_ c (!x3))
def tM(s:aH):Option (Int×aH):=
  (if decide ((bC ((s.aP.length:Int) - 1)) < 0) then some ((-1),s) else (idx s.aP (bC ((s.aP.length:Int) - 1))).bind fun x1=>need (0≤(bC ((s.aP.length:Int) - 1):Int)∧(bC ((s.aP.length:Int) - 1):Int)≤(bC ((s.aP.length:Int) - 1):Int)∧(bC ((s.aP.length:Int) - 1):Int)≤(s.aP.length:Int)) (some (x1,(⟨(s.aP.take ((bC ((s.aP.length:Int) - 1)).toNat)).drop 0⟩:aH))))
def xT(x1:aA)(x2:Int)(x3:Bool):Option (aA×Int):=
  (if x3 then some (x1,(-1)) else (idx x1.bJ x2).bind fun x4=>(tM x4).bind fun x5=>some ((⟨x1.Global,x1.bJ.set x2.toNat x5.2⟩:aA),x5.1))
def GN(l:aA)(w_ c:Int):Option (aA×Int):=
  (gR l).bind fun x1=>(HT w_ c).bind fun x2=>(jI l).bind fun x6=>(if !x6 then xT x1 x2 true else xT x1 x2 (decide (x2 < 0)))
def qB(c:Int)(x1:aA)(x2:Bool):Option (aA×Int):=
  (if x2 then some (x1,(-1)) else (idx x1.Global c).bind fun x3=>(tM x3).bind fun x4=>some ((⟨x1.Global.set c.toNat x4.2,x1.bJ⟩:aA),x4.1))
def xU(l:aA)(c:Int):Option (aA×Int):=
  (gR l).bind fun x1=>(jI l).bind fun x5=>(if !x5 then qB c x1 true else (jJ c).bind fun x6=>qB c x1 (!x6))
def jL(width:Int):Option Bool:=
  (cL width 1 7).bind fun x1=>some x1
def aDH(x8:List UInt8):Option (List UInt8):=
  some x8
def DR:(Int×(List UInt8)×Int)→Option (Step (Int×(List UInt8)×Int) (List UInt8))
  | (x5,x6,x7)=>(if decide (0≤x7) then (idx x6 x7).bind fun x9=>some (.next (sI .i64 x5 8,x6.set x7.toNat (u8 x5),bC (x7 - 1))) else some (.stop (x6)))
def aDI:(List UInt8)→Option (List UInt8)
  | x8=>aDH x8
def wJ(n width:Int)(x1:Bool):Option (List UInt8):=
  (if x1 then some ([]) else need (0≤(width:Int)∧(width:Int)≤4294967296) ((loop (DR) (n,List.replicate (width.toNat) 0,bC (width - 1))).bind (aDI)))
def yT(n width:Int):Option (List UInt8):=
  (jL width).bind fun x10=>(if !x10 then wJ n width true else (if decide (n < 0) then wJ n width true else need (0≤(IntKind.u64.wrap (bC (8 * width)):Int)) (wJ n width (decide ((aEI .i64 1 (IntKind.u64.wrap (bC (8 * width))))≤n)))))
def PF(b x5:List Int):Option (List Int):=
  need (x5.length=b.length) (some x5)
def AS(b:List Int)(at_:Int)(text:List UInt8):((List Int)×Int)→Option (Step ((List Int)×Int) (List Int))
  | (x3,x4)=>need (x3.length=b.length) ((if decide (x4 < (text.length:Int)) then (idx text x4).bind fun x6=>(idx x3 (bC (at_+x4))).bind fun x7=>some (.next (x3.set ((bC (at_+x4)).toNat) (x6.toNat:Int),bC (x4+1))) else some (.stop (x3))))
def PG(b:List Int):(List Int)→Option (List Int)
  | x5=>PF b x5
def tN(b:List Int)(at_:Int)(text:List UInt8):Option (List Int):=
  (loop (AS b at_ text) (b,0)).bind (PG b)
def AT(page index:Int)(x1:Bool):Option Int:=
  (if x1 then some (-1) else some (bC ((bC (page * 4))+index)))
def JH(page index:Int):Option Int:=
  (cL page 0 5).bind fun x2=>(if !x2 then AT page index true else (cL index 0 3).bind fun x3=>AT page index (!x3))
def aDJ(c:Int)(x1:aE)(x2:Int)(x13 x14:List Int):Option (aE×(List Int)):=
  some ((⟨x14,x1.Class.set x2.toNat c⟩:aE),x13)
def KK(x10:List Int)(x11 x15:Int)(x16:List Int):Option (Step ((List Int)×Int×(List Int)) ((List Int)×(List Int))):=
  need (x10.length+([x15]).length≤1073741824) (some (.next (x10++([x15]),bC (x11+1),x16)))
def DS(c x2 x6:Int):((List Int)×Int×(List Int))→Option (Step ((List Int)×Int×(List Int)) ((List Int)×(List Int)))
  | (x10,x11,x12)=>(if decide (x11 < x6) then (JH x2 x11).bind fun x15=>(tH x15 c).bind fun x17=>(yT 1 4).bind fun x18=>(tN x12 x17 x18).bind fun x19=>KK x10 x11 x15 x19 else some (.stop ((x10,x12))))
def aDK(c:Int)(x1:aE)(x2:Int):((List Int)×(List Int))→Option (aE×(List Int))
  | (x13,x14)=>aDJ c x1 x2 x13 x14
def KL(c:Int)(x1:aE)(x2:Int)(x5:List Int):Option (aE×(List Int)):=
  (mZ c).bind fun x6=>(loop (DS c x2 x6) (([]:List Int),0,x5)).bind (aDK c x1 x2)
def wK(c:Int)(x1:aE)(x2:Int)(x3:Bool):Option (aE×(List Int)):=
  (if x3 then some (x1,([]:List Int)) else (idx x1.Class x2).bind fun x4=>need (0≤(bC (x2 * 64):Int)∧(bC (x2 * 64):Int)≤(x1.Bytes.length:Int))<|(mZ c).bind fun x20=>KL c x1 x2 (dQ x1.Bytes ((bC (x2 * 64)).toNat) ([171,c,x20]:List Int)))
def C0(h:aE)(c:Int):Option (aE×(List Int)):=
  (rN h).bind fun x1=>(lS h.Class (-1)).bind fun x2=>(ER h).bind fun x21=>(if !x21 then wK c x1 x2 true else (jJ c).bind fun x22=>(if !x22 then wK c x1 x2 true else wK c x1 x2 (decide (x2 < 0))))
def FH(x4:Int)(x5:Mem):Option (Mem×Int):=
  some (x5,x4)
def FI(c:Int)(x1:aE×(List Int))(x2:Mem):Option (Mem×Int):=
  (if (x1.2.length:Int) == 0 then some (x2,(-1)) else (idx x2.aA.Global c).bind fun x3=>need (0≤(1:Int)∧(1:Int)≤(x1.2.length:Int)) (need (x3.aP.length+((x1.2.take x1.2.length).drop ((1:Int).toNat)).length≤1073741824) ((idx x1.2 0).bind fun x6=>FH x6 (⟨x2.aE,(⟨x2.aA.Global.set c.toNat (⟨x3.aP++((x1.2.take x1.2.length).drop ((1:Int).toNat))⟩:aH),x2.aA.bJ⟩:aA)⟩:Mem))))
def GO(m:Mem)(c:Int):Option (Mem×Int):=
  (C0 m.aE c).bind fun x1=>(gR m.aA).bind fun x7=>FI c x1 (⟨x1.1,x7⟩:Mem)
def uV(slot gen:Int)(x1:Bool):Option Int:=
  (if x1 then some 0 else some (bC ((bC (gen * 32))+slot)))
def KM(slot gen:Int):Option Int:=
  (lI slot).bind fun x2=>(if !x2 then uV slot gen true else (cL gen 1 6).bind fun x3=>uV slot gen (!x3))
def DT(m:Mem)(slot:Int):Option Int:=
  (yR m.aE slot).bind fun x1=>(KM slot x1).bind fun x2=>some x2
def gP(s:Sub)(x3:Int)(x4:aB):Option (Sub×aB):=
  (if decide (0≤x3) then (DT x4.Mem x3).bind fun x5=>(bG ({s with Out:=x5}:Sub) 0).bind fun x6=>some (x6,x4) else (if s.Pc == 3 then (bG s 3).bind fun x7=>some (x7,x4) else some (({s with Pc:=bC (s.Pc+1)}:Sub),x4)))
def l8(s:Sub)(b:aB)(x1:Int)(x9:Bool):Option (Sub×aB):=
  (if x9 then (xU b.Mem.aA x1).bind fun x10=>gP s x10.2 ({b with Mem:=(⟨b.Mem.aE,x10.1⟩:Mem)}:aB) else (if s.Pc == 2 then (GO b.Mem x1).bind fun x11=>gP s x11.2 ({b with Mem:=x11.1}:aB) else (bG s 1).bind fun x12=>some (x12,b)))
def qC(s:Sub)(b:aB)(w_:Int):Option (Sub×aB):=
  (GM s.A).bind fun x1=>(if decide (x1 < 0) then (bG s 2).bind fun x2=>some (x2,b) else (if s.Pc == 0 then (GN b.Mem.aA w_ x1).bind fun x8=>gP s x8.2 ({b with Mem:=(⟨b.Mem.aE,x8.1⟩:Mem)}:aB) else (if s.Pc == 1 then l8 s b x1 true else l8 s b x1 (s.Pc == 3))))
def nU(x1:Bool):Option Bool:=
  some x1
def oX(r_:b8)(k0:Int):Option Bool:=
  (gD r_.Handle).bind fun x2=>(if x2 then nU ((Int.tmod r_.Handle 32) == k0) else nU false)
def AU(own:aO)(k0:Int):Option Bool:=
  (gT own.Rows (fun y0=>oX y0 k0)).bind fun x1=>some x1
def GP(l:List aO)(slot:Int):Option Bool:=
  (gH l (fun y0=>AU y0 slot)).bind fun x1=>some x1
def uW(l:List aO)(w_ h e_:Int)(x1:Bool):Option ((List aO)×Bool):=
  (if x1 then (jT l).bind fun x2=>some (x2,false) else (jT l).bind fun x3=>(idx x3 w_).bind fun x4=>need (x4.Rows.length+([(⟨h,e_⟩:b8)]).length≤1073741824) ((lC (x3.set w_.toNat (⟨x4.Rows++([(⟨h,e_⟩:b8)])⟩:aO))).bind fun x5=>(if !x5 then (jT l).bind fun x6=>some (x6,false) else some (x3.set w_.toNat (⟨x4.Rows++([(⟨h,e_⟩:b8)])⟩:aO),true))))
def DU(l:List aO)(w_ h e_:Int):Option ((List aO)×Bool):=
  (lC l).bind fun x7=>(if !x7 then uW l w_ h e_ true else (e9 w_).bind fun x8=>uW l w_ h e_ (!x8))
def lF(s:Sub)(b:aB)(w_:Int)(x3:Bool):Option (Sub×aB):=
  (if x3 then (bG s 4).bind fun x4=>some (x4,b) else (DU b.aV w_ s.A s.E).bind fun x5=>(bG s 0).bind fun x6=>some (x6,({b with aV:=x5.1}:aB)))
def lG(s:Sub)(b:aB)(w_:Int)(x1:Bool):Option (Sub×aB):=
  (if x1 then (bG s 1).bind fun x2=>some (x2,b) else (zH b.Mem s.A).bind fun x7=>(if !x7 then lF s b w_ true else (GP b.aV (Int.tmod s.A 32)).bind fun x8=>lF s b w_ x8))
def nV(s:Sub)(b:aB)(w_:Int):Option (Sub×aB):=
  (if s.Pc == 0 then some (({s with Pc:=1,E:=b.aI.aL}:Sub),b) else (if s.Pc != 1 then lG s b w_ true else (cL s.E 0 b.aI.aL).bind fun x9=>lG s b w_ (!x9)))
def oY(w_:Int)(x1:aI)(x4:Bool):Option (aI×Bool):=
  (if x4 then some (x1,true) else (idx x1.bA w_).bind fun x5=>(if decide (x5.Seen < 2) then some ((⟨x1.aL,x1.bA.set w_.toNat ({x5 with Seen:=bC (x5.Seen+1)}:gK)⟩:aI),false) else some ((⟨x1.aL,x1.bA.set w_.toNat ({x5 with fF:=true,Seen:=0}:gK)⟩:aI),true)))
def AV(w_ e_:Int)(x1:aI)(x2:Bool):Option (aI×Bool):=
  (if x2 then some (x1,false) else (idx x1.bA w_).bind fun x3=>(if !x3.On then oY w_ x1 true else (if x3.fF then oY w_ x1 true else oY w_ x1 (x3.aL == e_))))
def JJ(c:aI)(w_ e_:Int):Option (aI×Bool):=
  (jS c).bind fun x1=>(mY c).bind fun x6=>(if !x6 then AV w_ e_ x1 true else (e9 w_).bind fun x7=>AV w_ e_ x1 (!x7))
def AW(x1:aI)(x2:Bool):Option (aI×Bool):=
  (if x2 then some (x1,false) else some ((⟨bC (x1.aL+1),x1.bA⟩:aI),true))
def RE(c:aI)(e_:Int):Option (aI×Bool):=
  (jS c).bind fun x1=>(mY c).bind fun x3=>(if !x3 then AW x1 true else (if c.aL != e_ then AW x1 true else AW x1 (c.aL == 100000)))
def j8(s:Sub)(b:aB)(x4:aI×Bool)(x5:Int):Option (Sub×aB):=
  (bG ({s with Out:=x5}:Sub) 0).bind fun x6=>some (x6,({b with aI:=x4.1}:aB))
def j9(s:Sub)(b:aB)(x1:Bool):Option (Sub×aB):=
  (if x1 then (JJ b.aI s.B s.E).bind fun x2=>(if !x2.2 then (bG s 8).bind fun x3=>some (x3,({b with aI:=x2.1}:aB)) else (if (bC (s.B+1)) == 3 then some (({s with Pc:=2,B:=bC (s.B+1)}:Sub),({b with aI:=x2.1}:aB)) else some (({s with B:=bC (s.B+1)}:Sub),({b with aI:=x2.1}:aB)))) else (if s.Pc == 2 then (RE b.aI s.E).bind fun x4=>(if x4.2 then j8 s b x4 1 else j8 s b x4 s.Out) else (bG s 1).bind fun x7=>some (x7,b)))
def m5(s:Sub)(b:aB):Option (Sub×aB):=
  (if s.Pc == 0 then some (({s with Pc:=1,E:=b.aI.aL,B:=0}:Sub),b) else (if s.Pc == 1 then (e9 s.B).bind fun x8=>j9 s b x8 else j9 s b false))
def AX(x1:Bool):Option Bool:=
  some x1
def EU(l:List aO)(w_ i:Int):Option Bool:=
  (e9 w_).bind fun x2=>(if x2 then (idx l w_).bind fun x3=>(cL i 0 (bC ((x3.Rows.length:Int) - 1))).bind fun x4=>AX x4 else AX false)
def GQ(x1:Bool):Option Bool:=
  some x1
def LW(r_:b8)(e_:Int):Option Bool:=
  (if decide (2≤e_) then GQ (decide (r_.aL≤(bC (e_ - 2)))) else GQ false)
def EV(s:Sub)(b:aB):Option (Sub×aB):=
  (bG s 0).bind fun x3=>some (x3,b)
def eI(s:Sub)(b:aB)(w_:Int):Int→Option (Step Int (Out Unit (Sub×aB)))
  | x2=>(idx b.aV w_).bind fun x4=>(if decide (x2 < (x4.Rows.length:Int)) then (idx x4.Rows x2).bind fun x5=>(LW x5 s.E).bind fun x6=>(if x6 then some (.stop (Out.ret (({s with Pc:=2,Row:=x2,B:=0,H:=x5.Handle}:Sub),b))) else some (.next (bC (x2+1)))) else some (.stop (Out.brk ())))
def PH(s:Sub)(b:aB):(Out Unit (Sub×aB))→Option (Sub×aB)
  | .brk ()=>EV s b
  | .ret r=>some r
def m6(s:Sub)(b:aB)(w_:Int):Option (Sub×aB):=
  (loop (eI s b w_) (if s.Row < 0 then 0 else s.Row)).bind (PH s b)
def yU(s:List b8)(i j:Int):Option (List b8):=
  need (0≤(i:Int)∧(i:Int)≤(j:Int)∧(j:Int)≤((s.length:Int):Int)∧((s.length:Int):Int)≤(s.length:Int)) ((if i == j then some s else need (0≤(i:Int)∧(i:Int)≤(s.length:Int)) (need (0≤(j:Int)∧(j:Int)≤(s.length:Int)) (need (i.toNat≤j.toNat) (need (0≤(((((dQ s i.toNat (s.drop j.toNat)).take (i.toNat+(s.length - j.toNat))).drop 0).length:Int):Int)∧(((((dQ s i.toNat (s.drop j.toNat)).take (i.toNat+(s.length - j.toNat))).drop 0).length:Int):Int)≤((s.length:Int):Int)∧((s.length:Int):Int)≤((dQ s i.toNat (s.drop j.toNat)).length:Int)) (some (((dQ s i.toNat (s.drop j.toNat)).take (i.toNat+(s.length - j.toNat))).drop 0)))))))
def xV(w_ i:Int)(x1:(List aO))(x2:Bool):Option ((List aO)×Bool):=
  (if x2 then some (x1,false) else (idx x1 w_).bind fun x3=>(yU x3.Rows i (bC (i+1))).bind fun x4=>some (x1.set w_.toNat (⟨x4⟩:aO),true))
def GR(l:List aO)(w_ i:Int):Option ((List aO)×Bool):=
  (jT l).bind fun x1=>(lC l).bind fun x5=>(if !x5 then xV w_ i x1 true else (EU l w_ i).bind fun x6=>xV w_ i x1 (!x6))
def HU(x3 x5:List Int):Option (aE×Bool):=
  some ((⟨x5,x3⟩:aE),true)
def AY(slot gen x1:Int)(x2 x3:List Int)(x4:Bool):Option (aE×Bool):=
  (if x4 then some ((⟨x2,x3⟩:aE),false) else (tH slot x1).bind fun x6=>(yT gen 4).bind fun x7=>(tN x2 x6 x7).bind fun x8=>HU x3 x8)
def HV(slot gen x1:Int)(x2 x3:List Int):Option (aE×Bool):=
  (if decide (x1 < 0) then AY slot gen x1 x2 x3 true else (cL gen 1 7).bind fun x9=>AY slot gen x1 x2 x3 (!x9))
def PI(h:aE)(slot gen:Int):Option (aE×Bool):=
  (rN h).bind fun x10=>(pY h slot).bind fun x11=>HV slot gen x11 x10.Bytes x10.Class
def uX(c slot:Int)(x1:aA)(x2:Int)(x3:Bool):Option (aA×Bool):=
  (if x3 then some (x1,false) else (idx x1.bJ x2).bind fun x4=>(if decide (2≤(x4.aP.length:Int)) then (idx x1.Global c).bind fun x5=>need (x5.aP.length+([slot]).length≤1073741824) (some ((⟨x1.Global.set c.toNat (⟨x5.aP++([slot])⟩:aH),x1.bJ⟩:aA),true)) else need (x4.aP.length+([slot]).length≤1073741824) (some ((⟨x1.Global,x1.bJ.set x2.toNat (⟨x4.aP++([slot])⟩:aH)⟩:aA),true))))
def V2(l:aA)(w_ c slot:Int):Option (aA×Bool):=
  (gR l).bind fun x1=>(HT w_ c).bind fun x2=>(jI l).bind fun x6=>(if !x6 then uX c slot x1 x2 true else (if decide (x2 < 0) then uX c slot x1 x2 true else (lI slot).bind fun x7=>(if !x7 then uX c slot x1 x2 true else (ES l slot).bind fun x8=>uX c slot x1 x2 x8)))
def KN(x3:Mem):Option Mem:=
  some x3
def KO(m:Mem)(w_ h:Int)(x2:Mem):Option Mem:=
  (if decide ((bC ((bC (Int.tdiv h 32))+1))≤6) then (m3 m.aE (Int.tmod h 32)).bind fun x4=>(V2 m.aA w_ x4 (Int.tmod h 32)).bind fun x5=>KN (⟨x2.aE,x5.1⟩:Mem) else KN x2)
def MU(m:Mem)(w_ h:Int):Option Mem:=
  (PI m.aE (Int.tmod h 32) (bC ((bC (Int.tdiv h 32))+1))).bind fun x1=>(gR m.aA).bind fun x6=>KO m w_ h (⟨x1.1,x6⟩:Mem)
def dF(s:Sub)(b:aB)(w_:Int)(x5:Bool):Option (Sub×aB):=
  (if x5 then (GR b.aV w_ s.Row).bind fun x6=>(MU b.Mem w_ s.H).bind fun x7=>some (({s with Pc:=1,Out:=bC (s.Out+1)}:Sub),({b with Mem:=x7,aV:=x6.1}:aB)) else (bG s 1).bind fun x8=>some (x8,b))
def d9(s:Sub)(b:aB)(w_:Int)(x1 x3:Bool):Option (Sub×aB):=
  (if x3 then (idx b.iC s.B).bind fun x4=>(if x4 == s.H then some (({s with Pc:=1,Row:=bC (s.Row+1)}:Sub),b) else (if (bC (s.B+1)) == 3 then some (({s with Pc:=3,B:=bC (s.B+1)}:Sub),b) else some (({s with B:=bC (s.B+1)}:Sub),b))) else (if s.Pc == 3 then (if x1 then (idx b.aV w_).bind fun x9=>(idx x9.Rows s.Row).bind fun x10=>(LW x10 s.E).bind fun x11=>dF s b w_ x11 else dF s b w_ false) else dF s b w_ false))
def eY(s:Sub)(b:aB)(w_:Int)(x1:Bool):Option (Sub×aB):=
  (if s.Pc == 0 then some (({s with Pc:=1,E:=b.aI.aL,Row:=0}:Sub),b) else (if s.Pc == 1 then (m6 s b w_).bind fun x2=>some (x2.1,x2.2) else (if s.Pc == 2 then (e9 s.B).bind fun x12=>(if x12 then d9 s b w_ x1 x1 else d9 s b w_ x1 false) else d9 s b w_ x1 false)))
def m7(s:Sub)(b:aB)(w_:Int):Option (Sub×aB):=
  (EU b.aV w_ s.Row).bind fun x13=>(if x13 then (idx b.aV w_).bind fun x14=>(idx x14.Rows s.Row).bind fun x15=>eY s b w_ (x15.Handle == s.H) else eY s b w_ false)
def wL(w_ e_:Int)(x1:aI)(x2:Bool):Option (aI×Bool):=
  (if x2 then some (x1,false) else (idx x1.bA w_).bind fun x3=>some ((⟨x1.aL,x1.bA.set w_.toNat (⟨true,e_,false,0⟩:gK)⟩:aI),true))
def MV(c:aI)(w_ e_:Int):Option (aI×Bool):=
  (jS c).bind fun x1=>(mY c).bind fun x4=>(if !x4 then wL w_ e_ x1 true else (e9 w_).bind fun x5=>(if !x5 then wL w_ e_ x1 true else (cL e_ 0 c.aL).bind fun x6=>wL w_ e_ x1 (!x6)))
def vQ(s:Sub)(b:aB)(x1:Bool)(x2:Int)(x3:List gK):Option (Sub×aB):=
  (if !x1 then (bG s 1).bind fun x4=>some (x4,b) else some (({s with Pc:=2}:Sub),({b with aI:=(⟨x2,x3⟩:aI)}:aB)))
def uY(s:Sub)(b:aB)(w_:Int):Option (Sub×aB):=
  (if s.Pc == 0 then some (({s with Pc:=1,E:=b.aI.aL}:Sub),b) else (if s.Pc == 1 then (MV b.aI w_ s.E).bind fun x5=>vQ s b x5.2 x5.1.aL x5.1.bA else (if s.Pc == 2 then (if b.aI.aL == s.E then (bG s 0).bind fun x6=>some (x6,b) else some (({s with Pc:=0}:Sub),b)) else (bG s 1).bind fun x7=>some (x7,b))))
def jM(s:Sub)(b:aB)(w_:Int):Option (Sub×aB):=
  (if s.cQ then some (s,b) else (if s.Kind == 1 then (qC s b w_).bind fun x1=>some (x1.1,x1.2) else (if s.Kind == 2 then (nV s b w_).bind fun x2=>some (x2.1,x2.2) else (if s.Kind == 3 then (m5 s b).bind fun x3=>some (x3.1,x3.2) else (if s.Kind == 4 then (m7 s b w_).bind fun x4=>some (x4.1,x4.2) else (if s.Kind == 5 then (uY s b w_).bind fun x5=>some (x5.1,x5.2) else (bG s 1).bind fun x6=>some (x6,b)))))))
def dD(j:bX)(pc:Int):Option bX:=
  some ({j with Pc:=pc,Code:=0}:bX)
def GS(slot c:Int):Option Int:=
  (tH slot c).bind fun x1=>(if decide (x1 < 0) then some (-1) else some (bC (x1+4)))
def MW(slot c:Int):Option Span:=
  (GS slot c).bind fun x1=>(if decide (x1 < 0) then some (⟨0,0⟩:Span) else (zG c).bind fun x2=>some (⟨x1,bC (x1+x2)⟩:Span))
def uZ(h:aE)(slot at_ width:Int):Option Int:=
  (m3 h slot).bind fun x1=>(MW slot x1).bind fun x2=>(cL at_ 0 (bC ((bC (x2.To - x2.aP8)) - width))).bind fun x3=>(if !x3 then some (-1) else some (bC (x2.aP8+at_)))
def AZ(m:Mem)(h at_ width:Int)(x1:Bool):Option (Int×Int):=
  (if x1 then some (0,1) else (zH m h).bind fun x2=>(if !x2 then some (0,4) else (uZ m.aE (Int.tmod h 32) at_ width).bind fun x3=>(if decide (x3 < 0) then some (0,2) else (lB m.aE.Bytes x3 width).bind fun x4=>some (x4,0))))
def PJ(m:Mem)(h at_ width:Int):Option (Int×Int):=
  (HR m).bind fun x5=>(if !x5 then AZ m h at_ width true else (jL width).bind fun x6=>AZ m h at_ width (!x6))
def N8(x4:Mem):Option (Mem×Int):=
  some (x4,0)
def GU(m:Mem)(h at_ width n:Int):Option (Mem×Int):=
  (AG m).bind fun x1=>(yT n width).bind fun x2=>(PJ m h at_ width).bind fun x3=>(if x3.2 != 0 then some (x1,x3.2) else (if x2 == ([]) then some (x1,1) else (uZ m.aE (Int.tmod h 32) at_ width).bind fun x5=>(tN x1.aE.Bytes x5 x2).bind fun x6=>N8 (⟨(⟨x6,x1.aE.Class⟩:aE),x1.aA⟩:Mem)))
def A0(s:aD)(w_ x7:Int)(x8:Mem):Option aD:=
  (if x7 != 0 then (idx s.aR w_).bind fun x9=>(bP x9 x7).bind fun x10=>some ({s with aR:=s.aR.set w_.toNat x10}:aD) else (idx s.aR w_).bind fun x11=>(dD x11 2).bind fun x12=>some ({s with aB:=(⟨x8,s.aB.aI,s.aB.aV,s.aB.iC⟩:aB),aR:=s.aR.set w_.toNat x12}:aD))
def A1(w_:Int)(x17:aD):Option aD:=
  (idx x17.aR w_).bind fun x18=>(if x18.Old == 0 then (bP x18 0).bind fun x19=>some ({x17 with aR:=x17.aR.set w_.toNat x19}:aD) else (iY 2 x18.Old).bind fun x20=>(dD ({x18 with Sub:=x20}:bX) 3).bind fun x21=>some ({x17 with aR:=x17.aR.set w_.toNat x21}:aD))
def A2(s:aD)(w_:Int)(x14:bX)(x15:Int)(x16:List Int):Option aD:=
  (idx (s.aR.set w_.toNat ({x14 with Old:=x15}:bX)) w_).bind fun x22=>(c9 ({s with Cells:=x16,aR:=s.aR.set w_.toNat ({x14 with Old:=x15}:bX)}:aD) 2 w_ x22.H x22.Op.eU 0).bind fun x23=>A1 w_ x23
def A3(s:aD)(w_:Int):Option aD:=
  (idx s.aR w_).bind fun x1=>(if x1.Pc == 0 then (jM x1.Sub s.aB w_).bind fun x2=>(if !x2.1.cQ then some ({s with aB:=x2.2,aR:=s.aR.set w_.toNat ({x1 with Sub:=x2.1}:bX)}:aD) else (if x2.1.Code != 0 then (bP ({x1 with Sub:=x2.1}:bX) x2.1.Code).bind fun x3=>some ({s with aB:=x2.2,aR:=s.aR.set w_.toNat x3}:aD) else (gD x2.1.Out).bind fun x4=>(if !x4 then (bP ({x1 with Sub:=x2.1}:bX) 1).bind fun x5=>some ({s with aB:=x2.2,aR:=s.aR.set w_.toNat x5}:aD) else (dD ({x1 with Sub:=x2.1,H:=x2.1.Out}:bX) 1).bind fun x6=>some ({s with aB:=x2.2,aR:=s.aR.set w_.toNat x6}:aD)))) else (if x1.Pc == 1 then (GU s.aB.Mem x1.H 0 4 x1.Op.eU).bind fun x13=>A0 s w_ x13.2 x13.1 else (if x1.Pc == 2 then (idx s.aR w_).bind fun x14=>(idx s.Cells x14.Op.Cell).bind fun x15=>(idx (s.aR.set w_.toNat ({x14 with Old:=x15}:bX)) w_).bind fun x24=>(idx s.Cells x24.Op.Cell).bind fun x25=>A2 s w_ x14 x15 (s.Cells.set x24.Op.Cell.toNat x24.H) else (if x1.Pc == 3 then (jM x1.Sub s.aB w_).bind fun x26=>(if x26.1.cQ then (bP ({x1 with Sub:=x26.1}:bX) x26.1.Code).bind fun x27=>some ({s with aB:=x26.2,aR:=s.aR.set w_.toNat x27}:aD) else some ({s with aB:=x26.2,aR:=s.aR.set w_.toNat ({x1 with Sub:=x26.1}:bX)}:aD)) else (bP x1 1).bind fun x28=>some ({s with aR:=s.aR.set w_.toNat x28}:aD)))))
def tO(s:aD)(w_:Int):Option aD:=
  (idx s.aR w_).bind fun x1=>(idx s.aR w_).bind fun x2=>(idx s.Cells x2.Op.Cell).bind fun x3=>(c9 ({s with aR:=s.aR.set w_.toNat ({x2 with H:=x3}:bX)}:aD) 3 w_ x3 0 0).bind fun x4=>some x4
def qX(b:aB)(h at_ width:Int)(x1:Bool):Option (Int×Bool):=
  (if x1 then some (0,false) else (uZ b.Mem.aE (Int.tmod h 32) at_ width).bind fun x2=>(if decide (x2 < 0) then some (0,false) else (lB b.Mem.aE.Bytes x2 width).bind fun x3=>some (x3,true)))
def GV(b:aB)(h at_ width:Int):Option (Int×Bool):=
  (gD h).bind fun x4=>(if !x4 then qX b h at_ width true else (pY b.Mem.aE (Int.tmod h 32)).bind fun x5=>(if decide (x5 < 0) then qX b h at_ width true else (jL width).bind fun x6=>qX b h at_ width (!x6)))
def kP(s:aD)(w_:Int):Option aD:=
  (idx s.aR w_).bind fun x1=>(GV s.aB x1.H 0 4).bind fun x2=>some ({s with aR:=s.aR.set w_.toNat ({x1 with eU:=x2.1}:bX)}:aD)
def jB(x1:Bool):Option Bool:=
  some x1
def qD(p:gK):Option Bool:=
  (if p.On then jB (!p.fF) else jB false)
def kV(s:aD)(w_ pc:Int):Option aD:=
  (idx s.aR w_).bind fun x1=>(dD x1 pc).bind fun x2=>(idx s.aB.aI.bA w_).bind fun x3=>(qD x3).bind fun x4=>(if !x4 then some ({s with aR:=s.aR.set w_.toNat ({x2 with eU:=0,Code:=6}:bX)}:aD) else some ({s with aR:=s.aR.set w_.toNat x2}:aD))
def wM(w_:Int)(x1:aI)(x2:Bool):Option (aI×Bool):=
  (if x2 then some (x1,false) else (idx x1.bA w_).bind fun x3=>some ((⟨x1.aL,x1.bA.set w_.toNat (⟨false,0,false,0⟩:gK)⟩:aI),true))
def MX(c:aI)(w_:Int):Option (aI×Bool):=
  (jS c).bind fun x1=>(mY c).bind fun x4=>(if !x4 then wM w_ x1 true else (e9 w_).bind fun x5=>(if !x5 then wM w_ x1 true else (idx c.bA w_).bind fun x6=>wM w_ x1 (!x6.On)))
def qY(b:aB)(w_:Int):Option (Bool×aB):=
  (MX b.aI w_).bind fun x1=>some (x1.2,({b with aI:=x1.1}:aB))
def A4(s:aD)(w_:Int):Option aD:=
  (idx s.aR w_).bind fun x1=>(if x1.Pc == 0 then (jM x1.Sub s.aB w_).bind fun x2=>(if x2.1.cQ then (dD ({x1 with Sub:=x2.1}:bX) 1).bind fun x3=>some ({s with aB:=x2.2,aR:=s.aR.set w_.toNat x3}:aD) else some ({s with aB:=x2.2,aR:=s.aR.set w_.toNat ({x1 with Sub:=x2.1}:bX)}:aD)) else (if x1.Pc == 1 then (tO s w_).bind fun x4=>(idx x4.aR w_).bind fun x5=>(dD x5 2).bind fun x6=>(if x6.H == 0 then some ({x4 with aR:=x4.aR.set w_.toNat ({x6 with Pc:=4,Code:=8}:bX)}:aD) else some ({x4 with aR:=x4.aR.set w_.toNat x6}:aD)) else (if x1.Pc == 2 then (kP s w_).bind fun x7=>(idx x7.aR w_).bind fun x8=>(dD x8 3).bind fun x9=>some ({x7 with aR:=x7.aR.set w_.toNat x9}:aD) else (if x1.Pc == 3 then (kV s w_ 4).bind fun x10=>some x10 else (if x1.Pc == 4 then (qY s.aB w_).bind fun x11=>(bP x1 x1.Code).bind fun x12=>some ({s with aB:=x11.2,aR:=s.aR.set w_.toNat x12}:aD) else (bP x1 1).bind fun x13=>some ({s with aR:=s.aR.set w_.toNat x13}:aD))))))
def qZ(w_ h:Int)(x1:(List Int))(x2:Bool):Option ((List Int)×Bool):=
  (if x2 then some (x1,false) else (idx x1 w_).bind fun x3=>some (x1.set w_.toNat h,true))
def GW(z:List Int)(w_ h:Int):Option ((List Int)×Bool):=
  (eX z).bind fun x1=>(CZ z).bind fun x4=>(if !x4 then qZ w_ h x1 true else (e9 w_).bind fun x5=>(if !x5 then qZ w_ h x1 true else (gD h).bind fun x6=>qZ w_ h x1 (!x6)))
def wN(w_:Int)(x1:(List Int))(x2:Bool):Option ((List Int)×Bool):=
  (if x2 then some (x1,false) else (idx x1 w_).bind fun x3=>some (x1.set w_.toNat 0,true))
def MY(z:List Int)(w_:Int):Option ((List Int)×Bool):=
  (eX z).bind fun x1=>(CZ z).bind fun x4=>(if !x4 then wN w_ x1 true else (e9 w_).bind fun x5=>(if !x5 then wN w_ x1 true else (idx z w_).bind fun x6=>wN w_ x1 (x6 == 0)))
def A5(s:aD)(w_:Int)(x7:List Int):Option aD:=
  (idx s.aR w_).bind fun x8=>(dD x8 2).bind fun x9=>some ({s with aB:=(⟨s.aB.Mem,s.aB.aI,s.aB.aV,x7⟩:aB),aR:=s.aR.set w_.toNat x9}:aD)
def A6(s:aD)(w_:Int)(x11:Bool):Option aD:=
  (if x11 then (idx s.aR w_).bind fun x12=>(dD x12 0).bind fun x13=>some ({s with aR:=s.aR.set w_.toNat x13}:aD) else (idx s.aR w_).bind fun x14=>(c9 s 3 w_ x14.H 0 0).bind fun x15=>(idx x15.aR w_).bind fun x16=>(dD x16 3).bind fun x17=>some ({x15 with aR:=x15.aR.set w_.toNat x17}:aD))
def A7(s:aD)(w_:Int):Option aD:=
  (idx s.aR w_).bind fun x1=>(if x1.Pc == 0 then (idx s.aR w_).bind fun x2=>(idx s.Cells x2.Op.Cell).bind fun x3=>(dD ({x2 with H:=x3}:bX) 1).bind fun x4=>(if x4.H == 0 then (c9 ({s with aR:=s.aR.set w_.toNat x4}:aD) 3 w_ 0 0 0).bind fun x5=>(idx x5.aR w_).bind fun x6=>some ({x5 with aR:=x5.aR.set w_.toNat ({x6 with Pc:=4,Code:=8}:bX)}:aD) else some ({s with aR:=s.aR.set w_.toNat x4}:aD)) else (if x1.Pc == 1 then (GW s.aB.iC w_ x1.H).bind fun x10=>A5 s w_ x10.1 else (if x1.Pc == 2 then (idx s.aR w_).bind fun x18=>(idx s.Cells x18.Op.Cell).bind fun x19=>A6 s w_ (x19 != x18.H) else (if x1.Pc == 3 then (kP s w_).bind fun x20=>(idx x20.aR w_).bind fun x21=>(dD x21 4).bind fun x22=>some ({x20 with aR:=x20.aR.set w_.toNat x22}:aD) else (if x1.Pc == 4 then (MY s.aB.iC w_).bind fun x23=>(bP x1 x1.Code).bind fun x24=>some ({s with aB:=(⟨s.aB.Mem,s.aB.aI,s.aB.aV,x23.1⟩:aB),aR:=s.aR.set w_.toNat x24}:aD) else (bP x1 1).bind fun x25=>some ({s with aR:=s.aR.set w_.toNat x25}:aD))))))
def qE(s:aD)(w_:Int)(x5:Bool):Option aD:=
  (if x5 then (idx s.aR w_).bind fun x6=>(bP x6 6).bind fun x7=>some ({s with aR:=s.aR.set w_.toNat x7}:aD) else (idx s.aR w_).bind fun x8=>(if x8.Pc == 0 then (tO s w_).bind fun x9=>(idx x9.aR w_).bind fun x10=>(dD x10 1).bind fun x11=>(if x11.H == 0 then (bP x11 8).bind fun x12=>some ({x9 with aR:=x9.aR.set w_.toNat x12}:aD) else some ({x9 with aR:=x9.aR.set w_.toNat x11}:aD)) else (if x8.Pc == 1 then (kP s w_).bind fun x13=>(idx x13.aR w_).bind fun x14=>(dD x14 2).bind fun x15=>some ({x13 with aR:=x13.aR.set w_.toNat x15}:aD) else (if x8.Pc == 2 then (kV s w_ 9).bind fun x16=>some x16 else (bP x8 1).bind fun x17=>some ({s with aR:=s.aR.set w_.toNat x17}:aD)))))
def qF(s:aD)(w_:Int)(x1:gK)(x2:Bool):Option aD:=
  (if x2 then (idx s.aR w_).bind fun x3=>(bP x3 5).bind fun x4=>some ({s with aR:=s.aR.set w_.toNat x4}:aD) else (idx s.aR w_).bind fun x18=>(if x18.Pc == 0 then qE s w_ x1.fF else qE s w_ false))
def yV(s:aD)(w_:Int)(x1:gK):Option aD:=
  (idx s.aR w_).bind fun x19=>(if x19.Pc == 0 then qF s w_ x1 (!x1.On) else qF s w_ x1 false)
def xW(s:aD)(w_:Int):Option aD:=
  (idx s.aR w_).bind fun x20=>(idx s.aB.aI.bA w_).bind fun x21=>yV s w_ x21
def nW(w_ x3:Int)(x4:aD):Option aD:=
  (idx x4.aR w_).bind fun x5=>(bP x5 x3).bind fun x6=>some ({x4 with aR:=x4.aR.set w_.toNat x6}:aD)
def nX(s:aD)(w_:Int)(x17:Bool):Option aD:=
  (if x17 then (idx s.aR w_).bind fun x18=>(jM x18.Sub s.aB w_).bind fun x19=>(if x19.1.cQ then (bP ({x18 with Sub:=x19.1,eU:=x19.1.Out}:bX) x19.1.Code).bind fun x20=>some ({s with aB:=x19.2,aR:=s.aR.set w_.toNat x20}:aD) else some ({s with aB:=x19.2,aR:=s.aR.set w_.toNat ({x18 with Sub:=x19.1}:bX)}:aD)) else (idx s.aR w_).bind fun x21=>(bP x21 1).bind fun x22=>some ({s with aR:=s.aR.set w_.toNat x22}:aD))
def nY(s:aD)(w_:Int)(x12:Bool):Option aD:=
  (if x12 then (idx s.aR w_).bind fun x13=>(jM x13.Sub s.aB w_).bind fun x14=>(if x14.1.cQ then (iY 4 0).bind fun x15=>(dD ({x13 with Sub:=x15}:bX) 1).bind fun x16=>some ({s with aB:=x14.2,aR:=s.aR.set w_.toNat x16}:aD) else some ({s with aB:=x14.2,aR:=s.aR.set w_.toNat ({x13 with Sub:=x14.1}:bX)}:aD)) else (idx s.aR w_).bind fun x23=>(if x23.Op.Kind == 4 then nX s w_ (x23.Pc == 1) else nX s w_ false))
def nZ(s:aD)(w_:Int)(x8:Bool):Option aD:=
  (if x8 then (idx s.aR w_).bind fun x9=>(jM x9.Sub s.aB w_).bind fun x10=>(if x10.1.cQ then (bP ({x9 with Sub:=x10.1}:bX) x10.1.Code).bind fun x11=>some ({s with aB:=x10.2,aR:=s.aR.set w_.toNat x11}:aD) else some ({s with aB:=x10.2,aR:=s.aR.set w_.toNat ({x9 with Sub:=x10.1}:bX)}:aD)) else (idx s.aR w_).bind fun x24=>(if x24.Op.Kind == 4 then nY s w_ (x24.Pc == 0) else nY s w_ false))
def n9(s:aD)(w_:Int)(x2:Bool):Option aD:=
  (if x2 then (qY s.aB w_).bind fun x7=>(if !x7.1 then nW w_ 5 ({s with aB:=x7.2}:aD) else nW w_ 0 ({s with aB:=x7.2}:aD)) else (idx s.aR w_).bind fun x25=>(if x25.Op.Kind == 5 then nZ s w_ (x25.Pc == 0) else nZ s w_ false))
def vA(s:aD)(w_:Int):Option aD:=
  (idx s.aR w_).bind fun x1=>(if x1.Op.Kind == 6 then n9 s w_ (x1.Pc == 0) else n9 s w_ false)
def xX(s:aD)(w_:Int):Option aD:=
  (idx s.aR w_).bind fun x1=>(if !x1.iV then (uU s w_).bind fun x2=>some x2 else (if x1.Pc == 9 then (c9 s 4 w_ x1.H x1.eU x1.Code).bind fun x3=>(idx x3.aR w_).bind fun x4=>some ({x3 with aR:=x3.aR.set w_.toNat (⟨false,(⟨0,0,0,0⟩:gA),0,0,(⟨0,0,0,0,0,0,0,0,0,false⟩:Sub),0,0,0,0⟩:bX)}:aD) else (if x1.Op.Kind == 1 then (A3 s w_).bind fun x5=>some x5 else (if x1.Op.Kind == 2 then (A4 s w_).bind fun x6=>some x6 else (if x1.Op.Kind == 3 then (A7 s w_).bind fun x7=>some x7 else (if x1.Op.Kind == 7 then (xW s w_).bind fun x8=>some x8 else (vA s w_).bind fun x9=>some x9))))))
def aA4(code:List UInt8):Option Bool:=
  some (decide (1048576 < (code.length:Int)))
def aDL(x5:Int):Option (Int×Int):=
  some (0,x5)
def DV(code:List UInt8)(x3 x4:Int)(x6:Bool):Option (Step (Int×Int) Int):=
  (if x6 then (idx code x4).bind fun x7=>some (.next (fY .and .i64 (bC ((bC ((bC (x3 * 131))+(x7.toNat:Int)))+7)) 1073741823,bC (x4+1))) else some (.stop (x3)))
def RY(code:List UInt8):(Int×Int)→Option (Step (Int×Int) Int)
  | (x3,x4)=>(if decide (x4 < (code.length:Int)) then DV code x3 x4 (decide (x4 < 4000)) else DV code x3 x4 false)
def aDM:Int→Option (Int×Int)
  | x5=>aDL x5
def MZ(code:List UInt8):Option (Int×Int):=
  (loop (RY code) (bC (10101+(code.length:Int)),0)).bind (aDM)
def A8(c:aK)(x1 x2:Int):Option (Int×(Int×Int)):=
  some (x1,(x2,bC ((bC (c.h * 6364136223846793005))+1442695040888963407)))
def pL(c:aK):Option (Int×(Int×Int)):=
  (if decide (c.i < (c.b.length:Int)) then (idx c.b c.i).bind fun x3=>A8 c (fY .and .i64 (bC ((fY .and .i64 (fY .xor .i64 (sI .i64 (bC ((bC (c.h * 6364136223846793005))+1442695040888963407)) 33) (sI .i64 (bC ((bC (c.h * 6364136223846793005))+1442695040888963407)) 45)) 255)+(x3.toNat:Int))) 255) (bC (c.i+1)) else A8 c (fY .and .i64 (fY .xor .i64 (sI .i64 (bC ((bC (c.h * 6364136223846793005))+1442695040888963407)) 33) (sI .i64 (bC ((bC (c.h * 6364136223846793005))+1442695040888963407)) 45)) 255) c.i)
def aQ(c:aK)(n:Int):Option (Int×(Int×Int)):=
  (if decide (n≤0) then some (0,(c.i,c.h)) else (if decide (n≤256) then (pL c).bind fun x1=>need (n≠0) (some (Int.tmod x1.1 n,(x1.2.1,x1.2.2))) else (pL c).bind fun x2=>(pL (⟨c.b,x2.2.1,x2.2.2⟩:aK)).bind fun x3=>(pL (⟨c.b,x3.2.1,x3.2.2⟩:aK)).bind fun x4=>(pL (⟨c.b,x4.2.1,x4.2.2⟩:aK)).bind fun x5=>need (n≠0) (some (Int.tmod (bC ((bC ((bC ((bC (x2.1 * 16777216))+(bC (x3.1 * 65536))))+(bC (x4.1 * 256))))+x5.1)) n,(x5.2.1,x5.2.2)))))
def eJ(c:aK)(list:List Int):Option (Int×(Int×Int)):=
  (aQ c (list.length:Int)).bind fun x1=>(idx list x1.1).bind fun x2=>some (x2,(x1.2.1,x1.2.2))
def m8(c:aK)(n:Int):Option (Bool×(Int×Int)):=
  (aQ c n).bind fun x1=>some (x1.1 == 0,(x1.2.1,x1.2.2))
def YD(x5:List Int):Option aE:=
  some (⟨List.replicate ((384:Int).toNat) 0,x5⟩:aE)
def rA:(Int×(List Int))→Option (Step (Int×(List Int)) (List Int))
  | (x3,x4)=>(if decide (x3 < 6) then need (x4.length+([(-1)]).length≤1073741824) (some (.next (bC (x3+1),x4++([(-1)])))) else some (.stop (x4)))
def YE:(List Int)→Option aE
  | x5=>YD x5
def A9:Option aE:=
  need (0≤(384:Int)∧(384:Int)≤4294967296) ((loop (rA) (0,[])).bind (YE))
def vB:Option aA:=
  some (⟨List.replicate ((3:Int).toNat) (⟨[]⟩:aH),List.replicate ((9:Int).toNat) (⟨[]⟩:aH)⟩:aA)
def rR:Option aA:=
  need (0≤(3:Int)∧(3:Int)≤4294967296)<|need (0≤(9:Int)∧(9:Int)≤4294967296)<|vB
def EW:Option Mem:=
  (A9).bind fun x1=>(rR).bind fun x2=>some (⟨x1,x2⟩:Mem)
def wO:Option aI:=
  need (0≤(3:Int)∧(3:Int)≤4294967296) (some (⟨0,List.replicate ((3:Int).toNat) (⟨false,0,false,0⟩:gK)⟩:aI))
def wP:Option (List aO):=
  need (0≤(3:Int)∧(3:Int)≤4294967296) (some (List.replicate ((3:Int).toNat) (⟨[]⟩:aO)))
def EX:Option (List Int):=
  need (0≤(3:Int)∧(3:Int)≤4294967296) (some (List.replicate ((3:Int).toNat) 0))
def BA:Option aB:=
  (EW).bind fun x1=>(wO).bind fun x2=>(wP).bind fun x3=>(EX).bind fun x4=>some (⟨x1,x2,x3,x4⟩:aB)
def aA5(x10:Sub)(x11:aB):Option (aB×Sub):=
  some (x11,x10)
def oZ(w_ x7:Int)(x8:Sub)(x12:Bool)(x13:aB):Option (Step (Int×Sub×aB) (Sub×aB)):=
  (if x12 then (sZ x13 w_ x8).bind fun x14=>some (.next (bC (x7+1),x14.2,x14.1)) else some (.stop ((x8,x13))))
def tP(w_:Int):(Int×Sub×aB)→Option (Step (Int×Sub×aB) (Sub×aB))
  | (x7,x8,x9)=>(if decide (x7 < 200) then oZ w_ x7 x8 (!x8.cQ) x9 else oZ w_ x7 x8 false x9)
def aA6:(Sub×aB)→Option (aB×Sub)
  | (x10,x11)=>aA5 x10 x11
def BC(w_:Int)(s:Sub)(x2:Bool)(x3:aB):Option (aB×Sub):=
  (if x2 then some (x3,s) else (loop (tP w_) (0,s,x3)).bind (aA6))
def m9(b:aB)(w_:Int)(s:Sub):Option (aB×Sub):=
  (zW b).bind fun x1=>(EJ b).bind fun x15=>(if !x15 then BC w_ s true x1 else (bH w_ 0 2).bind fun x16=>BC w_ s (!x16) x1)
def FJ(x17 x18 x19:Int)(x20:aB):Option (aB×Int×(Int×Int)):=
  some (x20,x17,(x18,x19))
def N9(c:aK)(x13:List Int)(x14 x15:Int)(x16:aB):Option (aB×Int×(Int×Int)):=
  (aQ (⟨c.b,x14,x15⟩:aK) (x13.length:Int)).bind fun x21=>(idx x13 x21.1).bind fun x22=>FJ x22 x21.2.1 x21.2.2 x16
def eF(x9:Int)(x23:List Int)(x24 x25:Int)(x26:aB):Option (Step ((List Int)×Int×Int×Int×aB) ((List Int)×Int×Int×aB)):=
  some (.next (x23,bC (x9 - 1),x24,x25,x26))
def FK(x8:List Int)(x9:Int)(x37:Sub)(x38 x39:Int)(x40:aB)(x41:Mem):Option (Step ((List Int)×Int×Int×Int×aB) ((List Int)×Int×Int×aB)):=
  eF x9 (x8++([x37.Out])) x38 x39 ({x40 with Mem:=x41}:aB)
def FL(c:aK)(x8:List Int)(x9 x33 x34:Int)(x35 x36:aB)(x37:Sub):Option (Step ((List Int)×Int×Int×Int×aB) ((List Int)×Int×Int×aB)):=
  (if x37.Out != 0 then need (x8.length+([x37.Out]).length≤1073741824) ((aQ (⟨c.b,x33,x34⟩:aK) 60000).bind fun x42=>(mX x36.Mem x37.Out 0 4 x42.1).bind fun x43=>FK x8 x9 x37 x42.2.1 x42.2.2 x36 x43.1) else eF x9 x8 x33 x34 x36)
def FM(x8:List Int)(x9:Int)(x30:Int×(Int×Int))(x49:aB):Option (Step ((List Int)×Int×Int×Int×aB) ((List Int)×Int×Int×aB)):=
  eF x9 x8 x30.2.1 x30.2.2 x49
def C1(x8:List Int)(x9:Int)(x30:Int×(Int×Int))(x54:aB):Option (Step ((List Int)×Int×Int×Int×aB) ((List Int)×Int×Int×aB)):=
  eF x9 x8 x30.2.1 x30.2.2 x54
def C3(x8:List Int)(x9:Int)(x30:Int×(Int×Int))(x57:aB):Option (Step ((List Int)×Int×Int×Int×aB) ((List Int)×Int×Int×aB)):=
  eF x9 x8 x30.2.1 x30.2.2 x57
def C4(x8:List Int)(x9:Int)(x30:Int×(Int×Int))(x60:aB):Option (Step ((List Int)×Int×Int×Int×aB) ((List Int)×Int×Int×aB)):=
  eF x9 x8 x30.2.1 x30.2.2 x60
def rB(c:aK)(x8:List Int)(x9:Int)(x27:Int×(Int×Int))(x29:Int)(x30:Int×(Int×Int))(x52:Bool)(x53:aB):Option (Step ((List Int)×Int×Int×Int×aB) ((List Int)×Int×Int×aB)):=
  (if x52 then (eH 3 0).bind fun x55=>(m9 x53 x27.1 x55).bind fun x56=>C1 x8 x9 x30 x56.1 else (if x30.1 == 8 then (eH 4 0).bind fun x58=>(m9 x53 x27.1 x58).bind fun x59=>C3 x8 x9 x30 x59.1 else (if x30.1 == 9 then (eH 5 0).bind fun x61=>(m9 x53 x27.1 x61).bind fun x62=>C4 x8 x9 x30 x62.1 else (if x30.1 == 10 then (yP x53.aI x27.1).bind fun x63=>eF x9 x8 x30.2.1 x30.2.2 ({x53 with aI:=x63.1}:aB) else (uO x53.iC x27.1 x29).bind fun x64=>(m8 (⟨c.b,x30.2.1,x30.2.2⟩:aK) 3).bind fun x65=>(if x65.1 then (HQ x64.1 x27.1).bind fun x66=>eF x9 x8 x65.2.1 x65.2.2 ({x53 with iC:=x66.1}:aB) else eF x9 x8 x65.2.1 x65.2.2 ({x53 with iC:=x64.1}:aB))))))
def rC(c:aK)(x8:List Int)(x9:Int)(x27:Int×(Int×Int))(x29:Int)(x30:Int×(Int×Int))(x47:Bool)(x48:aB):Option (Step ((List Int)×Int×Int×Int×aB) ((List Int)×Int×Int×aB)):=
  (if x47 then (eH 2 x29).bind fun x50=>(m9 x48 x27.1 x50).bind fun x51=>FM x8 x9 x30 x51.1 else (if x30.1 == 6 then rB c x8 x9 x27 x29 x30 true x48 else rB c x8 x9 x27 x29 x30 (x30.1 == 7) x48))
def kQ(c:aK)(x8:List Int)(x9:Int)(x27:Int×(Int×Int))(x29:Int)(x30:Int×(Int×Int))(x31:Bool)(x32:aB):Option (Step ((List Int)×Int×Int×Int×aB) ((List Int)×Int×Int×aB)):=
  (if x31 then (aQ (⟨c.b,x30.2.1,x30.2.2⟩:aK) 40).bind fun x44=>(eH 1 (bC (1+x44.1))).bind fun x45=>(m9 x32 x27.1 x45).bind fun x46=>FL c x8 x9 x44.2.1 x44.2.2 x32 x46.1 x46.2 else (if x30.1 == 4 then rC c x8 x9 x27 x29 x30 true x32 else rC c x8 x9 x27 x29 x30 (x30.1 == 5) x32))
def OA(c:aK):((List Int)×Int×Int×Int×aB)→Option (Step ((List Int)×Int×Int×Int×aB) ((List Int)×Int×Int×aB))
  | (x8,x9,x10,x11,x12)=>(if decide (0 < x9) then (aQ (⟨c.b,x10,x11⟩:aK) 3).bind fun x27=>(aQ (⟨c.b,x27.2.1,x27.2.2⟩:aK) (x8.length:Int)).bind fun x28=>(idx x8 x28.1).bind fun x29=>(aQ (⟨c.b,x28.2.1,x28.2.2⟩:aK) 12).bind fun x30=>(if x30.1 == 0 then kQ c x8 x9 x27 x29 x30 true x12 else (if x30.1 == 1 then kQ c x8 x9 x27 x29 x30 true x12 else (if x30.1 == 2 then kQ c x8 x9 x27 x29 x30 true x12 else kQ c x8 x9 x27 x29 x30 (x30.1 == 3) x12))) else some (.stop ((x8,x10,x11,x12))))
def OB(c:aK):((List Int)×Int×Int×aB)→Option (aB×Int×(Int×Int))
  | (x13,x14,x15,x16)=>N9 c x13 x14 x15 x16
def GX(c:aK)(most:Int):Option (aB×Int×(Int×Int)):=
  (BA).bind fun x1=>(aQ c most).bind fun x2=>(loop (OA c) ([0],x2.1,x2.2.1,x2.2.2,x1)).bind (OB c)
def nI(c:aK):Option (Int×(Int×Int)):=
  (m8 c 8).bind fun x1=>(if x1.1 then (eJ (⟨c.b,x1.2.1,x1.2.2⟩:aK) ([0,(-1),31,32,55,56,63,64,192,215,216,223,224]:List Int)).bind fun x2=>some (x2.1,(x2.2.1,x2.2.2)) else (aQ (⟨c.b,x1.2.1,x1.2.2⟩:aK) 24).bind fun x3=>(aQ (⟨c.b,x3.2.1,x3.2.2⟩:aK) 6).bind fun x4=>(nF x3.1 (bC (1+x4.1))).bind fun x5=>some (x5,(x4.2.1,x4.2.2)))
def xY(x1:aA)(x2:Int)(x3:Bool):Option (aA×Int):=
  (if x3 then some (x1,(-1)) else (idx x1.bJ x2).bind fun x4=>(pQ x4).bind fun x5=>some ((⟨x1.Global,x1.bJ.set x2.toNat x5.1⟩:aA),x5.2))
def GY(l:aA)(w_ c:Int):Option (aA×Int):=
  (sV l).bind fun x1=>(lV w_ c).bind fun x2=>(pN l).bind fun x6=>(if !x6 then xY x1 x2 true else xY x1 x2 (decide (x2 < 0)))
def qG(c:Int)(x1:aA)(x2:Bool):Option (aA×Int):=
  (if x2 then some (x1,(-1)) else (idx x1.Global c).bind fun x3=>(pQ x3).bind fun x4=>some ((⟨x1.Global.set c.toNat x4.1,x1.bJ⟩:aA),x4.2))
def xZ(l:aA)(c:Int):Option (aA×Int):=
  (sV l).bind fun x1=>(pN l).bind fun x5=>(if !x5 then qG c x1 true else (bH c 0 2).bind fun x6=>qG c x1 (!x6))
def o4(x10:Int)(x11:Mem):Option (Mem×Int×Int):=
  (if decide (x10 < 0) then some (x11,0,3) else (v7 x11 x10).bind fun x12=>some (x11,x12,0))
def o5(x2 x6:Int)(x7:Mem)(x8 x9:List aH):Option (Mem×Int×Int):=
  (if decide (x6 < 0) then (zZ (⟨x7.aE,(⟨x8,x9⟩:aA)⟩:Mem) x2).bind fun x13=>o4 x13.2 x13.1 else o4 x6 (⟨x7.aE,(⟨x8,x9⟩:aA)⟩:Mem))
def vC(w_ x2:Int)(x3:Bool)(x4:Mem):Option (Mem×Int×Int):=
  (if x3 then some (x4,0,1) else (if decide (x2 < 0) then some (x4,0,2) else (GY x4.aA w_ x2).bind fun x5=>(if decide (x5.2 < 0) then (xZ x5.1 x2).bind fun x14=>o5 x2 x14.2 x4 x14.1.Global x14.1.bJ else o5 x2 x5.2 x4 x5.1.Global x5.1.bJ)))
def DW(m:Mem)(w_ size:Int):Option (Mem×Int×Int):=
  (sW m).bind fun x1=>(zY size).bind fun x2=>(sQ m).bind fun x15=>(if !x15 then vC w_ x2 true x1 else (bH w_ 0 2).bind fun x16=>vC w_ x2 (!x16) x1)
def yA(m:Mem)(w_ h:Int)(x2:Bool)(x3:Mem):Option (Mem×Int):=
  (if x2 then some (x3,1) else (pO m h).bind fun x4=>(if !x4 then some (x3,4) else (eD h).bind fun x5=>(EN x3 w_ x5).bind fun x6=>some (x6,0)))
def GZ(m:Mem)(w_ h:Int):Option (Mem×Int):=
  (sW m).bind fun x1=>(sQ m).bind fun x7=>(if !x7 then yA m w_ h true x1 else (bH w_ 0 2).bind fun x8=>yA m w_ h (!x8) x1)
def HW(x17 x18 x19:Int)(x20:Mem):Option (Mem×Int×(Int×Int)):=
  some (x20,x17,(x18,x19))
def PK(c:aK)(x13:List Int)(x14 x15:Int)(x16:Mem):Option (Mem×Int×(Int×Int)):=
  (aQ (⟨c.b,x14,x15⟩:aK) (x13.length:Int)).bind fun x21=>(idx x13 x21.1).bind fun x22=>HW x22 x21.2.1 x21.2.2 x16
def o6(x9:Int)(x23:List Int)(x24 x25:Int)(x26:Mem):Option (Step ((List Int)×Int×Int×Int×Mem) ((List Int)×Int×Int×Mem)):=
  some (.next (x23,bC (x9 - 1),x24,x25,x26))
def HX(x8:List Int)(x9 x31 x32:Int)(x33 x34:Mem):Option (Step ((List Int)×Int×Int×Int×Mem) ((List Int)×Int×Int×Mem)):=
  o6 x9 x8 x31 x32 x34
def HY(x8:List Int)(x9 x39 x45 x46:Int)(x47 x48:Mem):Option (Step ((List Int)×Int×Int×Int×Mem) ((List Int)×Int×Int×Mem)):=
  o6 x9 (x8++([x39])) x45 x46 x48
def HZ(c:aK)(x8:List Int)(x9 x39 x40 x41 x42:Int)(x43 x44:Mem):Option (Step ((List Int)×Int×Int×Int×Mem) ((List Int)×Int×Int×Mem)):=
  (if x40 == 0 then need (x8.length+([x39]).length≤1073741824) ((aQ (⟨c.b,x41,x42⟩:aK) 5).bind fun x49=>(aQ (⟨c.b,x49.2.1,x49.2.2⟩:aK) 3).bind fun x50=>(aQ (⟨c.b,x50.2.1,x50.2.2⟩:aK) 256).bind fun x51=>(mX x44 x39 x49.1 (bC (1+x50.1)) x51.1).bind fun x52=>HY x8 x9 x39 x51.2.1 x51.2.2 x44 x52.1) else o6 x9 x8 x41 x42 x44)
def tQ(c:aK)(x8:List Int)(x9:Int)(x27:Bool)(x28 x29:Int)(x30:Mem):Option (Step ((List Int)×Int×Int×Int×Mem) ((List Int)×Int×Int×Mem)):=
  (if x27 then (aQ (⟨c.b,x28,x29⟩:aK) 3).bind fun x35=>(aQ (⟨c.b,x35.2.1,x35.2.2⟩:aK) (x8.length:Int)).bind fun x36=>(idx x8 x36.1).bind fun x37=>(GZ x30 x35.1 x37).bind fun x38=>HX x8 x9 x36.2.1 x36.2.2 x30 x38.1 else (aQ (⟨c.b,x28,x29⟩:aK) 3).bind fun x53=>(aQ (⟨c.b,x53.2.1,x53.2.2⟩:aK) 40).bind fun x54=>(DW x30 x53.1 (bC (1+x54.1))).bind fun x55=>HZ c x8 x9 x55.2.1 x55.2.2 x54.2.1 x54.2.2 x30 x55.1)
def PL(c:aK):((List Int)×Int×Int×Int×Mem)→Option (Step ((List Int)×Int×Int×Int×Mem) ((List Int)×Int×Int×Mem))
  | (x8,x9,x10,x11,x12)=>(if decide (0 < x9) then (m8 (⟨c.b,x10,x11⟩:aK) 3).bind fun x56=>(if x56.1 then tQ c x8 x9 (decide (1 < (x8.length:Int))) x56.2.1 x56.2.2 x12 else tQ c x8 x9 false x56.2.1 x56.2.2 x12) else some (.stop ((x8,x10,x11,x12))))
def PM(c:aK):((List Int)×Int×Int×Mem)→Option (Mem×Int×(Int×Int))
  | (x13,x14,x15,x16)=>PK c x13 x14 x15 x16
def JK(c:aK)(most:Int):Option (Mem×Int×(Int×Int)):=
  (EW).bind fun x1=>(aQ c most).bind fun x2=>(loop (PL c) ([0],x2.1,x2.2.1,x2.2.2,x1)).bind (PM c)
def DX(c:Int)(x1:aE)(x2:Bool):Option (aE×(List Int)):=
  (if x2 then some (x1,([]:List Int)) else (pP x1 c).bind fun x3=>some (x3.1,x3.2))
def M0(h:aE)(c:Int):Option (aE×(List Int)):=
  (y8 h).bind fun x1=>(y6 h).bind fun x4=>(if !x4 then DX c x1 true else (bH c 0 2).bind fun x5=>DX c x1 (!x5))
def M1(h:aE)(slot:Int):Option Int:=
  (zQ h).bind fun x1=>(if !x1 then some (-1) else (iH h slot).bind fun x2=>some x2)
def PN(x1:aE)(x3:List Int):Option (aE×Bool):=
  some ((⟨x3,x1.Class⟩:aE),true)
def BD(h:aE)(slot gen:Int)(x1:aE)(x2:Bool):Option (aE×Bool):=
  (if x2 then some (x1,false) else (iH h slot).bind fun x4=>(pM slot x4).bind fun x5=>(jH x1.Bytes x5 4 gen).bind fun x6=>PN x1 x6)
def JL(h:aE)(slot gen:Int):Option (aE×Bool):=
  (y8 h).bind fun x1=>(M1 h slot).bind fun x7=>(if decide (x7 < 0) then BD h slot gen x1 true else (bH gen 1 7).bind fun x8=>BD h slot gen x1 (!x8))
def aA7(x13 x14:Int)(x15 x16:List Int):Option (aE×(Int×Int)):=
  some ((⟨x15,x16⟩:aE),(x13,x14))
def PO(x8 x32 x33:Int)(x34 x35:List Int):Option (Step (Int×Int×Int×(List Int)×(List Int)) (Int×Int×(List Int)×(List Int))):=
  some (.next (bC (x8 - 1),x32,x33,x34,x35))
def BE(x27 x36 x37:Int)(x38 x39:List Int):Option (Step (Int×Int×Int×(List Int)×(List Int)) (Int×Int×(List Int)×(List Int))):=
  some (.next (bC (x27+1),x36,x37,x38,x39))
def H0(x27 x41 x42:Int)(x43 x44:List Int):Option (Step (Int×Int×Int×(List Int)×(List Int)) (Int×Int×(List Int)×(List Int))):=
  BE x27 x41 x42 x43 x44
def PQ(c:aK)(x17:List Int):(Int×Int×Int×(List Int)×(List Int))→Option (Step (Int×Int×Int×(List Int)×(List Int)) (Int×Int×(List Int)×(List Int)))
  | (x27,x28,x29,x30,x31)=>(if decide (x27 < (x17.length:Int)) then (m8 (⟨c.b,x28,x29⟩:aK) 3).bind fun x40=>(if x40.1 then (idx x17 x27).bind fun x45=>(aQ (⟨c.b,x40.2.1,x40.2.2⟩:aK) 7).bind fun x46=>(JL (⟨x30,x31⟩:aE) x45 (bC (1+x46.1))).bind fun x47=>H0 x27 x46.2.1 x46.2.2 x47.1.Bytes x47.1.Class else BE x27 x40.2.1 x40.2.2 x30 x31) else some (.stop ((x28,x29,x30,x31))))
def PR(x8:Int):(Int×Int×(List Int)×(List Int))→Option (Step (Int×Int×Int×(List Int)×(List Int)) (Int×Int×(List Int)×(List Int)))
  | (x32,x33,x34,x35)=>PO x8 x32 x33 x34 x35
def H3(c:aK)(x8:Int)(x17:List Int)(x18 x19:Int)(x20 x21:List Int):Option (Step (Int×Int×Int×(List Int)×(List Int)) (Int×Int×(List Int)×(List Int))):=
  (loop (PQ c x17) (0,x18,x19,x20,x21)).bind (PR x8)
def PT(c:aK):(Int×Int×Int×(List Int)×(List Int))→Option (Step (Int×Int×Int×(List Int)×(List Int)) (Int×Int×(List Int)×(List Int)))
  | (x8,x9,x10,x11,x12)=>(if decide (0 < x8) then (aQ (⟨c.b,x9,x10⟩:aK) 3).bind fun x48=>(M0 (⟨x11,x12⟩:aE) x48.1).bind fun x49=>H3 c x8 x49.2 x48.2.1 x48.2.2 x49.1.Bytes x49.1.Class else some (.stop ((x9,x10,x11,x12))))
def aA8:(Int×Int×(List Int)×(List Int))→Option (aE×(Int×Int))
  | (x13,x14,x15,x16)=>aA7 x13 x14 x15 x16
def JM(c:aK):Option (aE×(Int×Int)):=
  (A9).bind fun x1=>(aQ c 7).bind fun x2=>(loop (PT c) (x2.1,x2.2.1,x2.2.2,x1.Bytes,x1.Class)).bind (aA8)
def lJ(x2 x3:Int)(x4 x5:List Int):Option (aE×(Int×Int)):=
  some ((⟨x4,x5⟩:aE),(x2,x3))
def KP(x1:aE×(Int×Int))(x7 x8:Int)(x9:List Int):Option (aE×(Int×Int)):=
  lJ x7 x8 x9 x1.1.Class
def KQ(x1:aE×(Int×Int))(x11 x12:Int)(x13:List Int):Option (aE×(Int×Int)):=
  lJ x11 x12 x1.1.Bytes x13
def KR(x1:aE×(Int×Int))(x17 x18:Int)(x19:List Int):Option (aE×(Int×Int)):=
  lJ x17 x18 x19 x1.1.Class
def M3(c:aK):Option (aE×(Int×Int)):=
  (JM c).bind fun x1=>(aQ (⟨c.b,x1.2.1,x1.2.2⟩:aK) 24).bind fun x6=>(if x6.1 == 0 then (aQ (⟨c.b,x6.2.1,x6.2.2⟩:aK) (x1.1.Bytes.length:Int)).bind fun x10=>need (0≤(x10.1:Int)∧(x10.1:Int)≤(x1.1.Bytes.length:Int))<|KP x1 x10.2.1 x10.2.2 ((x1.1.Bytes.take x10.1.toNat).drop 0) else (if x6.1 == 1 then need (x1.1.Class.length+([0]).length≤1073741824) (lJ x6.2.1 x6.2.2 x1.1.Bytes (x1.1.Class++([0]))) else (if x6.1 == 2 then (aQ (⟨c.b,x6.2.1,x6.2.2⟩:aK) (x1.1.Class.length:Int)).bind fun x14=>(eJ (⟨c.b,x14.2.1,x14.2.2⟩:aK) ([(-2),3,0,(-1)]:List Int)).bind fun x15=>(idx x1.1.Class x14.1).bind fun x16=>KQ x1 x15.2.1 x15.2.2 (x1.1.Class.set x14.1.toNat x15.1) else (if x6.1 == 3 then (aQ (⟨c.b,x6.2.1,x6.2.2⟩:aK) (x1.1.Bytes.length:Int)).bind fun x20=>(eJ (⟨c.b,x20.2.1,x20.2.2⟩:aK) ([(-1),256,171,1]:List Int)).bind fun x21=>(idx x1.1.Bytes x20.1).bind fun x22=>KR x1 x21.2.1 x21.2.2 (x1.1.Bytes.set x20.1.toNat x21.1) else (if x6.1 == 4 then (aQ (⟨c.b,x6.2.1,x6.2.2⟩:aK) 6).bind fun x23=>(aQ (⟨c.b,x23.2.1,x23.2.2⟩:aK) 12).bind fun x24=>(aQ (⟨c.b,x24.2.1,x24.2.2⟩:aK) 9).bind fun x25=>(idx x1.1.Bytes (bC ((bC (x23.1 * 64))+x24.1))).bind fun x26=>lJ x25.2.1 x25.2.2 (x1.1.Bytes.set ((bC ((bC (x23.1 * 64))+x24.1)).toNat) x25.1) x1.1.Class else lJ x6.2.1 x6.2.2 x1.1.Bytes x1.1.Class)))))
def vD(w_ c slot:Int)(x1:aA)(x2:Bool):Option (aA×Bool):=
  (if x2 then some (x1,false) else (EM x1 w_ c slot).bind fun x3=>some (x3,true))
def RF(l:aA)(w_ c slot:Int):Option (aA×Bool):=
  (sV l).bind fun x1=>(pN l).bind fun x4=>(if !x4 then vD w_ c slot x1 true else (lV w_ c).bind fun x5=>(if decide (x5 < 0) then vD w_ c slot x1 true else (bH slot 0 23).bind fun x6=>(if !x6 then vD w_ c slot x1 true else (CU l).bind fun x7=>(yL x7 slot).bind fun x8=>vD w_ c slot x1 x8)))
def YF(x13 x14:Int)(x15 x16:List aH):Option (aA×(Int×Int)):=
  some ((⟨x15,x16⟩:aA),(x13,x14))
def FN(x8 x17 x18:Int)(x19 x20:List aH):Option (Step (Int×Int×Int×(List aH)×(List aH)) (Int×Int×(List aH)×(List aH))):=
  some (.next (bC (x8 - 1),x17,x18,x19,x20))
def OC(c:aK):(Int×Int×Int×(List aH)×(List aH))→Option (Step (Int×Int×Int×(List aH)×(List aH)) (Int×Int×(List aH)×(List aH)))
  | (x8,x9,x10,x11,x12)=>(if decide (0 < x8) then (aQ (⟨c.b,x9,x10⟩:aK) 3).bind fun x21=>(aQ (⟨c.b,x21.2.1,x21.2.2⟩:aK) 3).bind fun x22=>(aQ (⟨c.b,x22.2.1,x22.2.2⟩:aK) 24).bind fun x23=>(RF (⟨x11,x12⟩:aA) x21.1 x22.1 x23.1).bind fun x24=>FN x8 x23.2.1 x23.2.2 x24.1.Global x24.1.bJ else some (.stop ((x9,x10,x11,x12))))
def YG:(Int×Int×(List aH)×(List aH))→Option (aA×(Int×Int))
  | (x13,x14,x15,x16)=>YF x13 x14 x15 x16
def G0(c:aK):Option (aA×(Int×Int)):=
  (rR).bind fun x1=>(aQ c 14).bind fun x2=>(loop (OC c) (x2.1,x2.2.1,x2.2.2,x1.Global,x1.bJ)).bind (YG)
def nJ(x2 x3:Int)(x4 x5:List aH):Option (aA×(Int×Int)):=
  some ((⟨x4,x5⟩:aA),(x2,x3))
def KS(x1:aA×(Int×Int))(x7 x8:Int)(x9:List aH):Option (aA×(Int×Int)):=
  nJ x7 x8 x1.1.Global x9
def KT(x1:aA×(Int×Int))(x13 x14:Int)(x15:List aH):Option (aA×(Int×Int)):=
  nJ x13 x14 x15 x1.1.bJ
def M4(c:aK):Option (aA×(Int×Int)):=
  (G0 c).bind fun x1=>(aQ (⟨c.b,x1.2.1,x1.2.2⟩:aK) 20).bind fun x6=>(if x6.1 == 0 then need (0≤(2:Int)∧(2:Int)≤(x1.1.Global.length:Int)) (nJ x6.2.1 x6.2.2 ((x1.1.Global.take ((2:Int).toNat)).drop 0) x1.1.bJ) else (if x6.1 == 1 then need (x1.1.bJ.length+([(⟨[]⟩:aH)]).length≤1073741824) (nJ x6.2.1 x6.2.2 x1.1.Global (x1.1.bJ++([(⟨[]⟩:aH)]))) else (if x6.1 == 2 then (aQ (⟨c.b,x6.2.1,x6.2.2⟩:aK) (x1.1.bJ.length:Int)).bind fun x10=>(idx x1.1.bJ x10.1).bind fun x11=>KS x1 x10.2.1 x10.2.2 (x1.1.bJ.set x10.1.toNat (⟨([1,2,3]:List Int)⟩:aH)) else (if x6.1 == 3 then (aQ (⟨c.b,x6.2.1,x6.2.2⟩:aK) 3).bind fun x12=>(idx x1.1.Global x12.1).bind fun x16=>(eJ (⟨c.b,x12.2.1,x12.2.2⟩:aK) ([(-1),24,5,6]:List Int)).bind fun x17=>need (x16.aP.length+([x17.1]).length≤1073741824)<|KT x1 x17.2.1 x17.2.2 (x1.1.Global.set x12.1.toNat (⟨x16.aP++([x17.1])⟩:aH)) else nJ x6.2.1 x6.2.2 x1.1.Global x1.1.bJ))))
def wQ(x2 x6 x7:Int)(x8:Mem):Option (Mem×Int×(Int×Int)):=
  some (x8,x2,(x6,x7))
def wR(c:aK)(x2 x3 x4:Int)(x5:Mem):Option (Mem×Int×(Int×Int)):=
  (aQ (⟨c.b,x3,x4⟩:aK) 24).bind fun x9=>(if x9.1 == 0 then (M3 (⟨c.b,x9.2.1,x9.2.2⟩:aK)).bind fun x10=>wQ x2 x10.2.1 x10.2.2 (⟨x10.1,x5.aA⟩:Mem) else (if x9.1 == 1 then (M4 (⟨c.b,x9.2.1,x9.2.2⟩:aK)).bind fun x11=>wQ x2 x11.2.1 x11.2.2 (⟨x5.aE,x11.1⟩:Mem) else wQ x2 x9.2.1 x9.2.2 x5))
def M5(c:aK):Option (Mem×Int×(Int×Int)):=
  (JK c 22).bind fun x1=>(m8 (⟨c.b,x1.2.2.1,x1.2.2.2⟩:aK) 6).bind fun x12=>(if x12.1 then (nI (⟨c.b,x12.2.1,x12.2.2⟩:aK)).bind fun x13=>wR c x13.1 x13.2.1 x13.2.2 x1.1 else wR c x1.2.1 x12.2.1 x12.2.2 x1.1)
def V3(x13 x14 x15:Int)(x16:List gK):Option (aI×(Int×Int)):=
  some ((⟨x15,x16⟩:aI),(x13,x14))
def lT(x8 x18 x19 x20:Int)(x21:List gK):Option (Step (Int×Int×Int×Int×(List gK)) (Int×Int×Int×(List gK))):=
  some (.next (bC (x8 - 1),x18,x19,x20,x21))
def vF(x8 x11:Int)(x12:List gK)(x17 x22:Int×(Int×Int))(x25:Bool):Option (Step (Int×Int×Int×Int×(List gK)) (Int×Int×Int×(List gK))):=
  (if x25 then (EL (⟨x11,x12⟩:aI) x17.1 x11).bind fun x26=>lT x8 x22.2.1 x22.2.2 x26.1.aL x26.1.bA else (LS (⟨x11,x12⟩:aI) x11).bind fun x27=>lT x8 x22.2.1 x22.2.2 x27.1.aL x27.1.bA)
def LX(c:aK):(Int×Int×Int×Int×(List gK))→Option (Step (Int×Int×Int×Int×(List gK)) (Int×Int×Int×(List gK)))
  | (x8,x9,x10,x11,x12)=>(if decide (0 < x8) then (aQ (⟨c.b,x9,x10⟩:aK) 3).bind fun x17=>(aQ (⟨c.b,x17.2.1,x17.2.2⟩:aK) 6).bind fun x22=>(if x22.1 == 0 then (HP (⟨x11,x12⟩:aI) x17.1 x11).bind fun x23=>lT x8 x22.2.1 x22.2.2 x23.1.aL x23.1.bA else (if x22.1 == 1 then (yP (⟨x11,x12⟩:aI) x17.1).bind fun x24=>lT x8 x22.2.1 x22.2.2 x24.1.aL x24.1.bA else (if x22.1 == 2 then vF x8 x11 x12 x17 x22 true else vF x8 x11 x12 x17 x22 (x22.1 == 3)))) else some (.stop ((x9,x10,x11,x12))))
def V4:(Int×Int×Int×(List gK))→Option (aI×(Int×Int))
  | (x13,x14,x15,x16)=>V3 x13 x14 x15 x16
def DY(c:aK):Option (aI×(Int×Int)):=
  (wO).bind fun x1=>(aQ c 16).bind fun x2=>(loop (LX c) (x2.1,x2.2.1,x2.2.2,x1.aL,x1.bA)).bind (V4)
def iK(x3 x4 x5:Int)(x6:List gK):Option (aI×(Int×Int)):=
  some ((⟨x5,x6⟩:aI),(x3,x4))
def JN(c:aK):Option (aI×(Int×Int)):=
  (DY c).bind fun x1=>(aQ (⟨c.b,x1.2.1,x1.2.2⟩:aK) 3).bind fun x2=>(aQ (⟨c.b,x2.2.1,x2.2.2⟩:aK) 24).bind fun x7=>(if x7.1 == 0 then (eJ (⟨c.b,x7.2.1,x7.2.2⟩:aK) ([(-1),100000,100001]:List Int)).bind fun x8=>iK x8.2.1 x8.2.2 x8.1 x1.1.bA else (if x7.1 == 1 then need (0≤(x2.1:Int)∧(x2.1:Int)≤(x1.1.bA.length:Int)) (iK x7.2.1 x7.2.2 x1.1.aL ((x1.1.bA.take x2.1.toNat).drop 0)) else (if x7.1 == 2 then (idx x1.1.bA x2.1).bind fun x9=>iK x7.2.1 x7.2.2 x1.1.aL (x1.1.bA.set x2.1.toNat (⟨false,1,false,0⟩:gK)) else (if x7.1 == 3 then (idx x1.1.bA x2.1).bind fun x10=>iK x7.2.1 x7.2.2 x1.1.aL (x1.1.bA.set x2.1.toNat (⟨true,bC (x1.1.aL+1),false,0⟩:gK)) else (if x7.1 == 4 then (idx x1.1.bA x2.1).bind fun x11=>iK x7.2.1 x7.2.2 x1.1.aL (x1.1.bA.set x2.1.toNat (⟨true,0,false,3⟩:gK)) else (if x7.1 == 5 then (idx x1.1.bA x2.1).bind fun x12=>iK x7.2.1 x7.2.2 x1.1.aL (x1.1.bA.set x2.1.toNat (⟨true,0,true,0⟩:gK)) else iK x7.2.1 x7.2.2 x1.1.aL x1.1.bA))))))
def vG(l:List aO)(w_ h e_:Int)(x1:(List aO))(x2:Bool):Option ((List aO)×Bool):=
  (if x2 then some (x1,false) else (idx x1 w_).bind fun x3=>need (x3.Rows.length+([(⟨h,e_⟩:b8)]).length≤1073741824) ((uJ (x1.set w_.toNat (⟨x3.Rows++([(⟨h,e_⟩:b8)])⟩:aO))).bind fun x4=>(if !x4 then (uL l).bind fun x5=>some (x5,false) else some (x1.set w_.toNat (⟨x3.Rows++([(⟨h,e_⟩:b8)])⟩:aO),true))))
def DZ(l:List aO)(w_ h e_:Int):Option ((List aO)×Bool):=
  (uL l).bind fun x1=>(uJ l).bind fun x6=>(if !x6 then vG l w_ h e_ x1 true else (bH w_ 0 2).bind fun x7=>vG l w_ h e_ x1 (!x7))
def V5(x11:List aO)(x12 x13:Int):Option ((List aO)×(Int×Int)):=
  some (x11,(x12,x13))
def LY(c:aK):((List aO)×Int×Int×Int)→Option (Step ((List aO)×Int×Int×Int) ((List aO)×Int×Int))
  | (x7,x8,x9,x10)=>(if decide (0 < x8) then (aQ (⟨c.b,x9,x10⟩:aK) 3).bind fun x14=>(nI (⟨c.b,x14.2.1,x14.2.2⟩:aK)).bind fun x15=>(aQ (⟨c.b,x15.2.1,x15.2.2⟩:aK) 6).bind fun x16=>(DZ x7 x14.1 x15.1 x16.1).bind fun x17=>some (.next (x17.1,bC (x8 - 1),x16.2.1,x16.2.2)) else some (.stop ((x7,x9,x10))))
def V6:((List aO)×Int×Int)→Option ((List aO)×(Int×Int))
  | (x11,x12,x13)=>V5 x11 x12 x13
def D0(c:aK):Option ((List aO)×(Int×Int)):=
  (wP).bind fun x1=>(aQ c 10).bind fun x2=>(loop (LY c) (x1,x2.1,x2.2.1,x2.2.2)).bind (V6)
def o7(x2:List aO)(x3 x4:Int):Option ((List aO)×(Int×Int)):=
  some (x2,(x3,x4))
def H4(x7:List aO)(x8 x9:Int):Option ((List aO)×(Int×Int)):=
  o7 x7 x8 x9
def JO(c:aK):Option ((List aO)×(Int×Int)):=
  (D0 c).bind fun x1=>(aQ (⟨c.b,x1.2.1,x1.2.2⟩:aK) 20).bind fun x5=>(if x5.1 == 0 then need (0≤(1:Int)∧(1:Int)≤(x1.1.length:Int)) (some ((x1.1.take ((1:Int).toNat)).drop 0,(x5.2.1,x5.2.2))) else (if x5.1 == 1 then (idx x1.1 0).bind fun x6=>need (x6.Rows.length+([(⟨33,1⟩:b8),(⟨65,1⟩:b8)]:List b8).length≤1073741824) (o7 (x1.1.set ((0:Int).toNat) (⟨x6.Rows++([(⟨33,1⟩:b8),(⟨65,1⟩:b8)]:List b8)⟩:aO)) x5.2.1 x5.2.2) else (if x5.1 == 2 then (idx x1.1 1).bind fun x10=>(nI (⟨c.b,x5.2.1,x5.2.2⟩:aK)).bind fun x11=>need (x10.Rows.length+([(⟨x11.1,(-1)⟩:b8)]).length≤1073741824)<|H4 (x1.1.set ((1:Int).toNat) (⟨x10.Rows++([(⟨x11.1,(-1)⟩:b8)])⟩:aO)) x11.2.1 x11.2.2 else (if x5.1 == 3 then (idx x1.1 2).bind fun x12=>need (x12.Rows.length+([(⟨0,0⟩:b8)]).length≤1073741824) (o7 (x1.1.set ((2:Int).toNat) (⟨x12.Rows++([(⟨0,0⟩:b8)])⟩:aO)) x5.2.1 x5.2.2) else o7 x1.1 x5.2.1 x5.2.2))))
def BF(x14:List Int)(x15 x16:Int):Option ((List Int)×(Int×Int)):=
  some (x14,(x15,x16))
def PU(c:aK)(x11:List Int)(x12 x13:Int):Option ((List Int)×(Int×Int)):=
  (aQ (⟨c.b,x12,x13⟩:aK) 20).bind fun x17=>(if x17.1 == 0 then need (0≤(2:Int)∧(2:Int)≤(x11.length:Int)) (some ((x11.take ((2:Int).toNat)).drop 0,(x17.2.1,x17.2.2))) else (if x17.1 == 1 then (aQ (⟨c.b,x17.2.1,x17.2.2⟩:aK) 3).bind fun x18=>(eJ (⟨c.b,x18.2.1,x18.2.2⟩:aK) ([(-1),31,56,224]:List Int)).bind fun x19=>(idx x11 x18.1).bind fun x20=>BF (x11.set x18.1.toNat x19.1) x19.2.1 x19.2.2 else BF x11 x17.2.1 x17.2.2))
def PW(c:aK):((List Int)×Int×Int×Int)→Option (Step ((List Int)×Int×Int×Int) ((List Int)×Int×Int))
  | (x7,x8,x9,x10)=>(if decide (0 < x8) then (aQ (⟨c.b,x9,x10⟩:aK) 3).bind fun x21=>(aQ (⟨c.b,x21.2.1,x21.2.2⟩:aK) 4).bind fun x22=>(aQ (⟨c.b,x22.2.1,x22.2.2⟩:aK) 2).bind fun x23=>(nF x22.1 (bC (1+x23.1))).bind fun x24=>(uO x7 x21.1 x24).bind fun x25=>some (.next (x25.1,bC (x8 - 1),x23.2.1,x23.2.2)) else some (.stop ((x7,x9,x10))))
def PX(c:aK):((List Int)×Int×Int)→Option ((List Int)×(Int×Int))
  | (x11,x12,x13)=>PU c x11 x12 x13
def JQ(c:aK):Option ((List Int)×(Int×Int)):=
  (EX).bind fun x1=>(aQ c 4).bind fun x2=>(loop (PW c) (x1,x2.1,x2.2.1,x2.2.2)).bind (PX c)
def lW(x1:aB×Int×(Int×Int))(x2 x3:Int)(x4:aB):Option (aB×Int×(Int×Int)):=
  some (x4,x1.2.1,(x2,x3))
def JS(c:aK):Option (aB×Int×(Int×Int)):=
  (GX c 26).bind fun x1=>(aQ (⟨c.b,x1.2.2.1,x1.2.2.2⟩:aK) 28).bind fun x5=>(if x5.1 == 0 then (M5 (⟨c.b,x5.2.1,x5.2.2⟩:aK)).bind fun x6=>lW x1 x6.2.2.1 x6.2.2.2 (⟨x6.1,x1.1.aI,x1.1.aV,x1.1.iC⟩:aB) else (if x5.1 == 1 then (JN (⟨c.b,x5.2.1,x5.2.2⟩:aK)).bind fun x7=>lW x1 x7.2.1 x7.2.2 (⟨x1.1.Mem,x7.1,x1.1.aV,x1.1.iC⟩:aB) else (if x5.1 == 2 then (JO (⟨c.b,x5.2.1,x5.2.2⟩:aK)).bind fun x8=>lW x1 x8.2.1 x8.2.2 (⟨x1.1.Mem,x1.1.aI,x8.1,x1.1.iC⟩:aB) else (if x5.1 == 3 then (JQ (⟨c.b,x5.2.1,x5.2.2⟩:aK)).bind fun x9=>lW x1 x9.2.1 x9.2.2 (⟨x1.1.Mem,x1.1.aI,x1.1.aV,x9.1⟩:aB) else lW x1 x5.2.1 x5.2.2 x1.1))))
def D1(x1:Int×(Int×Int))(x4 x5 x6 x7 x8:Int):Option (gA×(Int×Int)):=
  some ((⟨x1.1,x4,x7,x8⟩:gA),(x5,x6))
def D2(c:aK)(x1:Int×(Int×Int))(x4 x10 x11 x12:Int):Option (gA×(Int×Int)):=
  (aQ (⟨c.b,x10,x11⟩:aK) 60000).bind fun x13=>D1 x1 x4 x13.2.1 x13.2.2 x12 x13.1
def wS(c:aK)(x1:Int×(Int×Int))(x2 x3 x4:Int):Option (gA×(Int×Int)):=
  (if x1.1 == 1 then (aQ (⟨c.b,x2,x3⟩:aK) 40).bind fun x9=>(m8 (⟨c.b,x9.2.1,x9.2.2⟩:aK) 12).bind fun x14=>(if x14.1 then (eJ (⟨c.b,x14.2.1,x14.2.2⟩:aK) ([0,41,100]:List Int)).bind fun x15=>D2 c x1 x4 x15.2.1 x15.2.2 x15.1 else D2 c x1 x4 x14.2.1 x14.2.2 (bC (1+x9.1))) else D1 x1 x4 x2 x3 0 0)
def H5(c:aK):Option (gA×(Int×Int)):=
  (eJ c ([1,1,1,2,2,3,3,4,4,5,6,7,7]:List Int)).bind fun x1=>(sU x1.1).bind fun x16=>(if x16 then (eJ (⟨c.b,x1.2.1,x1.2.2⟩:aK) ([0,0,0,1]:List Int)).bind fun x17=>wS c x1 x17.2.1 x17.2.2 x17.1 else wS c x1 x1.2.1 x1.2.2 0)
def T6(x9:List Queue)(x10 x11:Int):Option ((List Queue)×(Int×Int)):=
  some (x9,(x10,x11))
def JT(x5:List Queue)(x6 x21 x22:Int)(x23:List gA):Option (Step ((List Queue)×Int×Int×Int) ((List Queue)×Int×Int)):=
  need (x5.length+([(⟨x23⟩:Queue)]).length≤1073741824) (some (.next (x5++([(⟨x23⟩:Queue)]),bC (x6+1),x21,x22)))
def BG(x17 x24 x25:Int)(x26:List gA):Option (Step (Int×Int×Int×(List gA)) (Int×Int×(List gA))):=
  some (.next (bC (x17 - 1),x24,x25,x26))
def JU(c:aK):(Int×Int×Int×(List gA))→Option (Step (Int×Int×Int×(List gA)) (Int×Int×(List gA)))
  | (x17,x18,x19,x20)=>(if decide (0 < x17) then (H5 (⟨c.b,x18,x19⟩:aK)).bind fun x27=>need (x20.length+([x27.1]).length≤1073741824)<|BG x17 x27.2.1 x27.2.2 (x20++([x27.1])) else some (.stop ((x18,x19,x20))))
def JV(x5:List Queue)(x6:Int):(Int×Int×(List gA))→Option (Step ((List Queue)×Int×Int×Int) ((List Queue)×Int×Int))
  | (x21,x22,x23)=>JT x5 x6 x21 x22 x23
def JW(c:aK)(most:Int):((List Queue)×Int×Int×Int)→Option (Step ((List Queue)×Int×Int×Int) ((List Queue)×Int×Int))
  | (x5,x6,x7,x8)=>(if decide (x6 < 3) then (aQ (⟨c.b,x7,x8⟩:aK) (bC (most+1))).bind fun x12=>(loop (JU c) (x12.1,x12.2.1,x12.2.2,[])).bind (JV x5 x6) else some (.stop ((x5,x7,x8))))
def T7:((List Queue)×Int×Int)→Option ((List Queue)×(Int×Int))
  | (x9,x10,x11)=>T6 x9 x10 x11
def BH(c:aK)(most:Int):Option ((List Queue)×(Int×Int)):=
  (loop (JW c most) (([]:List Queue),0,c.i,c.h)).bind (T7)
def LZ(x2:aD):Option aD:=
  some ({x2 with Log:=[]}:aD)
def D3(todo:List Queue):Option aD:=
  (zV todo).bind fun x1=>(if !x1 then some (⟨(⟨(⟨(⟨[],[]⟩:aE),(⟨[],[]⟩:aA)⟩:Mem),(⟨0,[]⟩:aI),[],[]⟩:aB),[],[],[],[],0⟩:aD) else (BA).bind fun x3=>need (0≤(2:Int)∧(2:Int)≤4294967296)<|need (0≤(3:Int)∧(3:Int)≤4294967296)<|(sY todo).bind fun x4=>LZ (⟨x3,List.replicate ((2:Int).toNat) 0,List.replicate ((3:Int).toNat) (⟨false,(⟨0,0,0,0⟩:gA),0,0,(⟨0,0,0,0,0,0,0,0,0,false⟩:Sub),0,0,0,0⟩:bX),x4,[],0⟩:aD))
def r9(w_:Int)(x2:Bool)(x3:aD):Option aD:=
  (if x2 then some x3 else (yQ x3 w_).bind fun x4=>some x4)
def BI(s:aD)(w_:Int):Option aD:=
  (GD s).bind fun x1=>(uK s).bind fun x5=>(if !x5 then r9 w_ true x1 else (bH w_ 0 2).bind fun x6=>r9 w_ (!x6) x1)
def V7(x12 x13:Int)(x14:aD):Option (aD×(Int×Int)):=
  some (x14,(x12,x13))
def C5(x8 x15 x16:Int)(x17:aD):Option (Step (Int×Int×Int×aD) (Int×Int×aD)):=
  some (.next (bC (x8 - 1),x15,x16,x17))
def L4(c:aK):(Int×Int×Int×aD)→Option (Step (Int×Int×Int×aD) (Int×Int×aD))
  | (x8,x9,x10,x11)=>(if decide (0 < x8) then (aQ (⟨c.b,x9,x10⟩:aK) 3).bind fun x18=>(BI x11 x18.1).bind fun x19=>C5 x8 x18.2.1 x18.2.2 x19 else some (.stop ((x9,x10,x11))))
def V8:(Int×Int×aD)→Option (aD×(Int×Int))
  | (x12,x13,x14)=>V7 x12 x13 x14
def D4(c:aK)(most:Int):Option (aD×(Int×Int)):=
  (BH c 7).bind fun x1=>(D3 x1.1).bind fun x2=>(aQ (⟨c.b,x1.2.1,x1.2.2⟩:aK) most).bind fun x3=>(loop (L4 c) (x3.1,x3.2.1,x3.2.2,x2)).bind (V8)
def fZ(x3 x4:Int)(x5:aD):Option (aD×(Int×Int)):=
  some (x5,(x3,x4))
def JX(c:aK)(most:Int):Option (aD×(Int×Int)):=
  (D4 c most).bind fun x1=>(aQ (⟨c.b,x1.2.1,x1.2.2⟩:aK) 3).bind fun x2=>(aQ (⟨c.b,x2.2.1,x2.2.2⟩:aK) 30).bind fun x6=>(if x6.1 == 0 then (JS (⟨c.b,x6.2.1,x6.2.2⟩:aK)).bind fun x7=>fZ x7.2.2.1 x7.2.2.2 (⟨x7.1,x1.1.Cells,x1.1.aR,x1.1.cG,x1.1.Log,x1.1.aN⟩:aD) else (if x6.1 == 1 then need (x1.1.Cells.length+([0]).length≤1073741824) (fZ x6.2.1 x6.2.2 (⟨x1.1.aB,x1.1.Cells++([0]),x1.1.aR,x1.1.cG,x1.1.Log,x1.1.aN⟩:aD)) else (if x6.1 == 2 then (eJ (⟨c.b,x6.2.1,x6.2.2⟩:aK) ([(-1),33,31,56]:List Int)).bind fun x8=>(idx x1.1.Cells 0).bind fun x9=>fZ x8.2.1 x8.2.2 (⟨x1.1.aB,x1.1.Cells.set ((0:Int).toNat) x8.1,x1.1.aR,x1.1.cG,x1.1.Log,x1.1.aN⟩:aD) else (if x6.1 == 3 then (aQ (⟨c.b,x6.2.1,x6.2.2⟩:aK) 11).bind fun x10=>(idx x1.1.aR x2.1).bind fun x11=>fZ x10.2.1 x10.2.2 (⟨x1.1.aB,x1.1.Cells,x1.1.aR.set x2.1.toNat ({x11 with Pc:=bC (x10.1 - 1)}:bX),x1.1.cG,x1.1.Log,x1.1.aN⟩:aD) else (if x6.1 == 4 then (nI (⟨c.b,x6.2.1,x6.2.2⟩:aK)).bind fun x12=>(idx x1.1.aR x2.1).bind fun x13=>fZ x12.2.1 x12.2.2 (⟨x1.1.aB,x1.1.Cells,x1.1.aR.set x2.1.toNat ({x13 with H:=x12.1}:bX),x1.1.cG,x1.1.Log,x1.1.aN⟩:aD) else (if x6.1 == 5 then need (0≤(x2.1:Int)∧(x2.1:Int)≤(x1.1.cG.length:Int)) (fZ x6.2.1 x6.2.2 (⟨x1.1.aB,x1.1.Cells,x1.1.aR,(x1.1.cG.take x2.1.toNat).drop 0,x1.1.Log,x1.1.aN⟩:aD)) else (if x6.1 == 6 then (H5 (⟨c.b,x6.2.1,x6.2.2⟩:aK)).bind fun x14=>(aQ (⟨c.b,x14.2.1,x14.2.2⟩:aK) 5).bind fun x15=>(idx x1.1.aR x2.1).bind fun x16=>fZ x15.2.1 x15.2.2 (⟨x1.1.aB,x1.1.Cells,x1.1.aR.set x2.1.toNat (⟨true,x14.1,0,x15.1,(⟨0,0,0,0,0,0,0,0,0,false⟩:Sub),0,0,0,0⟩:bX),x1.1.cG,x1.1.Log,x1.1.aN⟩:aD) else (if x6.1 == 7 then (eJ (⟨c.b,x6.2.1,x6.2.2⟩:aK) ([(-1),1000000,1000001]:List Int)).bind fun x17=>fZ x17.2.1 x17.2.2 (⟨x1.1.aB,x1.1.Cells,x1.1.aR,x1.1.cG,x1.1.Log,x17.1⟩:aD) else fZ x6.2.1 x6.2.2 x1.1))))))))
def M6(c:aK):Option (Int×(Int×Int)):=
  (m8 c 14).bind fun x1=>(if x1.1 then (eJ (⟨c.b,x1.2.1,x1.2.2⟩:aK) ([(-1),3]:List Int)).bind fun x2=>some (x2.1,(x2.2.1,x2.2.2)) else (aQ (⟨c.b,x1.2.1,x1.2.2⟩:aK) 3).bind fun x3=>some (x3.1,(x3.2.1,x3.2.2)))
def qH(code:List UInt8):Option (aD×Int):=
  (MZ code).bind fun x1=>(JX (⟨code,x1.1,x1.2⟩:aK) 80).bind fun x2=>(M6 (⟨code,x2.2.1,x2.2.2⟩:aK)).bind fun x3=>some (x2.1,x3.1)
def kA(x2:aD):Option aD:=
  some x2
def kB(w_:Int)(x3:Bool)(x4:aD):Option aD:=
  (if x3 then (xX x4 w_).bind fun x5=>kA x5 else kA x4)
def o8(s:aD)(w_:Int):Option aD:=
  (AI s).bind fun x1=>(AR s).bind fun x6=>(if x6 then (e9 w_).bind fun x7=>kB w_ x7 x1 else kB w_ false x1)
def T8:Option Bool:=
  some true
def BJ(a_ b:List Int):Int→Option (Step Int (Out Unit Bool))
  | x2=>(if decide (x2 < (a_.length:Int)) then (idx a_ x2).bind fun x3=>(idx b x2).bind fun x4=>(if x3 != x4 then some (.stop (Out.ret false)) else some (.next (bC (x2+1)))) else some (.stop (Out.brk ())))
def T9:(Out Unit Bool)→Option Bool
  | .brk ()=>T8
  | .ret r=>some r
def jU(a_ b:List Int):Option Bool:=
  (if (a_.length:Int) != (b.length:Int) then some false else (loop (BJ a_ b) 0).bind (T9))
def C6(x1:Bool):Option Bool:=
  some x1
def KU(a_ b:aE):Option Bool:=
  (jU a_.Bytes b.Bytes).bind fun x2=>(if x2 then (jU a_.Class b.Class).bind fun x3=>C6 x3 else C6 false)
def aA9:Option Bool:=
  some true
def H6(a_ b:List aH):Int→Option (Step Int (Out Unit Bool))
  | x2=>(if decide (x2 < (a_.length:Int)) then (idx a_ x2).bind fun x3=>(idx b x2).bind fun x4=>(jU x3.aP x4.aP).bind fun x5=>(if !x5 then some (.stop (Out.ret false)) else some (.next (bC (x2+1)))) else some (.stop (Out.brk ())))
def aBA:(Out Unit Bool)→Option Bool
  | .brk ()=>aA9
  | .ret r=>some r
def EY(a_ b:List aH):Option Bool:=
  (if (a_.length:Int) != (b.length:Int) then some false else (loop (H6 a_ b) 0).bind (aBA))
def BK(x1:Bool):Option Bool:=
  some x1
def H7(a_ b:aA):Option Bool:=
  (EY a_.Global b.Global).bind fun x2=>(if x2 then (EY a_.bJ b.bJ).bind fun x3=>BK x3 else BK false)
def FO(x1:Bool):Option Bool:=
  some x1
def G3(a_ b:Mem):Option Bool:=
  (KU a_.aE b.aE).bind fun x2=>(if x2 then (H7 a_.aA b.aA).bind fun x3=>FO x3 else FO false)
def UA:Option Bool:=
  some true
def BL(a_ b:aI):Int→Option (Step Int (Out Unit Bool))
  | x3=>(if decide (x3 < (a_.bA.length:Int)) then (idx a_.bA x3).bind fun x4=>(idx b.bA x3).bind fun x5=>(if !(decide (x4=x5)) then some (.stop (Out.ret false)) else some (.next (bC (x3+1)))) else some (.stop (Out.brk ())))
def UB:(Out Unit Bool)→Option Bool
  | .brk ()=>UA
  | .ret r=>some r
def sA(a_ b:aI)(x1:Bool):Option Bool:=
  (if x1 then some false else (loop (BL a_ b) 0).bind (UB))
def BM(a_ b:aI):Option Bool:=
  (if a_.aL != b.aL then sA a_ b true else sA a_ b ((a_.bA.length:Int) != (b.bA.length:Int)))
def UC:Option Bool:=
  some true
def JY(x2:Int):Option (Step Int (Out Unit Bool)):=
  some (.next (bC (x2+1)))
def sB(a_ b:List aO)(x2:Int):Int→Option (Step Int (Out Unit Bool))
  | x6=>(idx a_ x2).bind fun x7=>(if decide (x6 < (x7.Rows.length:Int)) then (idx a_ x2).bind fun x8=>(idx x8.Rows x6).bind fun x9=>(idx b x2).bind fun x10=>(idx x10.Rows x6).bind fun x11=>(if !(decide (x9=x11)) then some (.stop (Out.ret false)) else some (.next (bC (x6+1)))) else some (.stop (Out.brk ())))
def JZ(x2:Int):(Out Unit Bool)→Option (Step Int (Out Unit Bool))
  | .brk ()=>JY x2
  | .ret r=>some (.stop (Out.ret r))
def BN(a_ b:List aO):Int→Option (Step Int (Out Unit Bool))
  | x2=>(if decide (x2 < (a_.length:Int)) then (idx a_ x2).bind fun x3=>(idx b x2).bind fun x4=>(if (x3.Rows.length:Int) != (x4.Rows.length:Int) then some (.stop (Out.ret false)) else (loop (sB a_ b x2) 0).bind (JZ x2)) else some (.stop (Out.brk ())))
def UD:(Out Unit Bool)→Option Bool
  | .brk ()=>UC
  | .ret r=>some r
def BO(a_ b:List aO):Option Bool:=
  (if (a_.length:Int) != (b.length:Int) then some false else (loop (BN a_ b) 0).bind (UD))
def o9(x1:Bool):Option Bool:=
  some x1
def D5(a_ b:aB):Option Bool:=
  (G3 a_.Mem b.Mem).bind fun x2=>(if x2 then (BM a_.aI b.aI).bind fun x3=>(if x3 then (BO a_.aV b.aV).bind fun x4=>(if x4 then (jU a_.iC b.iC).bind fun x5=>o9 x5 else o9 false) else o9 false) else o9 false)
def UE:Option Bool:=
  some true
def BP(a_ b:aD):Int→Option (Step Int (Out Unit Bool))
  | x7=>(if decide (x7 < (a_.Log.length:Int)) then (idx a_.Log x7).bind fun x8=>(idx b.Log x7).bind fun x9=>(if !(decide (x8=x9)) then some (.stop (Out.ret false)) else some (.next (bC (x7+1)))) else some (.stop (Out.brk ())))
def UF:(Out Unit Bool)→Option Bool
  | .brk ()=>UE
  | .ret r=>some r
def J0(a_ b:aD):Option Bool:=
  (loop (BP a_ b) 0).bind (UF)
def J1(x5:Int):Option (Step Int (Out Unit Bool)):=
  some (.next (bC (x5+1)))
def sC(a_ b:aD)(x5:Int):Int→Option (Step Int (Out Unit Bool))
  | x13=>(idx a_.cG x5).bind fun x14=>(if decide (x13 < (x14.fX.length:Int)) then (idx a_.cG x5).bind fun x15=>(idx x15.fX x13).bind fun x16=>(idx b.cG x5).bind fun x17=>(idx x17.fX x13).bind fun x18=>(if !(decide (x16=x18)) then some (.stop (Out.ret false)) else some (.next (bC (x13+1)))) else some (.stop (Out.brk ())))
def J2(x5:Int):(Out Unit Bool)→Option (Step Int (Out Unit Bool))
  | .brk ()=>J1 x5
  | .ret r=>some (.stop (Out.ret r))
def BQ(a_ b:aD):Int→Option (Step Int (Out Unit Bool))
  | x5=>(if decide (x5 < (a_.cG.length:Int)) then (idx a_.cG x5).bind fun x10=>(idx b.cG x5).bind fun x11=>(if (x10.fX.length:Int) != (x11.fX.length:Int) then some (.stop (Out.ret false)) else (loop (sC a_ b x5) 0).bind (J2 x5)) else some (.stop (Out.brk ())))
def J3(a_ b:aD):(Out Unit Bool)→Option Bool
  | .brk ()=>J0 a_ b
  | .ret r=>some r
def J4(a_ b:aD):Option Bool:=
  (loop (BQ a_ b) 0).bind (J3 a_ b)
def BR(a_ b:aD):Int→Option (Step Int (Out Unit Bool))
  | x3=>(if decide (x3 < (a_.aR.length:Int)) then (idx a_.aR x3).bind fun x19=>(idx b.aR x3).bind fun x20=>(if !(decide (x19=x20)) then some (.stop (Out.ret false)) else some (.next (bC (x3+1)))) else some (.stop (Out.brk ())))
def J5(a_ b:aD):(Out Unit Bool)→Option Bool
  | .brk ()=>J4 a_ b
  | .ret r=>some r
def gL(a_ b:aD)(x1:Bool):Option Bool:=
  (if x1 then some false else (loop (BR a_ b) 0).bind (J5 a_ b))
def BS(a_ b:aD):Option Bool:=
  (D5 a_.aB b.aB).bind fun x21=>(if !x21 then gL a_ b true else (jU a_.Cells b.Cells).bind fun x22=>(if !x22 then gL a_ b true else (if (a_.aR.length:Int) != (b.aR.length:Int) then gL a_ b true else (if (a_.cG.length:Int) != (b.cG.length:Int) then gL a_ b true else (if (a_.Log.length:Int) != (b.Log.length:Int) then gL a_ b true else gL a_ b (a_.aN != b.aN))))))
def sD(x27:Bool):Option Bool:=
  some x27
def J6(x2:aD×Int)(x25 x26:aD):Option Bool:=
  (idx x26.cG x2.2).bind fun x28=>(idx x25.cG x2.2).bind fun x29=>(if decide ((x28.fX.length:Int)≤(x29.fX.length:Int)) then sD ((bC (x26.aN - x25.aN)) == (bC ((x29.fX.length:Int) - (x28.fX.length:Int)))) else sD false)
def BT(x22:Int)(x30:Bool)(x31 x32:aD):Option (Step (Int×aD×aD) (Out (aD×aD) Bool)):=
  (if x30 then some (.stop (Out.ret false)) else some (.next (bC (x22+1),x31,x32)))
def nA:(Int×aD×aD)→Option (Step (Int×aD×aD) (Out (aD×aD) Bool))
  | (x22,x23,x24)=>(if decide (x22 < (x23.Log.length:Int)) then (idx x24.Log x22).bind fun x33=>(idx x23.Log x22).bind fun x34=>BT x22 (!(decide (x33=x34))) x23 x24 else some (.stop (Out.brk (x23,x24))))
def J7(x2:aD×Int):(Out (aD×aD) Bool)→Option Bool
  | .brk (x25,x26)=>J6 x2 x25 x26
  | .ret r=>some r
def J8(x2:aD×Int)(x17 x18:aD):Option Bool:=
  (loop (nA) (0,x17,x18)).bind (J7 x2)
def nB(x14:Int)(x35:Bool)(x36 x37:aD):Option (Step (Int×aD×aD) (Out (aD×aD) Bool)):=
  (if x35 then some (.stop (Out.ret false)) else some (.next (bC (x14+1),x36,x37)))
def nC(x2:aD×Int):(Int×aD×aD)→Option (Step (Int×aD×aD) (Out (aD×aD) Bool))
  | (x14,x15,x16)=>(if decide (x14 < 3) then (if x14 != x2.2 then (idx x16.aR x14).bind fun x38=>(idx x15.aR x14).bind fun x39=>(if !(decide (x38=x39)) then nB x14 true x15 x16 else (idx x16.cG x14).bind fun x40=>(idx x15.cG x14).bind fun x41=>nB x14 ((x40.fX.length:Int) != (x41.fX.length:Int)) x15 x16) else nB x14 false x15 x16) else some (.stop (Out.brk (x15,x16))))
def J9(x2:aD×Int):(Out (aD×aD) Bool)→Option Bool
  | .brk (x17,x18)=>J8 x2 x17 x18
  | .ret r=>some r
def kC(x2:aD×Int)(x8:Bool)(x9 x10:aD):Option Bool:=
  (if x8 then some false else (loop (nC x2) (0,x9,x10)).bind (J9 x2))
def iL(x2:aD×Int)(x4:Bool)(x5 x6:aD):Option Bool:=
  (if x4 then (BS x6 x5).bind fun x7=>some x7 else (if (x6.aR.length:Int) != 3 then kC x2 true x5 x6 else (if (x6.cG.length:Int) != 3 then kC x2 true x5 x6 else (if decide ((x6.Log.length:Int) < (x5.Log.length:Int)) then kC x2 true x5 x6 else kC x2 (decide ((bC ((x5.Log.length:Int)+1)) < (x6.Log.length:Int))) x5 x6))))
def H8(code:List UInt8):Option Bool:=
  (aA4 code).bind fun x1=>(if x1 then some true else (qH code).bind fun x2=>(o8 x2.1 x2.2).bind fun x3=>(uK x2.1).bind fun x44=>(if !x44 then iL x2 true x2.1 x3 else (if decide (x2.2 < 0) then iL x2 true x2.1 x3 else iL x2 (decide (3≤x2.2)) x2.1 x3)))
def PY(x7:List Int):Option (List Int):=
  some x7
def jV:((List Int)×Int)→Option (Step ((List Int)×Int) (List Int))
  | (x5,x6)=>(if decide (x6 < (x5.length:Int)) then need (0≤(x6:Int)∧(x6:Int)≤(x5.length:Int)) (need (0≤(x6:Int)∧(x6:Int)≤(x5.length:Int)) (some (.next (dQ x5 x6.toNat ((x5.take x6.toNat).drop 0),bC (x6+((min ((x5.take x6.toNat).drop 0).length (x5.length - x6.toNat):Nat):Int)))))) else some (.stop (x5)))
def PZ:(List Int)→Option (List Int)
  | x7=>PY x7
def tR(x:List Int)(x1:Int×Int)(x2:Bool):Option (List Int):=
  (if x2 then none else need (0≤(IntKind.i64.wrap x1.2:Int)∧(IntKind.i64.wrap x1.2:Int)≤4294967296) ((loop (jV) (dQ (List.replicate ((IntKind.i64.wrap x1.2).toNat) 0) 0 x,((min x.length ((List.replicate ((IntKind.i64.wrap x1.2).toNat) 0:List Int).length - 0):Nat):Int))).bind (PZ)))
def BU(x:List Int)(count:Int):Option (List Int):=
  (if decide (count < 0) then none else (RX (IntKind.u64.wrap (x.length:Int)) (IntKind.u64.wrap count)).bind fun x1=>(if decide (0 < x1.1) then tR x x1 true else tR x x1 (decide (9223372036854775807 < x1.2))))
def YH(x1:List Int):Option aE:=
  some (⟨List.replicate ((384:Int).toNat) 0,x1⟩:aE)
def M7:Option aE:=
  need (0≤(384:Int)∧(384:Int)≤4294967296)<|(BU ([(-1)]) 6).bind fun x2=>YH x2
def V9:Option aA:=
  some (⟨List.replicate ((3:Int).toNat) (⟨[]⟩:aH),List.replicate ((9:Int).toNat) (⟨[]⟩:aH)⟩:aA)
def RZ:Option aA:=
  need (0≤(3:Int)∧(3:Int)≤4294967296)<|need (0≤(9:Int)∧(9:Int)≤4294967296)<|V9
def W8:Option Mem:=
  (M7).bind fun x1=>(RZ).bind fun x2=>some (⟨x1,x2⟩:Mem)
def R0:Option aI:=
  need (0≤(3:Int)∧(3:Int)≤4294967296) (some (⟨0,List.replicate ((3:Int).toNat) (⟨false,0,false,0⟩:gK)⟩:aI))
def R1:Option (List aO):=
  need (0≤(3:Int)∧(3:Int)≤4294967296) (some (List.replicate ((3:Int).toNat) (⟨[]⟩:aO)))
def W9:Option (List Int):=
  need (0≤(3:Int)∧(3:Int)≤4294967296) (some (List.replicate ((3:Int).toNat) 0))
def M8:Option aB:=
  (W8).bind fun x1=>(R0).bind fun x2=>(R1).bind fun x3=>(W9).bind fun x4=>some (⟨x1,x2,x3,x4⟩:aB)
def WA(x2:aD):Option aD:=
  some ({x2 with Log:=[]}:aD)
def R2(todo:List Queue):Option aD:=
  (ET todo).bind fun x1=>(if !x1 then some (⟨(⟨(⟨(⟨[],[]⟩:aE),(⟨[],[]⟩:aA)⟩:Mem),(⟨0,[]⟩:aI),[],[]⟩:aB),[],[],[],[],0⟩:aD) else (M8).bind fun x3=>need (0≤(2:Int)∧(2:Int)≤4294967296)<|need (0≤(3:Int)∧(3:Int)≤4294967296)<|(wE todo).bind fun x4=>WA (⟨x3,List.replicate ((2:Int).toNat) 0,List.replicate ((3:Int).toNat) (⟨false,(⟨0,0,0,0⟩:gA),0,0,(⟨0,0,0,0,0,0,0,0,0,false⟩:Sub),0,0,0,0⟩:bX),x4,[],0⟩:aD))
end
end Go.Gv
end
