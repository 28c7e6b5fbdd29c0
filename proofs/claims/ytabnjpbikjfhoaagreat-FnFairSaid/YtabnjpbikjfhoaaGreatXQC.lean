import Derived.Test.YtabnjpbikjfhoaaGreatXQB
set_option linter.unusedVariables false
set_option linter.unusedSimpArgs false
set_option linter.unusedSectionVars false
set_option linter.constructorNameAsVariable false
set_option linter.unnecessarySimpa false
noncomputable section
namespace Go.Gv
universe u
theorem Q{α:Sort u}{a:α}:a=a:=Eq.refl a
def W{ρ:Type}(C:Prop)(r:ρ)(F:Option ρ):Prop:=F=some r→C
theorem wm{ρ:Type}{C:Prop}{r:ρ}{F F':Option ρ}(h:F'=F)(k:W C r F):W C r F':=h ▸ k
theorem wi{ρ:Type}{C:Prop}{r:ρ}{F:Option ρ}(h:F=some r)(k:W C r F):C:=k h
def VS(P:Program)(c:Ctx)(f:FuncId){ρ ex:Type}(F:Option ρ)(xs:List SV)(B0:Bl)(L0:List Ch)(sv:ρ→ex→SV)(Lf:ρ→ex→List Ch):Prop:=∀r,F=some r→FnS P f c xs B0 L0 sv Lf r
abbrev V0(P:Program)(c:Ctx)(f:FuncId){ρ:Type}(F:Option ρ)(xs:List SV)(sv:ρ→SV):Prop:=VS P c f F xs [] [] (fun r (_:Unit)=>sv r) (fun _ _=>[])
theorem VS.r{P:Program}{c:Ctx}{f:FuncId}{ρ ex:Type}{F:Option ρ}{xs:List SV}{B0:Bl}{L0:List Ch}{sv:ρ→ex→SV}{Lf:ρ→ex→List Ch}(h:VS P c f F xs B0 L0 sv Lf){r:ρ}(hF:F=some r):FnS P f c xs B0 L0 sv Lf r:=h r hF
def QR(P:Program)(fn:Func){rs:List ResultVar}(_:fn.results=rs.toArray)(c:Ctx)(B0:Bl){ρ ex:Type}(sv:ρ→ex→SV)(Lf:ρ→ex→List Ch)(r:ρ):Act→World→Prop:=QS P fn c B0 sv Lf r
def aSZ(T:TT)(rs:List ResultVar)(is:List Nat)(b0:Nat)(L2:List Ch):Stop→Option (SV×List Ch)
  | .ret m e L => match aHY T e L rs with
    | some x => match HC b0 (nbS x) with
      | true => match SW b0 m e L is b0 [] L2 with
        | some ([],L3)=>some (nbS x,L3)
        | _=>none
      | false=>none
    | none=>none
  | _=>none
def aMK(is:List Nat)(b0 mj:Nat)(ej:SE)(Lj:List Ch):Stop→Option (SE×List Ch)
  | .fin m e L=>SW b0 m e L is mj ej Lj
  | _=>none
def exQ(is:List Nat)(id b0 mj:Nat)(ej:SE)(Lj:List Ch):Stop→Option (SE×List Ch)
  | .ex i m e L => match Nat.beq i id with
    | true=>SW b0 m e L is mj ej Lj
    | false=>none
  | _=>none
def a0C:Stop→Stop
  | .fin m e L=>.ret m e L
  | _=>.stuck
def ixT(T:TT)(t n:Nat):Bool:=match BF T t with
  | some ⟨.sl el, _, _, _⟩ => match BF T el with
    | some ⟨_,_,sz,_⟩=>Nat.beq n sz
    | none=>false
  | _=>false
noncomputable section
variable {P:Program} {T:TT} {hT:HD P T} {n:Nat} {c:Ctx} {B0:Bl} {N:Act→World→Prop} {X:Nat→Act→World→Prop} {Q:Act→World→Prop} {K K':List Fr} {m m':Nat} {e e':SE} {L L' Lv:List Ch} {cf cf' cf1 cf2:xR} {o:Oper}
theorem cQ(hT:HD P T){f:FuncId}{fn:Func}{cd:Code}{xs:List SV}{L0:List Ch}{ρ ex:Type}{sv:ρ→ex→SV}{Lf:ρ→ex→List Ch}{F:Option ρ}{rs:List ResultVar}(hc:∀args w,(callFunc f args).run P w=.ok (.enter f args) w)(hf:P.funcs[f]?=some fn)(hr:fn.results=rs.toArray)(hb:fn.body=some cd)(hm:fn.ntmps=n)
    (k:∀{r},W (G (.mk P T hT n c B0 (QR P fn hr c B0 sv Lf r) (fun _ _ _=>False) (QR P fn hr c B0 sv Lf r)) [] B0.length (aG4 0 xs) L0 (.c cd)) r F) (hl:Nat.ble xs.length n=true:=by exact rfl):VS P c f F xs B0 L0 sv Lf:=
  fun _ hF=>en n hc hf hT hb hm hl (k hF)
theorem aOI{rs:List ResultVar}{is:List Nat}{b0:Nat}{L2 L3:List Ch}{s:SV}{st:Stop}(h:aSZ T rs is b0 L2 st=some (s,L3)):∃m' e' L' x,st=.ret m' e' L'∧aHY T e' L' rs=some x∧nbS x=s∧HC b0 s=true∧SW b0 m' e' L' is b0 [] L2=some ([],L3):=by
  unfold aSZ at h
  split at h
  · split at h
    · rename_i h1
      split at h
      · rename_i h2
        split at h
        · rename_i h3
          cases h
          exact⟨_,_,_,_,rfl,h1,rfl,h2,h3⟩
        · cases h
      · cases h
    · cases h
  · cases h
theorem eO{fn:Func}{ρ ex:Type}{sv:ρ→ex→SV}{Lf:ρ→ex→List Ch}{r r':ρ}{rs:List ResultVar}{hr:fn.results=rs.toArray}{zz:Option ρ}(y:ex)(is:List Nat)(hz:zz=some r')(h:aSZ T rs is B0.length (Lf r' y) (kA T n K cf m e L)=some (sv r' y,Lf r' y)):W (G (.mk P T hT n c B0 N X (QR P fn hr c B0 sv Lf r)) K m e L cf) r zz:=fun hF=>by
  obtain⟨_,_,_,_,h1,h2,h3,h4,h5⟩:=aOI h
  exact rt y is hF hz h1 hr h2 h3 h4 h5
theorem cO{fn:Func}{ρ:Type}{sv:ρ→Unit→SV}{Lf:ρ→Unit→List Ch}{r r':ρ}{rs:List ResultVar}{hr:fn.results=rs.toArray}{zz:Option ρ}(hz:zz=some r')(h:aSZ T rs [] B0.length (Lf r' ()) (kA T n K cf m e L)=some (sv r' (),Lf r' ())):W (G (.mk P T hT n c B0 N X (QR P fn hr c B0 sv Lf r)) K m e L cf) r zz:=eO () [] hz h
theorem MF{fn:Func}{ρ ex:Type}{sv:ρ→ex→SV}{Lf:ρ→ex→List Ch}{r r':ρ}{rs:List ResultVar}{hr:fn.results=rs.toArray}{zz:Option ρ}(y:ex)(is:List Nat)(hz:zz=some r')(h:aSZ T rs is B0.length (Lf r' y) (a0C (kA T n K cf m e L))=some (sv r' y,Lf r' y)):W (G (.mk P T hT n c B0 (QR P fn hr c B0 sv Lf r) X Q) K m e L cf) r zz:=fun hF=>by
  obtain⟨m',e',L',_,h1,h2,h3,h4,h5⟩:=aOI h
  refine rf y is hF hz (m':=m') (e':=e') (L':=L') ?_ hr h2 h3 h4 h5
  unfold a0C at h1
  split at h1
  · rename_i h0;rw [h0];cases h1;rfl
  · cases h1
theorem aOJ{is:List Nat}{b0 mj:Nat}{ej e3:SE}{Lj L3:List Ch}{st:Stop}(h:aMK is b0 mj ej Lj st=some (e3,L3)):∃m' e' L',st=.fin m' e' L'∧SW b0 m' e' L' is mj ej Lj=some (e3,L3):=by
  unfold aMK at h
  split at h
  · exact⟨_,_,_,rfl,h⟩
  · cases h
theorem kZ{π υ α:Type}{eq:π→Prop}{mj:Nat}{ej:π→υ→SE}{Lj:π→υ→List Ch}{p:π}{q:α}{zz:Option α}(u:υ)(is:List Nat)(hz:(zz=some q)=eq p)(h:aMK is B0.length mj (ej p u) (Lj p u) (kA T n K cf m e L)=some (ej p u,Lj p u)):W (G (.mk P T hT n c B0 (JP n c B0 eq mj ej Lj) X Q) K m e L cf) q zz:=fun hF=>by
  obtain⟨_,_,_,h1,h2⟩:=aOJ h
  exact jn u is (hz ▸ hF) h1 h2
theorem bU{π α:Type}{eq:π→Prop}{mj:Nat}{ej:π→Unit→SE}{Lj:π→Unit→List Ch}{p:π}{q:α}{zz:Option α}(is:List Nat)(hz:(zz=some q)=eq p)(h:aMK is B0.length mj (ej p ()) (Lj p ()) (kA T n K cf m e L)=some (ej p (),Lj p ())):W (G (.mk P T hT n c B0 (JP n c B0 eq mj ej Lj) X Q) K m e L cf) q zz:=kZ () is hz h
theorem nxW{σ ρ υ:Type}{o:Step σ ρ}{mj:Nat}{el:σ→υ→SE}{Ll:σ→υ→List Ch}{s:σ}(u:υ)(is:List Nat)(h:aMK is B0.length mj (el s u) (Ll s u) (kA T n K cf m e L)=some (el s u,Ll s u)):W (G (.mk P T hT n c B0 (NxP n c B0 o mj el Ll) X Q) K m e L cf) o (some (Step.next s)):=fun hF=>by
  obtain⟨_,_,_,h1,h2⟩:=aOJ h
  exact nx u is hF h1 h2
theorem BE{σ ρ:Type}{o:Step σ ρ}{mj:Nat}{el:σ→Unit→SE}{Ll:σ→Unit→List Ch}{s:σ}(is:List Nat)(h:aMK is B0.length mj (el s ()) (Ll s ()) (kA T n K cf m e L)=some (el s (),Ll s ())):W (G (.mk P T hT n c B0 (NxP n c B0 o mj el Ll) X Q) K m e L cf) o (some (Step.next s)):=nxW () is h
def BkR(n:Nat)(c:Ctx)(B0:Bl){β ρ σ υ:Type}{o:Step σ ρ}{ro:ρ}(_:∀p,o=.stop p→p=ro)(enc:β→ρ)(m:Nat)(ej:β→υ→SE)(Lj:β→υ→List Ch)(id:Nat)(X:Nat→Act→World→Prop):Nat→Act→World→Prop:=BkP n c B0 ro enc m ej Lj id X
theorem bkW{σ ρ β υ:Type}{o:Step σ ρ}{ro:ρ}{enc:β→ρ}{mj id:Nat}{ej:β→υ→SE}{Lj:β→υ→List Ch}{b:β}{hr:∀p,o=.stop p→p=ro}(u:υ)(is:List Nat)(h:exQ is id B0.length mj (ej b u) (Lj b u) (kA T n K cf m e L)=some (ej b u,Lj b u)):W (G (.mk P T hT n c B0 N (BkR n c B0 hr enc mj ej Lj id X) Q) K m e L cf) o (some (Step.stop (enc b))):=fun hF=>by
  unfold exQ at h
  split at h
  · rename_i h0
    split at h
    · rename_i hb
      rw [l7 hb] at h0
      exact bk u is hF hr h0 h
    · cases h
  · cases h
theorem yD{σ ρ β:Type}{o:Step σ ρ}{ro:ρ}{enc:β→ρ}{mj id:Nat}{ej:β→Unit→SE}{Lj:β→Unit→List Ch}{b:β}{hr:∀p,o=.stop p→p=ro}(is:List Nat)(h:exQ is id B0.length mj (ej b ()) (Lj b ()) (kA T n K cf m e L)=some (ej b (),Lj b ())):W (G (.mk P T hT n c B0 N (BkR n c B0 hr enc mj ej Lj id X) Q) K m e L cf) o (some (Step.stop (enc b))):=bkW () is h
theorem BG{σ ρ α:Type}{o:Step σ ρ}{p ro:ρ}{F:ρ→Option α}{q:α}{C:Prop}(hr:∀p,o=.stop p→p=ro)(hF:F ro=some q)(k:W C q (F p)):W C o (some (Step.stop p)):=fun h=>k (re h rfl hr hF)
noncomputable section
variable {b:Bool} {α:Type} {A B':Option α} {q:α}
theorem bA{o:Operand}{x y:Code}(ss:List Nat)(hs:kA T n K cf m e L=.cond o b x y K' m' e' L')(ho:aZ (DY e') ss=some (ss.map fun _=>SV.b b))
    (k1:W (G (.mk P T hT n c B0 N X Q) K' m' (ovr true e' ss) L' (.c x)) q A) (k2:W (G (.mk P T hT n c B0 N X Q) K' m' (ovr false e' ss) L' (.c y)) q B'):W (G (.mk P T hT n c B0 N X Q) K m e L cf) q (if b=true then A else B'):=fun hF=>cs ss hs ho hF k1 k2
theorem aKI{o:Operand}{x y:Code}(ss:List Nat)(hs:kA T n K cf m e L=.cond o b x y K' m' e' L')(ho:aZ (DY e') ss=some (ss.map fun _=>SV.b b))
    (k1:b=true→W (G (.mk P T hT n c B0 N X Q) K' m' (ovr true e' ss) L' (.c x)) q A) (k2:b=false→W (G (.mk P T hT n c B0 N X Q) K' m' (ovr false e' ss) L' (.c y)) q B'):W (G (.mk P T hT n c B0 N X Q) K m e L cf) q (if b=true then A else B'):=fun hF=>csK ss hs ho hF k1 k2
theorem dQ(ss:List Nat)(hs:kA T n K cf m e L=.case b cf' K' m' e' L')(ho:aZ (DY e') ss=some (ss.map fun _=>SV.b b))
    (k1:W (G (.mk P T hT n c B0 N X Q) K' m' (ovr true e' ss) L' cf') q A) (k2:W (G (.mk P T hT n c B0 N X Q) K' m' (ovr false e' ss) L' cf') q B'):W (G (.mk P T hT n c B0 N X Q) K m e L cf) q (if b=true then A else B'):=fun hF=>ca ss hs ho hF k1 k2
theorem aKJ(ss:List Nat)(hs:kA T n K cf m e L=.case b cf' K' m' e' L')(ho:aZ (DY e') ss=some (ss.map fun _=>SV.b b))
    (k1:b=true→W (G (.mk P T hT n c B0 N X Q) K' m' (ovr true e' ss) L' cf') q A) (k2:b=false→W (G (.mk P T hT n c B0 N X Q) K' m' (ovr false e' ss) L' cf') q B'):W (G (.mk P T hT n c B0 N X Q) K m e L cf) q (if b=true then A else B'):=fun hF=>caK ss hs ho hF k1 k2
end
noncomputable section
variable {α β:Type} {fo:Option α} {kf:α→Option β} {q:β} {d:Nat} {f:FuncId} {xs:List SV}
theorem c0{sv:α→SV}(hs:kA T n K cf m e L=.call o (some d) f xs cf1 cf2 K' m' e' L')
    (hc:∀{w},HS c w L'→V0 P (cW w) f fo xs sv) (k:∀x,W (G (.mk P T hT n c B0 N X Q) K' m' ((d,sv x) :: e') L' cf2) q (kf x)):W (G (.mk P T hT n c B0 N X Q) K m e L cf) q (fo.bind kf):=fun hF=>cl0 hs (fun h _ hx=>hc h _ hx) hF fun x _ h=>k x h
theorem c1{ex:Type}{sv:α→ex→SV}{Lf:α→ex→List Ch}(hs:kA T n K cf m e L=.call o (some d) f xs cf1 cf2 K' m' e' L')
    (hc:∀{w},HS c w L'→VS P (cW w) f fo xs [] [] sv Lf) (k:∀x,∀y:ex,W (G (.mk P T hT n c B0 N X Q) K' m' ((d,sv x y) :: e') (L'++Lf x y) cf2) q (kf x)) (hn:∀x y,noF (Lf x y)=true:=by exact fun _ _=>rfl):W (G (.mk P T hT n c B0 N X Q) K m e L cf) q (fo.bind kf):=fun hF=>cl hs hn (fun h _ hx=>hc h _ hx) hF fun x _ h y=>k x y h
theorem o4{β:Type}{kf:α→Option β}{q:β}{iR:aI α}(C:KI α){d t:Nat}{s:AC}{i:Int}{ls:List α}(hs:kA T n K cf m e L=.idx o d t s ls.length i Lv cf1 cf2 K' m' e' L')(h1:aX c s ls)(ht:ixT T t (aI.n α)=true)
    (k:∀x,∀y:C.ex,C.sub c.S0 c.w0 x y→W (G (.mk P T hT n c B0 N X Q) K' (m'+1) ((d,.p m' 0) :: e') (L' ++ [.ro m' (C.cs x y)]) (cf2.ext [.ro m' (C.cs x y)])) q (kf x)):W (G (.mk P T hT n c B0 N X Q) K m e L cf) q ((idx ls i).bind kf):=fun hF=>by
  unfold ixT at ht
  split at ht
  · rename_i h2
    split at ht
    · rename_i h3
      exact ix C hs h1 hF h2 h3 (l7 ht) fun x _ h y hy=>k x y hy h
    · cases ht
  · cases ht
theorem NJ{β:Type}{kf:Int→Option β}{q:β}{d t:Nat}{s:AC}{i:Int}{ls:List Int}(hs:kA T n K cf m e L=.idx o d t s ls.length i Lv cf1 cf2 K' m' e' L')(h1:aX c s ls)(ht:ixT T t 1=true)
    (k:∀x,W (G (.mk P T hT n c B0 N X Q) K' (m'+1) ((d,.p m' 0) :: e') (L' ++ [.ro m' [.i .i64 x]]) (cf2.ext [.ro m' [.i .i64 x]])) q (kf x)):W (G (.mk P T hT n c B0 N X Q) K m e L cf) q ((idx ls i).bind kf):=o4 cI hs h1 ht fun x _ _=>k x
theorem eE(hm:P.follows .mixedOrders=true){id:Nat}{ops:Array Oper}{zz:Option β}(is:List Nat)(hs:kA T n K cf m e L=.rgn id ops K' m' e' L')
    (k:∀{B1},W (G (.mk P T hT n c B0 N X Q) K' m' e' L' (.d B1 ops (List.replicate ops.size false) is (kl L' is) (kl L' is))) q zz) (hf:(aJ0 ops && (okL m' (kl L' is) && (dR is && is.all fun j=>Nat.blt j L'.length)))=true:=by kernel_rfl):W (G (.mk P T hT n c B0 N X Q) K m e L cf) q zz:=fun hF=>dr is hs hm hf fun _=>k hF
theorem gG{π υ:Type}{zz:Option β}(j mj:Nat)(Fj:π→Option β)(ks:List Nat)(ej:π→υ→SE)(is:List Nat)(Lj:π→υ→List Ch)(hs:SH (kA T n K cf m e L)=some (K',cf',m',e',L'))
    (k1:W (G (.mk P T hT n c B0 (JP n c B0 (fun p=>Fj p=some q) mj (fun p u=>ej p u++kp e' ks) (fun p u=>Lj p u++kl L' is)) (XK (.mk P T hT n c B0 N X Q) (K'.drop j)) Q) (K'.take j) m' e' L' cf') q zz)
    (k2:∀p u,W (G (.mk P T hT n c B0 N X Q) (K'.drop j) mj (ej p u++kp e' ks) (Lj p u++kl L' is) .n) q (Fj p)):W (G (.mk P T hT n c B0 N X Q) K m e L cf) q zz:=fun hF=>cut j mj (fun p=>Fj p=some q) ks ej is Lj hs (k1 hF) fun p u h=>k2 p u h
theorem cX{zz:Option β}(j mj:Nat)(Fj:Bool→Option β)(ks:List Nat)(v:Nat)(is:List Nat)(hs:SH (kA T n K cf m e L)=some (K',cf',m',e',L'))
    (k1:W (G (.mk P T hT n c B0 (JP n c B0 (fun p=>Fj p=some q) mj (fun p (_:Unit)=>[(v,.b p)]++kp e' ks) (fun _ _=>[]++kl L' is)) (XK (.mk P T hT n c B0 N X Q) (K'.drop j)) Q) (K'.take j) m' e' L' cf') q zz)
    (k2:∀p,W (G (.mk P T hT n c B0 N X Q) (K'.drop j) mj ([(v,.b p)]++kp e' ks) ([]++kl L' is) .n) q (Fj p)):W (G (.mk P T hT n c B0 N X Q) K m e L cf) q zz:=gG j mj Fj ks (fun p (_:Unit)=>[(v,.b p)]) is (fun _ _=>[]) hs k1 fun p _=>k2 p
theorem OR{σ ρ υ γ ω:Type}{id:Nat}{y:Code}{fb:σ→Option (Step σ ρ)}{s0:σ}{gk:ρ→Option β}(u0:υ)(ks:List Nat)(el:σ→υ→SE)(is0 is:List Nat)(Ll:σ→υ→List Ch)(enc:γ→ρ)(kb:List Nat)(ej:γ→ω→SE)(ib:List Nat)(Lj:γ→ω→List Ch)
    (hs:kA T n K cf m e L=.loop id y K' m' e' L')
    (h0:SW B0.length m' e' L' is0 m' (el s0 u0++kp e' ks) (Ll s0 u0++kl L' is)=some (el s0 u0++kp e' ks,Ll s0 u0++kl L' is))
    (k1:∀{ro o},gk ro=some q→∀s u,(hr:∀p,o=.stop p→p=ro)→W (G (.mk P T hT n c B0 (NxP n c B0 o m' (fun s u=>el s u++kp e' ks) (fun s u=>Ll s u++kl L' is)) (BkR n c B0 hr enc m' (fun b u=>ej b u++kp e' kb) (fun b u=>Lj b u++kl L' ib) id (XK (.mk P T hT n c B0 N X Q) K')) Q) [] m' (el s u++kp e' ks) (Ll s u++kl L' is) (.c y)) o (fb s))
    (k2:∀b u,W (G (.mk P T hT n c B0 N X Q) K' m' (ej b u++kp e' kb) (Lj b u++kl L' ib) .n) q (gk (enc b))):W (G (.mk P T hT n c B0 N X Q) K m e L cf) q ((loop fb s0).bind gk):=fun hF=>
  lp u0 ks el is0 is Ll enc kb ej ib Lj hs hF h0 (fun ro h1 s u o h2 h3=>k1 h1 s u h3 h2) fun b u h=>k2 b u h
theorem GN{ρ:Type}{id:Nat}{y:Code}{fb:Int→Option (Step Int ρ)}{s0:Int}{gk:ρ→Option β}(v:Nat)(ks:List Nat)(is:List Nat)(enc:Unit→ρ)(kb:List Nat)(ib:List Nat)
    (hs:kA T n K cf m e L=.loop id y K' m' e' L')
    (h0:SW B0.length m' e' L' is m' ([(v,.i .i64 s0)]++kp e' ks) ([]++kl L' is)=some ([(v,.i .i64 s0)]++kp e' ks,[]++kl L' is))
    (k1:∀{ro o},gk ro=some q→∀s,(hr:∀p,o=.stop p→p=ro)→W (G (.mk P T hT n c B0 (NxP n c B0 o m' (fun s (_:Unit)=>[(v,.i .i64 s)]++kp e' ks) (fun _ _=>[]++kl L' is)) (BkR n c B0 hr enc m' (fun _ (_:Unit)=>[]++kp e' kb) (fun _ _=>[]++kl L' ib) id (XK (.mk P T hT n c B0 N X Q) K')) Q) [] m' ([(v,.i .i64 s)]++kp e' ks) ([]++kl L' is) (.c y)) o (fb s))
    (k2:W (G (.mk P T hT n c B0 N X Q) K' m' ([]++kp e' kb) ([]++kl L' ib) .n) q (gk (enc ()))):W (G (.mk P T hT n c B0 N X Q) K m e L cf) q ((loop fb s0).bind gk):=
  OR () ks (fun s (_:Unit)=>[(v,.i .i64 s)]) is is (fun _ _=>[]) enc kb (fun _ (_:Unit)=>[]) ib (fun _ _=>[]) hs h0 (fun h s _ hr=>k1 h s hr) fun _ _=>k2
theorem lR{β:Type}{kf:α→Option β}{q:β}[aI α](E:CO α)(j:Nat){t:TypeId}{s:AC}{i:Int}{ls:List α}(hs:kA T n K cf m e L=.idx o d t s ls.length i Lv cf1 cf2 K' m' e' L')(hj:L'[j]?=some (ow s ls))(hz:gO j cf1.BM=true)
    (k:∀x,idx ls i=some x→∀y:E.ex,Shp s ls.length→W (G (.mk P T hT n c B0 N X Q) K' (m'+1) e' (L'.set j .no++([.o (xM (s.v ls.length) ls i.toNat),.box m' (E.cs x y),wOf α m' s ls.length i.toNat]++E.Lx x y)) (cf1.ext [wOf α m' s ls.length i.toNat])) q (kf x)):W (G (.mk P T hT n c B0 N X Q) K m e L cf) q ((idx ls i).bind kf):=fun hF=>oe E j hs hj hz hF fun x h1 h2 y h3=>k x h1 y h3 h2
end
noncomputable section
variable {α β ex:Type} {fo:Option α} {kf:α→Option β} {q:β} {d:Option Nat} {f:FuncId} {xs xs0:List SV} {M:List Ch} {sv:α→ex→SV} {Lr:α→ex→List Ch}
theorem nM(is:List Nat)
    (hs:cpS (kA T n K cf m e L)=some (o,d,f,xs,cf1,cf2,K',m',e',L')) (hi:aZ (fun i=>L'[i]?) is=some M) (hx:aZ (rnP [] 0) xs=some xs0)
    (hk:(QD M && (dR is && is.all fun j=>gO j cf1.BM))=true)
    (hc:∀{κ:Ctx},HG c κ L' is→VS P κ f fo xs0 [] M sv Lr)
    (k:∀x,∀y:ex,W (G (.mk P T hT n c B0 N X Q) K' m' (dse d (sv x y) e') (QC L' is++Lr x y) cf2) q (kf x)) (hn:∀x y,(QD (Lr x y) && HC 0 (sv x y))=true:=by exact fun _ _=>rfl):W (G (.mk P T hT n c B0 N X Q) K m e L cf) q (fo.bind kf):=fun hF=>
  cw0 is hs hi hx hk hn (fun h _ hx=>hc h _ hx) hF fun x _ h y=>k x y h
theorem dX{c1:List SV}{a1:α→ex→List SV}(i1 n1 o1 k1:Nat)(is:List Nat)
    (hs:cpS (kA T n K cf m e L)=some (o,d,f,xs,cf1,cf2,K',m',e',L')) (hb:aKB L' [(i1,n1,o1,k1)]=some [c1]) (hi:aZ (fun i=>L'[i]?) is=some M) (hx:aZ (rnP [(i1,n1,o1,k1)] 0) xs=some xs0)
    (hk:(QD M && ([c1].all (HC.okC 0) && (dR (i1 :: is) && (i1 :: is).all fun j=>gO j cf1.BM)))=true)
    (hc:∀{κ:Ctx},HG c κ L' (i1 :: is)→∀{b1:Nat×Nat},VS P κ f fo xs0 [b1] (.box 0 c1 :: M) sv (fun x y=>.box 0 (a1 x y) :: Lr x y))
    (k:∀x,∀y:ex,W (G (.mk P T hT n c B0 N X Q) K' m' (dse d (sv x y) e') (NS L' (QC L' (i1 :: is)++Lr x y) [(i1,n1,o1,k1)] [a1 x y]) cf2) q (kf x)) (hn:∀x y,(aCG [(i1,n1,o1,k1)] [a1 x y] && ([a1 x y].all (HC.okC 0) && (QD (Lr x y) && HC 0 (sv x y))))=true:=by exact fun _ _=>rfl):W (G (.mk P T hT n c B0 N X Q) K m e L cf) q (fo.bind kf):=fun hF=>
  cw1 i1 n1 o1 k1 is hs hb hi hx hk hn (fun h _ _ hx=>hc h _ hx) hF fun x _ h y=>k x y h
theorem Y6{c1 c2:List SV}{a1 a2:α→ex→List SV}(i1 n1 o1 k1:Nat)(i2 n2 o2 k2:Nat)(is:List Nat)
    (hs:cpS (kA T n K cf m e L)=some (o,d,f,xs,cf1,cf2,K',m',e',L')) (hb:aKB L' [(i1,n1,o1,k1),(i2,n2,o2,k2)]=some [c1,c2]) (hi:aZ (fun i=>L'[i]?) is=some M) (hx:aZ (rnP [(i1,n1,o1,k1),(i2,n2,o2,k2)] 0) xs=some xs0)
    (hk:(QD M && ([c1,c2].all (HC.okC 0) && (dR (i1 :: i2 :: is) && (i1 :: i2 :: is).all fun j=>gO j cf1.BM)))=true)
    (hc:∀{κ:Ctx},HG c κ L' (i1 :: i2 :: is)→∀{b1 b2:Nat×Nat},VS P κ f fo xs0 [b1,b2] (.box 0 c1 :: .box 1 c2 :: M) sv (fun x y=>.box 0 (a1 x y) :: .box 1 (a2 x y) :: Lr x y))
    (k:∀x,∀y:ex,W (G (.mk P T hT n c B0 N X Q) K' m' (dse d (sv x y) e') (NS L' (QC L' (i1 :: i2 :: is)++Lr x y) [(i1,n1,o1,k1),(i2,n2,o2,k2)] [a1 x y,a2 x y]) cf2) q (kf x)) (hn:∀x y,(aCG [(i1,n1,o1,k1),(i2,n2,o2,k2)] [a1 x y,a2 x y] && ([a1 x y,a2 x y].all (HC.okC 0) && (QD (Lr x y) && HC 0 (sv x y))))=true:=by exact fun _ _=>rfl):W (G (.mk P T hT n c B0 N X Q) K m e L cf) q (fo.bind kf):=fun hF=>
  cw2 i1 n1 o1 k1 i2 n2 o2 k2 is hs hb hi hx hk hn (fun h _ _ _ hx=>hc h _ hx) hF fun x _ h y=>k x y h
end
theorem aKK{α β:Type}{iR:aI α}{C:KI α}{sr:β→SV}{g:FuncId}{w:World}{p:α→Option β}(hc:∀args w,(callFunc g args).run P w=.ok (.enter g args) w)(hn:∀{κ:Ctx} {x y},C.sub κ.S0 κ.w0 x y→V0 P κ g (p x) [C.sv x y] sr):Fu1 P (cW w) C sr g [] p:=fu1 hc (by intro κ x y h q hq;exact hn h _ hq)
theorem aML{α β:Type}{iR:aI α}{C:KI α}{sr:β→SV}{g:FuncId}{w:World}{Bs:Bl}{cs:List (Nat×List SV)}{p:α→Option β}(hc:∀args w,(callFunc g args).run P w=.ok (.enter g args) w)(hB:∀w1,gA F0 w w1→mW (cW w1) w1 Bs (roL 0 cs))(hl:aZ (fX Bs) (aSH 0 cs)=some (aCE Bs))(hn:∀{w1 x y},gA F0 w w1→C.sub (NL w1) w1 x y→VS P (cW w1) g (p x) (C.sv x y :: aSH 0 cs) Bs (roL 0 cs) (fun r (_:Unit)=>sr r) (fun _ _=>[]))(hz:∀q,HC 0 (sr q)=true:=by exact fun _=>rfl):Fu1 P (cW w) C sr g (aCE Bs) p:=fk1 hc hB hl hz (by intro w1 x y h h' q hq;exact hn h h' _ hq)
noncomputable section
variable {α β:Type} {fo:Option α} {kf:α→Option β} {q:β} {d:Nat} {f g:FuncId} {xs:List SV} {sv:α→SV}
theorem aMM{n1:Nat}{c1:List SV}(is:List Nat)(hs:kA T n K cf m e L=.callp o (some d) f xs cf1 cf2 K' m' e' L')(hk:kl L' is=[.ro n1 c1])(ho:(aJ7 [(n1,c1)] && okA xs.dropLast)=true)(hx:xs=xs.dropLast ++ [.f g [n1]])
    (hc:∀{w},HS c w L'→∀{b1:Nat×Nat},(∀w1,gA F0 w w1→mW (cW w1) w1 [b1] [.ro 0 c1])→V0 P (cW w) f fo (xs.dropLast ++ [.k (.func (.func g) #[] (aCE [b1]).toArray)]) sv)
    (k:∀x,W (G (.mk P T hT n c B0 N X Q) K' m' ((d,sv x) :: e') L' cf2) q (kf x)):W (G (.mk P T hT n c B0 N X Q) K m e L cf) q (fo.bind kf):=fun hF=>
  a05 is hs hk ho hx (fun h _ h2 _ hx=>hc h h2 _ hx) hF fun x _ h=>k x h
end
end
end Go.Gv
end
noncomputable section
namespace Go.Gv
def pV(y:Nat×Nat):Value:=.pointer (some ⟨y.1,y.2,none⟩)
noncomputable section
variable {P:Program} {T:TT} {hT:HD P T} {n:Nat} {c:Ctx} {B0:Bl} {N:Act→World→Prop} {X:Nat→Act→World→Prop} {Q:Act→World→Prop} {K K':List Fr} {m m':Nat} {e e':SE} {L L':List Ch} {cf cf1 cf2:xR} {o:Oper}
abbrev VP(P:Program)(c:Ctx)(f:FuncId){ρ:Type}(F:Option ρ)(xs:List SV)(cs:ρ→List SV):Prop:=VS P c f F xs [] [] (fun _ (y:Nat×Nat)=>.k (pV y)) (fun r y=>[.o (NN [y] 0 (cs r))])
theorem rtP{fn:Func}{ρ:Type}{r r':ρ}{t:Nat}{hr:fn.results=[ResultVar.tmp t].toArray}{zz:Option ρ}{cs:ρ→List SV}(is:List Nat)(hz:zz=some r')(hs:kA T n K cf m e L=.ret m' e' L')(hL:SW 0 m' e' L' is 1 [(t,.p 0 0)] [.box 0 (cs r')]=some ([(t,.p 0 0)],[.box 0 (cs r')]))(ho:HC.okC 0 (cs r')=true):W (G (.mk P T hT n c [] N X (QR P fn hr c [] (fun _ (y:Nat×Nat)=>.k (pV y)) (fun r y=>[.o (NN [y] 0 (cs r))]) r)) K m e L cf) r zz:=fun hF=>by
  subst hz;cases hF
  refine gP (g:=.mk P T hT n c [] N X _) ?_
  rw [hs]
  intro a w hr'
  obtain⟨B,hm,hA,hS⟩:=qV.SW hr' is hL
  have hB:∃y,B=[y]:=by
    cases B with
    | nil=>simp at hm
    | cons y B => cases B with
      | nil=>exact⟨y,rfl⟩
      | cons z B=>simp at hm
  obtain⟨y,rfl⟩:=hB
  have hS:mW c w [y] [.box 0 (cs r)]:=hS
  have hA:fY n [y] [(t,.p 0 0)] a:=hA
  have hv:aHY T [(t,.p 0 0)] [.box 0 (cs r)] [ResultVar.tmp t]=some (.p 0 0):=by simp [aHY,aRP,DY]
  obtain⟨v,h1,h2⟩:=aBC hr hT hA hS hv
  have hv':v=pV y:=by
    simp only [fX,gV,bZ,List.getElem?_cons_zero] at h1
    cases h1;rfl
  subst hv'
  refine⟨hA.d,_,h2,y,by simp [fX,gV,bZ,pV,Value.oneCell'],?_⟩
  obtain⟨⟨R,s1,s2⟩,s0⟩:=hS
  exact⟨⟨R,s1.imp (.cons (fun F h=>h) .nil),fun x hx=>by rcases iA.1 hx with rfl | hx <;> first | trivial | simp at hx⟩,s0⟩
theorem cP{α β:Type}{fo:Option α}{kf:α→Option β}{q:β}{d:Nat}{f:FuncId}{xs:List SV}{cs:α→List SV}(hs:kA T n K cf m e L=.call o (some d) f xs cf1 cf2 K' m' e' L')
    (hc:∀{w},HS c w L'→VP P (cW w) f fo xs cs) (k:∀x,W (G (.mk P T hT n c B0 N X Q) K' (m'+1) ((d,.p m' 0) :: e') (L' ++ [.box m' (cs x)]) cf2) q (kf x)) (hk:∀x,HC.okC 0 (cs x)=true:=by exact fun _=>rfl):W (G (.mk P T hT n c B0 N X Q) K m e L cf) q (fo.bind kf):=fun hF=>by
  refine gP (g:=.mk P T hT n c B0 N X Q) ?_
  rw [hs]
  intro fo' args ats ho hd hf ⟨ys,hys,hxs⟩ hA0 hdn hE
  subst hxs
  cases hfo:fo with
  | none=>rw [hfo] at hF;cases hF
  | some x =>
    rw [hfo] at hF
    refine hE Unit (fun _=>m'+1) (fun _=>(d,.p m' 0) :: e') (fun _=>L' ++ [.box m' (cs x)]) (fun _=>zE _) (fun B a w next Q' hm hA hS hnext=>?_) (fun _=>k x hF)
    obtain⟨hcall,hrun⟩:=hc ⟨_,hS⟩ x hfo
    obtain⟨vs,h1,h2⟩:=YU hA hys
    obtain⟨v,h3,h4⟩:=eR hA hf
    simp [fX,aZ] at h3
    subst h3
    have h5:=hrun vs (aBD hA0 (by rw [R2];exact h1)) (aSB w)
    have h6:=UX (w:=w) hcall ho h4 h2
    unfold Oper.wp
    rw [h6 _ a hA.env,Oper.upon_enter]
    refine Calls.mono h5 fun en w' ⟨v,hv,y,g1,g2⟩=>?_
    subst hv
    rw [hd]
    have hv':v=pV y:=by simpa [fX,gV,bZ,pV,Value.oneCell'] using g1.symm
    subst hv'
    have hb:∀{F:cV},(NN [y] 0 (cs x)).P w' F→(NN ((UJ (.mk P T hT n c B0 N X Q) cf1++B) ++ [y]) m' (cs x)).P w' F:=fun⟨b,z,us,k1,k2,k3⟩=>by
      simp only [List.getElem?_cons_zero,Option.some.injEq] at k1
      refine⟨y.1,y.2,us,?_,?_,by rw [k1];exact k3⟩
      · rw [J9 (by omega),hm];simp
      · simpa using fH (fun x v h=>by simpa using gH (B:=[]) (UJ (.mk P T hT n c B0 N X Q) cf1++B ++ [y]) h) (HI (hk x) k2)
    have g3:fX ((UJ (.mk P T hT n c B0 N X Q) cf1++B) ++ [y]) (.p m' 0)=some (pV y):=by
      simp only [fX,gV,bZ]
      rw [J9 (by omega),hm]
      simp [pV]
    refine hnext () _ _ ⟨[y],by simp only [G9,KA,SO] at hm ⊢;omega,hA.ext g3 (hA.env.put (by simpa [rY,pI] using hdn) _),?_⟩
    obtain⟨⟨R,s1,s2⟩,s0⟩:=(hS.after (L2:=[.o (NN [y] 0 (cs x))]) rfl g2).app [y]
    refine⟨⟨R,s1.imp ?_,fun z hz=>?_⟩,s0⟩
    · rw [BJ,BJ]
      exact jB.append (jB.refl _) (.cons (fun F h=>hb h) .nil)
    · rcases gK.1 hz with hz | hz
      · exact s2 z (P2 _ hz)
      · rcases iA.1 hz with rfl | hz <;> first | trivial | simp at hz
end
end Go.Gv
end
noncomputable section
namespace Go.Gv
noncomputable section
variable {n:Nat} {c:Ctx} {B0:Bl} {m:Nat} {e:SE} {L:List Ch}
def kf(L xs:List Ch)(k:Nat):List Nat→List Ch
  | []=>[]
  | i :: is => match Nat.blt i k with
    | true => match L[i]? with
      | some x=>x :: kf L xs k is
      | none=>kf L xs k is
    | false => match xs[i - k]? with
      | some x=>x :: kf L xs k is
      | none=>kf L xs k is
end
end Go.Gv
end
noncomputable section
namespace Go.Gv
noncomputable section
variable {P:Program} {T:TT} {hT:HD P T} {n:Nat} {c:Ctx} {B0:Bl} {N:Act→World→Prop} {X:Nat→Act→World→Prop} {Q:Act→World→Prop} {K K':List Fr} {m m':Nat} {e e':SE} {L L' Lv:List Ch} {cf cf' cf1 cf2:xR} {o:Oper}
def roA:List Ch→List Ch
  | []=>[]
  | .box n cs :: L=>.ro n cs :: roA L
  | .ro n cs :: L=>.ro n cs :: roA L
  | _ :: L=>.no :: roA L
theorem aOK{x:Ch}:∀{L:List Ch},x∈roA L→x=.no∨∃n cs,x=.ro n cs∧(.box n cs∈L∨.ro n cs∈L)
  | [],h=>by cases h
  | y :: L, h => by
    have ih:x∈roA L→x=.no∨∃n cs,x=.ro n cs∧(.box n cs∈y :: L∨.ro n cs∈y :: L):=fun h=>by
      rcases aOK h with h | ⟨n,cs,h1,h2⟩
      · exact .inl h
      · exact .inr ⟨n,cs,h1,h2.imp (jV _) (jV _)⟩
    cases y <;> simp only [roA,iA] at h <;> rcases h with h | h
    all_goals first
      | exact ih h
      | exact .inl h
      | exact .inr ⟨_,_,h,by simp⟩
theorem aYJ{w:World}{B:Bl}(hS:mW c w B L):mW (cW w) w B (roA L):=by
  obtain⟨⟨R,s1,s2⟩,s0⟩:=hS
  have facts:∀x∈roA L,∃(f:Fact),f.P (NL w) w∧(∀R',f∈R'→roF B R' x)∧jW B x=GL:=by
    intro x hx
    rcases aOK hx with rfl | ⟨n,cs,rfl,h | h⟩
    · exact⟨AS [.slice none 0 0] ([]:List Int),⟨none,0,rfl,iW _,xL _,.inl rfl⟩,fun _ _=>trivial,rfl⟩
    · obtain⟨i,hi⟩:=YJ h
      obtain⟨F,b,z,vs,g1,g2,g3⟩:=s1.chunk (ch:=NN B n cs) i (by simp [hi,jW])
      refine⟨fAt b z vs,⟨g3.1,fun o ho=>?_⟩,fun R' hR=>⟨b,z,vs,g1,g2,hR⟩,rfl⟩
      have hf:F b o:=(g3.2.2 b o).2 ho
      exact Chunk.lt (P4 b z vs) g3 hf
    · obtain⟨b,z,vs,g1,g2,g3⟩:=s2 _ h
      obtain⟨i,hi⟩:=YJ g3
      exact⟨fAt b z vs,s1.fact i hi,fun R' hR=>⟨b,z,vs,g1,g2,hR⟩,rfl⟩
  have build:∀M:List Ch,(∀x∈M,x∈roA L)→∃R':List Fact,(∀f∈R',f.P (NL w) w)∧(∀x∈M,roF B R' x)∧M.map (jW B)=List.replicate M.length GL:=by
    intro M
    induction M with
    | nil=>exact fun _=>⟨[],by simp,by simp,rfl⟩
    | cons x M ih =>
      intro hM
      obtain⟨R',h1,h2,h3⟩:=ih fun y hy=>hM y (jV _ hy)
      obtain⟨f,f1,f2,f3⟩:=facts x (hM x (by simp))
      refine⟨f :: R',fun g hg=>?_,fun y hy=>?_,by simp [f3,h3,List.replicate_succ]⟩
      · rcases iA.1 hg with hg | hg
        · subst hg;exact f1
        · exact h1 g hg
      · rcases iA.1 hy with hy | hy
        · subst hy;exact f2 _ (by simp)
        · exact QA (fun g hg=>jV _ hg) (h2 y hy)
  obtain⟨R',h1,h2,h3⟩:=build (roA L) fun _ h=>h
  refine⟨⟨R',?_,h2⟩,fun _ _ h=>h⟩
  rw [h3]
  have h4:St (cW w) w [] R':=St.enter h1
  generalize (roA L).length=k
  induction k with
  | zero=>exact h4
  | succ k ih =>
    rw [List.replicate_succ']
    exact St.more (ch:=GL) ih (gA.refl _ _) ⟨F0,fun _ _ h=>h,fun _ _ h=>h.elim⟩
theorem aMN{c2:Ctx}{B2:Bl}{N1:Act→World→Prop}{Kb:List Fr}(hN:∀a w,N1 a w→NK (.mk P T hT n c2 B2 N X Q) Kb a w):∀(Ka:List Fr),(∀a w,NK (.mk P T hT n c B0 N1 (fun _ _ _=>False) (fun _ _=>False)) Ka a w→NK (.mk P T hT n c2 B2 N X Q) (Ka++Kb) a w)∧(∀i a w,XK (.mk P T hT n c B0 N1 (fun _ _ _=>False) (fun _ _=>False)) Ka i a w→XK (.mk P T hT n c2 B2 N X Q) (Ka++Kb) i a w)
  | []=>⟨hN,fun _ _ _ h=>h.elim⟩
  | .s y :: Ka => by
    obtain⟨h1,h2⟩:=aMN hN Ka
    exact⟨fun a w h=>CW.mono (show CW P y (NK (.mk P T hT n c B0 N1 (fun _ _ _=>False) (fun _ _=>False)) Ka) (XK (.mk P T hT n c B0 N1 (fun _ _ _=>False) (fun _ _=>False)) Ka) (fun _ _=>False) a w from h) h1 h2 (fun _ _ h=>h.elim),h2⟩
  | .k id :: Ka => by
    obtain⟨h1,h2⟩:=aMN hN Ka
    refine⟨h1,fun i a w h=>?_⟩
    simp only [XK,YP,YI] at h ⊢
    split
    · rename_i hi;rw [if_pos hi] at h;exact h1 a w h
    · rename_i hi;rw [if_neg hi] at h;exact h2 i a w h
theorem a1E{β:Type}{q:β}{zz:Option β}{y:Code}(j:Nat)(Fj:Bool→Option β)(ks:List Nat)(v:Nat)(hs:SH (kA T n K cf m e L)=some (K',.c y,m',e',L'))
    (k1:∀{w:World} {B1:Bl},B1.length=m'→HS c w L'→W (G (.mk P T hT n (cW w) B1 (JP n (cW w) B1 (fun p=>Fj p=some q) m' (fun p (_:Unit)=>[(v,.b p)]++kp e' ks) (fun _ _=>[])) (fun _ _ _=>False) (fun _ _=>False)) (K'.take j) m' e' (roA L') (.c y)) q zz)
    (k2:∀p,W (G (.mk P T hT n c B0 N X Q) (K'.drop j) m' ([(v,.b p)]++kp e' ks) L' .n) q (Fj p)):W (G (.mk P T hT n c B0 N X Q) K m e L cf) q zz:=fun hF=>by
  refine go hs ?_
  rw [←UO j K']
  intro a w ⟨B,hm,hA,hS⟩
  have hg:=k1 (w:=w) (B1:=B0++B) hm ⟨_,hS⟩ hF a w ⟨[],by simpa using hm,by simpa using hA,by simpa using aYJ hS⟩
  have hN:∀a' w',JP n (cW w) (B0++B) (fun p=>Fj p=some q) m' (fun p (_:Unit)=>[(v,.b p)]++kp e' ks) (fun _ _=>[]) a' w'→NK (.mk P T hT n c B0 N X Q) (K'.drop j) a' w':=fun a' w' ⟨p,u,h1,B',hm',hA',hS'⟩=>by
    have hB:B'=[]:=by
      have:(B0++B++B').length=(B0++B).length:=hm'.trans hm.symm
      rw [G9 (bs:=B')] at this
      exact xY (by omega)
    subst hB
    rw [FT] at hA'
    obtain⟨⟨R',s1,_⟩,_⟩:=hS'
    exact k2 p h1 a' w' ⟨B,hm,hA',hS.aMC s1.keep⟩
  obtain⟨h1,h2⟩:=aMN (c:=cW w) (B0:=B0++B) (c2:=c) (B2:=B0) (N:=N) (X:=X) (T:=T) (hT:=hT) (n:=n) (P:=P) (Kb:=K'.drop j) (N1:=JP n (cW w) (B0++B) (fun p=>Fj p=some q) m' (fun p (_:Unit)=>[(v,.b p)]++kp e' ks) (fun _ _=>[])) (Q:=Q) hN (K'.take j)
  exact CW.mono hg h1 h2 (fun _ _ h=>h.elim)
theorem jnV{π υ α:Type}{eq:π→Prop}{mj b0:Nat}{ej:π→υ→SE}{Lj:π→υ→List Ch}{p:π}{q:α}{zz:Option α}(hb:B0.length=b0)(u:υ)(is:List Nat)(hz:(zz=some q)=eq p)(h:aMK is b0 mj (ej p u) (Lj p u) (kA T n K cf m e L)=some (ej p u,Lj p u)):W (G (.mk P T hT n c B0 (JP n c B0 eq mj ej Lj) X Q) K m e L cf) q zz:=by
  subst hb;exact kZ u is hz h
end
end Go.Gv
end
noncomputable section
namespace Go.Gv
structure gQ where
  b:List UInt8
  i:Int
  h:Int
  deriving DecidableEq,Inhabited
instance:aI gQ:=aI.via (fun d=>(d.b,d.i,d.h))
instance:Fits gQ:=Fits.via (fun d=>(d.b,d.i,d.h))
structure eU where
  Kind:Int
  Cell:Int
  dU:Int
  eH:Int
  deriving DecidableEq,Inhabited
instance:aI eU:=aI.via (fun d=>(d.Kind,d.Cell,d.dU,d.eH))
instance:Fits eU:=Fits.via (fun d=>(d.Kind,d.Cell,d.dU,d.eH))
theorem aS0{S:cV}{w:World}{cs:List Value}{d:eU}(h:aI.rd S w cs d):cs=[.int .i64 (d.Kind),.int .i64 (d.Cell),.int .i64 (d.dU),.int .i64 (d.eH)]:=by
  obtain⟨c0,r0,e0,h0,n0⟩:=h
  have q0:c0=[_]:=h0
  obtain⟨c1,r1,e1,h1,n1⟩:=n0
  have q1:c1=[_]:=h1
  obtain⟨c2,r2,e2,h2,n2⟩:=n1
  have q2:c2=[_]:=h2
  have q3:r2=[_]:=n2
  exact by rw [e0,e1,e2,q0,q1,q2,q3];rfl
theorem aMO{S:cV}{w:World}(d:eU):aI.rd S w [.int .i64 (d.Kind),.int .i64 (d.Cell),.int .i64 (d.dU),.int .i64 (d.eH)] d:=⟨[.int .i64 (d.Kind)],[.int .i64 (d.Cell),.int .i64 (d.dU),.int .i64 (d.eH)],rfl,rfl,⟨[.int .i64 (d.Cell)],[.int .i64 (d.dU),.int .i64 (d.eH)],rfl,rfl,⟨[.int .i64 (d.dU)],[.int .i64 (d.eH)],rfl,rfl,rfl⟩⟩⟩
instance:Flat eU:=⟨fun h=>Flat.own_of (α:=Int×Int×Int×Int) h,fun h=>Flat.no (α:=Int×Int×Int×Int) h⟩
theorem aYK(d:eU):OP [.int .i64 (d.Kind),.int .i64 (d.Cell),.int .i64 (d.dU),.int .i64 (d.eH)] d []:=(show OP (α:=Int×Int×Int×Int) _ (d.Kind,d.Cell,d.dU,d.eH) _ from (fA (c1:=[.int .i64 (d.Kind)]) (c2:=[.int .i64 (d.Cell),.int .i64 (d.dU),.int .i64 (d.eH)]) (A:=[]) (B:=[]) (fT rfl) (fA (c1:=[.int .i64 (d.Cell)]) (c2:=[.int .i64 (d.dU),.int .i64 (d.eH)]) (A:=[]) (B:=[]) (fT rfl) (fA (c1:=[.int .i64 (d.dU)]) (c2:=[.int .i64 (d.eH)]) (A:=[]) (B:=[]) (fT rfl) (fT rfl) rfl) rfl) rfl))
structure Queue where
  jJ:List eU
  deriving DecidableEq,Inhabited
instance:aI Queue:=aI.via (fun d=>(d.jJ))
instance:Fits Queue:=Fits.via (fun d=>(d.jJ))
theorem aS1{S:cV}{w:World}{cs:List Value}{d:Queue}(h:aI.rd S w cs d):∃v0:Value,cs=[v0]∧aI.rd S w [v0] d.jJ:=by
  obtain⟨u0,q0⟩:=gN h
  rw [q0] at h
  exact⟨u0,q0,h⟩
theorem aS2(d:Queue){v0:Value}:OP [v0] d [cJ [v0] d.jJ]:=(show OP (α:=(List eU)) _ (d.jJ) _ from BK)
structure fQ where
  cE:List Queue
  aY:List Int
  deriving DecidableEq,Inhabited
instance:aI fQ:=aI.via (fun d=>(d.cE,d.aY))
instance:Fits fQ:=Fits.via (fun d=>(d.cE,d.aY))
structure aE where
  Bytes:List Int
  Class:List Int
  deriving DecidableEq,Inhabited
instance:aI aE:=aI.via (fun d=>(d.Bytes,d.Class))
instance:Fits aE:=Fits.via (fun d=>(d.Bytes,d.Class))
theorem aVT{S:cV}{w:World}{cs:List Value}{d:aE}(h:aI.rd S w cs d):∃v0 v1:Value,cs=[v0,v1]∧aI.rd S w [v0] d.Bytes∧aI.rd S w [v1] d.Class:=by
  obtain⟨c0,r0,e0,h0,n0⟩:=h
  obtain⟨u0,q0⟩:=gN h0
  rw [q0] at h0
  obtain⟨u1,q1⟩:=gN n0
  rw [q1] at n0
  exact⟨u0,u1,by rw [e0,q0,q1];rfl,h0,n0⟩
theorem aVU(d:aE){v0:Value}{v1:Value}:OP [v0,v1] d [cJ [v0] d.Bytes,cJ [v1] d.Class]:=(show OP (α:=(List Int)×(List Int)) _ (d.Bytes,d.Class) _ from (fA (c1:=[v0]) (c2:=[v1]) (A:=[cJ [v0] d.Bytes]) (B:=[cJ [v1] d.Class]) BK BK rfl))
structure aK where
  aM:List Int
  deriving DecidableEq,Inhabited
instance:aI aK:=aI.via (fun d=>(d.aM))
instance:Fits aK:=Fits.via (fun d=>(d.aM))
theorem aKL{S:cV}{w:World}{cs:List Value}{d:aK}(h:aI.rd S w cs d):∃v0:Value,cs=[v0]∧aI.rd S w [v0] d.aM:=by
  obtain⟨u0,q0⟩:=gN h
  rw [q0] at h
  exact⟨u0,q0,h⟩
theorem BN(d:aK){v0:Value}:OP [v0] d [cJ [v0] d.aM]:=(show OP (α:=(List Int)) _ (d.aM) _ from BK)
theorem _root_.Go.Gv.St.aS3{c:Ctx}{L:List Chunk}{R:List Fact}{w:World}{s:Value}{l:List aK}{i:Nat}{x:aK}(h:St c w L R)(j:Nat)(hj:R[j]?=some (AS [s] l))(hi:l[i]?=some x):∃v0:Value,cD w (P0 s) (PU 1 i s) [v0]∧St c w L (R ++ [AS [v0] x.aM]):=by
  obtain⟨S,hS,hk⟩:=h.aQS hj
  obtain⟨ec,h1,h2⟩:=aJQ hS hi
  obtain⟨v0,q,q0⟩:=aKL h2
  rw [q] at h1
  exact⟨v0,h1,hk _ (by intro f hf;simp only [iA,UN,or_false] at hf;subst hf;exact q0)⟩
structure aB where
  Global:List aK
  Own:List aK
  deriving DecidableEq,Inhabited
instance:aI aB:=aI.via (fun d=>(d.Global,d.Own))
instance:Fits aB:=Fits.via (fun d=>(d.Global,d.Own))
theorem aS4{S:cV}{w:World}{cs:List Value}{d:aB}(h:aI.rd S w cs d):∃v0 v1:Value,cs=[v0,v1]∧aI.rd S w [v0] d.Global∧aI.rd S w [v1] d.Own:=by
  obtain⟨c0,r0,e0,h0,n0⟩:=h
  obtain⟨u0,q0⟩:=gN h0
  rw [q0] at h0
  obtain⟨u1,q1⟩:=gN n0
  rw [q1] at n0
  exact⟨u0,u1,by rw [e0,q0,q1];rfl,h0,n0⟩
theorem aS5(d:aB){v0:Value}{v1:Value}:OP [v0,v1] d [cJ [v0] d.Global,cJ [v1] d.Own]:=(show OP (α:=(List aK)×(List aK)) _ (d.Global,d.Own) _ from (fA (c1:=[v0]) (c2:=[v1]) (A:=[cJ [v0] d.Global]) (B:=[cJ [v1] d.Own]) BK BK rfl))
structure Mem where
  aE:aE
  aB:aB
  deriving DecidableEq,Inhabited
instance:aI Mem:=aI.via (fun d=>(d.aE,d.aB))
instance:Fits Mem:=Fits.via (fun d=>(d.aE,d.aB))
theorem aYL{S:cV}{w:World}{cs:List Value}{d:Mem}(h:aI.rd S w cs d):∃v0 v1 v2 v3:Value,cs=[v0,v1,v2,v3]∧aI.rd S w [v0] d.aE.Bytes∧aI.rd S w [v1] d.aE.Class∧aI.rd S w [v2] d.aB.Global∧aI.rd S w [v3] d.aB.Own:=by
  obtain⟨c0,r0,e0,h0,n0⟩:=h
  obtain⟨u0_0,u0_1,q0,hq0_0,hq0_1⟩:=aVT h0
  obtain⟨u1_0,u1_1,q1,hq1_0,hq1_1⟩:=aS4 n0
  exact⟨u0_0,u0_1,u1_0,u1_1,by rw [e0,q0,q1];rfl,hq0_0,hq0_1,hq1_0,hq1_1⟩
theorem aYM(d:Mem){v0:Value}{v1:Value}{v2:Value}{v3:Value}:OP [v0,v1,v2,v3] d [cJ [v0] d.aE.Bytes,cJ [v1] d.aE.Class,cJ [v2] d.aB.Global,cJ [v3] d.aB.Own]:=(show OP (α:=aE×aB) _ (d.aE,d.aB) _ from (fA (c1:=[v0,v1]) (c2:=[v2,v3]) (A:=[cJ [v0] d.aE.Bytes,cJ [v1] d.aE.Class]) (B:=[cJ [v2] d.aB.Global,cJ [v3] d.aB.Own]) (aVU _) (aS5 _) rfl))
structure o5 where
  On:Bool
  aL:Int
  eW:Bool
  Seen:Int
  deriving DecidableEq,Inhabited
instance:aI o5:=aI.via (fun d=>(d.On,d.aL,d.eW,d.Seen))
instance:Fits o5:=Fits.via (fun d=>(d.On,d.aL,d.eW,d.Seen))
theorem aYN{S:cV}{w:World}{cs:List Value}{d:o5}(h:aI.rd S w cs d):cs=[.bool (d.On),.int .i64 (d.aL),.bool (d.eW),.int .i64 (d.Seen)]:=by
  obtain⟨c0,r0,e0,h0,n0⟩:=h
  have q0:c0=[_]:=h0
  obtain⟨c1,r1,e1,h1,n1⟩:=n0
  have q1:c1=[_]:=h1
  obtain⟨c2,r2,e2,h2,n2⟩:=n1
  have q2:c2=[_]:=h2
  have q3:r2=[_]:=n2
  exact by rw [e0,e1,e2,q0,q1,q2,q3];rfl
theorem aS6{S:cV}{w:World}(d:o5):aI.rd S w [.bool (d.On),.int .i64 (d.aL),.bool (d.eW),.int .i64 (d.Seen)] d:=⟨[.bool (d.On)],[.int .i64 (d.aL),.bool (d.eW),.int .i64 (d.Seen)],rfl,rfl,⟨[.int .i64 (d.aL)],[.bool (d.eW),.int .i64 (d.Seen)],rfl,rfl,⟨[.bool (d.eW)],[.int .i64 (d.Seen)],rfl,rfl,rfl⟩⟩⟩
instance:Flat o5:=⟨fun h=>Flat.own_of (α:=Bool×Int×Bool×Int) h,fun h=>Flat.no (α:=Bool×Int×Bool×Int) h⟩
theorem aYO(d:o5):OP [.bool (d.On),.int .i64 (d.aL),.bool (d.eW),.int .i64 (d.Seen)] d []:=(show OP (α:=Bool×Int×Bool×Int) _ (d.On,d.aL,d.eW,d.Seen) _ from (fA (c1:=[.bool (d.On)]) (c2:=[.int .i64 (d.aL),.bool (d.eW),.int .i64 (d.Seen)]) (A:=[]) (B:=[]) (fT rfl) (fA (c1:=[.int .i64 (d.aL)]) (c2:=[.bool (d.eW),.int .i64 (d.Seen)]) (A:=[]) (B:=[]) (fT rfl) (fA (c1:=[.bool (d.eW)]) (c2:=[.int .i64 (d.Seen)]) (A:=[]) (B:=[]) (fT rfl) (fT rfl) rfl) rfl) rfl))
structure aH where
  aL:Int
  bO:List o5
  deriving DecidableEq,Inhabited
instance:aI aH:=aI.via (fun d=>(d.aL,d.bO))
instance:Fits aH:=Fits.via (fun d=>(d.aL,d.bO))
theorem aS7{S:cV}{w:World}{cs:List Value}{d:aH}(h:aI.rd S w cs d):∃v0:Value,cs=[.int .i64 (d.aL),v0]∧aI.rd S w [v0] d.bO:=by
  obtain⟨c0,r0,e0,h0,n0⟩:=h
  have q0:c0=[_]:=h0
  obtain⟨u1,q1⟩:=gN n0
  rw [q1] at n0
  exact⟨u1,by rw [e0,q0,q1];rfl,n0⟩
theorem aS8(d:aH){v0:Value}:OP [.int .i64 (d.aL),v0] d [cJ [v0] d.bO]:=(show OP (α:=Int×(List o5)) _ (d.aL,d.bO) _ from (fA (c1:=[.int .i64 (d.aL)]) (c2:=[v0]) (A:=[]) (B:=[cJ [v0] d.bO]) (fT rfl) BK rfl))
structure c9 where
  Handle:Int
  aL:Int
  deriving DecidableEq,Inhabited
instance:aI c9:=aI.via (fun d=>(d.Handle,d.aL))
instance:Fits c9:=Fits.via (fun d=>(d.Handle,d.aL))
theorem aOL{S:cV}{w:World}{cs:List Value}{d:c9}(h:aI.rd S w cs d):cs=[.int .i64 (d.Handle),.int .i64 (d.aL)]:=by
  obtain⟨c0,r0,e0,h0,n0⟩:=h
  have q0:c0=[_]:=h0
  have q1:r0=[_]:=n0
  exact by rw [e0,q0,q1];rfl
theorem aVV{S:cV}{w:World}(d:c9):aI.rd S w [.int .i64 (d.Handle),.int .i64 (d.aL)] d:=⟨[.int .i64 (d.Handle)],[.int .i64 (d.aL)],rfl,rfl,rfl⟩
instance:Flat c9:=⟨fun h=>Flat.own_of (α:=Int×Int) h,fun h=>Flat.no (α:=Int×Int) h⟩
theorem aVW(d:c9):OP [.int .i64 (d.Handle),.int .i64 (d.aL)] d []:=(show OP (α:=Int×Int) _ (d.Handle,d.aL) _ from (fA (c1:=[.int .i64 (d.Handle)]) (c2:=[.int .i64 (d.aL)]) (A:=[]) (B:=[]) (fT rfl) (fT rfl) rfl))
theorem aVX{S:cV}{w:World}{s:Value}{l:List c9}{i:Nat}{x:c9}(h:aI.rd S w [s] l)(hi:l[i]?=some x):cD w (P0 s) (PU 2 i s) [.int .i64 (x.Handle),.int .i64 (x.aL)]:=by
  obtain⟨ec,h1,h2⟩:=aJQ h hi
  rw [aOL h2] at h1;exact h1
structure aS where
  Rows:List c9
  deriving DecidableEq,Inhabited
instance:aI aS:=aI.via (fun d=>(d.Rows))
instance:Fits aS:=Fits.via (fun d=>(d.Rows))
theorem aKM{S:cV}{w:World}{cs:List Value}{d:aS}(h:aI.rd S w cs d):∃v0:Value,cs=[v0]∧aI.rd S w [v0] d.Rows:=by
  obtain⟨u0,q0⟩:=gN h
  rw [q0] at h
  exact⟨u0,q0,h⟩
theorem aCM(d:aS){v0:Value}:OP [v0] d [cJ [v0] d.Rows]:=(show OP (α:=(List c9)) _ (d.Rows) _ from BK)
theorem _root_.Go.Gv.St.aKN{c:Ctx}{L:List Chunk}{R:List Fact}{w:World}{s:Value}{l:List aS}{i:Nat}{x:aS}(h:St c w L R)(j:Nat)(hj:R[j]?=some (AS [s] l))(hi:l[i]?=some x):∃v0:Value,cD w (P0 s) (PU 1 i s) [v0]∧St c w L (R ++ [AS [v0] x.Rows]):=by
  obtain⟨S,hS,hk⟩:=h.aQS hj
  obtain⟨ec,h1,h2⟩:=aJQ hS hi
  obtain⟨v0,q,q0⟩:=aKM h2
  rw [q] at h1
  exact⟨v0,h1,hk _ (by intro f hf;simp only [iA,UN,or_false] at hf;subst hf;exact q0)⟩
structure aD where
  Mem:Mem
  aH:aH
  aU:List aS
  mA:List Int
  deriving DecidableEq,Inhabited
instance:aI aD:=aI.via (fun d=>(d.Mem,d.aH,d.aU,d.mA))
instance:Fits aD:=Fits.via (fun d=>(d.Mem,d.aH,d.aU,d.mA))
theorem aVY{S:cV}{w:World}{cs:List Value}{d:aD}(h:aI.rd S w cs d):∃v0 v1 v2 v3 v4 v5 v6:Value,cs=[v0,v1,v2,v3,.int .i64 (d.aH.aL),v4,v5,v6]∧aI.rd S w [v0] d.Mem.aE.Bytes∧aI.rd S w [v1] d.Mem.aE.Class∧aI.rd S w [v2] d.Mem.aB.Global∧aI.rd S w [v3] d.Mem.aB.Own∧aI.rd S w [v4] d.aH.bO∧aI.rd S w [v5] d.aU∧aI.rd S w [v6] d.mA:=by
  obtain⟨c0,r0,e0,h0,n0⟩:=h
  obtain⟨u0_0,u0_1,u0_2,u0_3,q0,hq0_0,hq0_1,hq0_2,hq0_3⟩:=aYL h0
  obtain⟨c1,r1,e1,h1,n1⟩:=n0
  obtain⟨u1_0,q1,hq1_0⟩:=aS7 h1
  obtain⟨c2,r2,e2,h2,n2⟩:=n1
  obtain⟨u2,q2⟩:=gN h2
  rw [q2] at h2
  obtain⟨u3,q3⟩:=gN n2
  rw [q3] at n2
  exact⟨u0_0,u0_1,u0_2,u0_3,u1_0,u2,u3,by rw [e0,e1,e2,q0,q1,q2,q3];rfl,hq0_0,hq0_1,hq0_2,hq0_3,hq1_0,h2,n2⟩
theorem aVZ(d:aD){v0:Value}{v1:Value}{v2:Value}{v3:Value}{v4:Value}{v5:Value}{v6:Value}:OP [v0,v1,v2,v3,.int .i64 (d.aH.aL),v4,v5,v6] d [cJ [v0] d.Mem.aE.Bytes,cJ [v1] d.Mem.aE.Class,cJ [v2] d.Mem.aB.Global,cJ [v3] d.Mem.aB.Own,cJ [v4] d.aH.bO,cJ [v5] d.aU,cJ [v6] d.mA]:=(show OP (α:=Mem×aH×(List aS)×(List Int)) _ (d.Mem,d.aH,d.aU,d.mA) _ from (fA (c1:=[v0,v1,v2,v3]) (c2:=[.int .i64 (d.aH.aL),v4,v5,v6]) (A:=[cJ [v0] d.Mem.aE.Bytes,cJ [v1] d.Mem.aE.Class,cJ [v2] d.Mem.aB.Global,cJ [v3] d.Mem.aB.Own]) (B:=[cJ [v4] d.aH.bO,cJ [v5] d.aU,cJ [v6] d.mA]) (aYM _) (fA (c1:=[.int .i64 (d.aH.aL),v4]) (c2:=[v5,v6]) (A:=[cJ [v4] d.aH.bO]) (B:=[cJ [v5] d.aU,cJ [v6] d.mA]) (aS8 _) (fA (c1:=[v5]) (c2:=[v6]) (A:=[cJ [v5] d.aU]) (B:=[cJ [v6] d.mA]) BK BK rfl) rfl) rfl))
structure Sub where
  Kind:Int
  A:Int
  Pc:Int
  E:Int
  Row:Int
  B:Int
  H:Int
  Out:Int
  Code:Int
  cS:Bool
  deriving DecidableEq,Inhabited
instance:aI Sub:=aI.via (fun d=>(d.Kind,d.A,d.Pc,d.E,d.Row,d.B,d.H,d.Out,d.Code,d.cS))
instance:Fits Sub:=Fits.via (fun d=>(d.Kind,d.A,d.Pc,d.E,d.Row,d.B,d.H,d.Out,d.Code,d.cS))
theorem aYP{S:cV}{w:World}{cs:List Value}{d:Sub}(h:aI.rd S w cs d):cs=[.int .i64 (d.Kind),.int .i64 (d.A),.int .i64 (d.Pc),.int .i64 (d.E),.int .i64 (d.Row),.int .i64 (d.B),.int .i64 (d.H),.int .i64 (d.Out),.int .i64 (d.Code),.bool (d.cS)]:=by
  obtain⟨c0,r0,e0,h0,n0⟩:=h
  have q0:c0=[_]:=h0
  obtain⟨c1,r1,e1,h1,n1⟩:=n0
  have q1:c1=[_]:=h1
  obtain⟨c2,r2,e2,h2,n2⟩:=n1
  have q2:c2=[_]:=h2
  obtain⟨c3,r3,e3,h3,n3⟩:=n2
  have q3:c3=[_]:=h3
  obtain⟨c4,r4,e4,h4,n4⟩:=n3
  have q4:c4=[_]:=h4
  obtain⟨c5,r5,e5,h5,n5⟩:=n4
  have q5:c5=[_]:=h5
  obtain⟨c6,r6,e6,h6,n6⟩:=n5
  have q6:c6=[_]:=h6
  obtain⟨c7,r7,e7,h7,n7⟩:=n6
  have q7:c7=[_]:=h7
  obtain⟨c8,r8,e8,h8,n8⟩:=n7
  have q8:c8=[_]:=h8
  have q9:r8=[_]:=n8
  exact by rw [e0,e1,e2,e3,e4,e5,e6,e7,e8,q0,q1,q2,q3,q4,q5,q6,q7,q8,q9];rfl
theorem aS9{S:cV}{w:World}(d:Sub):aI.rd S w [.int .i64 (d.Kind),.int .i64 (d.A),.int .i64 (d.Pc),.int .i64 (d.E),.int .i64 (d.Row),.int .i64 (d.B),.int .i64 (d.H),.int .i64 (d.Out),.int .i64 (d.Code),.bool (d.cS)] d:=⟨[.int .i64 (d.Kind)],[.int .i64 (d.A),.int .i64 (d.Pc),.int .i64 (d.E),.int .i64 (d.Row),.int .i64 (d.B),.int .i64 (d.H),.int .i64 (d.Out),.int .i64 (d.Code),.bool (d.cS)],rfl,rfl,⟨[.int .i64 (d.A)],[.int .i64 (d.Pc),.int .i64 (d.E),.int .i64 (d.Row),.int .i64 (d.B),.int .i64 (d.H),.int .i64 (d.Out),.int .i64 (d.Code),.bool (d.cS)],rfl,rfl,⟨[.int .i64 (d.Pc)],[.int .i64 (d.E),.int .i64 (d.Row),.int .i64 (d.B),.int .i64 (d.H),.int .i64 (d.Out),.int .i64 (d.Code),.bool (d.cS)],rfl,rfl,⟨[.int .i64 (d.E)],[.int .i64 (d.Row),.int .i64 (d.B),.int .i64 (d.H),.int .i64 (d.Out),.int .i64 (d.Code),.bool (d.cS)],rfl,rfl,⟨[.int .i64 (d.Row)],[.int .i64 (d.B),.int .i64 (d.H),.int .i64 (d.Out),.int .i64 (d.Code),.bool (d.cS)],rfl,rfl,⟨[.int .i64 (d.B)],[.int .i64 (d.H),.int .i64 (d.Out),.int .i64 (d.Code),.bool (d.cS)],rfl,rfl,⟨[.int .i64 (d.H)],[.int .i64 (d.Out),.int .i64 (d.Code),.bool (d.cS)],rfl,rfl,⟨[.int .i64 (d.Out)],[.int .i64 (d.Code),.bool (d.cS)],rfl,rfl,⟨[.int .i64 (d.Code)],[.bool (d.cS)],rfl,rfl,rfl⟩⟩⟩⟩⟩⟩⟩⟩⟩
instance:Flat Sub:=⟨fun h=>Flat.own_of (α:=Int×Int×Int×Int×Int×Int×Int×Int×Int×Bool) h,fun h=>Flat.no (α:=Int×Int×Int×Int×Int×Int×Int×Int×Int×Bool) h⟩
structure bR where
  fV:Bool
  Op:eU
  aJ:Int
  Pc:Int
  Sub:Sub
  H:Int
  Old:Int
  eH:Int
  Code:Int
  deriving DecidableEq,Inhabited
instance:aI bR:=aI.via (fun d=>(d.fV,d.Op,d.aJ,d.Pc,d.Sub,d.H,d.Old,d.eH,d.Code))
instance:Fits bR:=Fits.via (fun d=>(d.fV,d.Op,d.aJ,d.Pc,d.Sub,d.H,d.Old,d.eH,d.Code))
theorem aYQ{S:cV}{w:World}{cs:List Value}{d:bR}(h:aI.rd S w cs d):cs=[.bool (d.fV),.int .i64 (d.Op.Kind),.int .i64 (d.Op.Cell),.int .i64 (d.Op.dU),.int .i64 (d.Op.eH),.int .i64 (d.aJ),.int .i64 (d.Pc),.int .i64 (d.Sub.Kind),.int .i64 (d.Sub.A),.int .i64 (d.Sub.Pc),.int .i64 (d.Sub.E),.int .i64 (d.Sub.Row),.int .i64 (d.Sub.B),.int .i64 (d.Sub.H),.int .i64 (d.Sub.Out),.int .i64 (d.Sub.Code),.bool (d.Sub.cS),.int .i64 (d.H),.int .i64 (d.Old),.int .i64 (d.eH),.int .i64 (d.Code)]:=by
  obtain⟨c0,r0,e0,h0,n0⟩:=h
  have q0:c0=[_]:=h0
  obtain⟨c1,r1,e1,h1,n1⟩:=n0
  have q1:=aS0 h1
  obtain⟨c2,r2,e2,h2,n2⟩:=n1
  have q2:c2=[_]:=h2
  obtain⟨c3,r3,e3,h3,n3⟩:=n2
  have q3:c3=[_]:=h3
  obtain⟨c4,r4,e4,h4,n4⟩:=n3
  have q4:=aYP h4
  obtain⟨c5,r5,e5,h5,n5⟩:=n4
  have q5:c5=[_]:=h5
  obtain⟨c6,r6,e6,h6,n6⟩:=n5
  have q6:c6=[_]:=h6
  obtain⟨c7,r7,e7,h7,n7⟩:=n6
  have q7:c7=[_]:=h7
  have q8:r7=[_]:=n7
  exact by rw [e0,e1,e2,e3,e4,e5,e6,e7,q0,q1,q2,q3,q4,q5,q6,q7,q8];rfl
theorem tM{S:cV}{w:World}(d:bR):aI.rd S w [.bool (d.fV),.int .i64 (d.Op.Kind),.int .i64 (d.Op.Cell),.int .i64 (d.Op.dU),.int .i64 (d.Op.eH),.int .i64 (d.aJ),.int .i64 (d.Pc),.int .i64 (d.Sub.Kind),.int .i64 (d.Sub.A),.int .i64 (d.Sub.Pc),.int .i64 (d.Sub.E),.int .i64 (d.Sub.Row),.int .i64 (d.Sub.B),.int .i64 (d.Sub.H),.int .i64 (d.Sub.Out),.int .i64 (d.Sub.Code),.bool (d.Sub.cS),.int .i64 (d.H),.int .i64 (d.Old),.int .i64 (d.eH),.int .i64 (d.Code)] d:=⟨[.bool (d.fV)],[.int .i64 (d.Op.Kind),.int .i64 (d.Op.Cell),.int .i64 (d.Op.dU),.int .i64 (d.Op.eH),.int .i64 (d.aJ),.int .i64 (d.Pc),.int .i64 (d.Sub.Kind),.int .i64 (d.Sub.A),.int .i64 (d.Sub.Pc),.int .i64 (d.Sub.E),.int .i64 (d.Sub.Row),.int .i64 (d.Sub.B),.int .i64 (d.Sub.H),.int .i64 (d.Sub.Out),.int .i64 (d.Sub.Code),.bool (d.Sub.cS),.int .i64 (d.H),.int .i64 (d.Old),.int .i64 (d.eH),.int .i64 (d.Code)],rfl,rfl,⟨[.int .i64 (d.Op.Kind),.int .i64 (d.Op.Cell),.int .i64 (d.Op.dU),.int .i64 (d.Op.eH)],[.int .i64 (d.aJ),.int .i64 (d.Pc),.int .i64 (d.Sub.Kind),.int .i64 (d.Sub.A),.int .i64 (d.Sub.Pc),.int .i64 (d.Sub.E),.int .i64 (d.Sub.Row),.int .i64 (d.Sub.B),.int .i64 (d.Sub.H),.int .i64 (d.Sub.Out),.int .i64 (d.Sub.Code),.bool (d.Sub.cS),.int .i64 (d.H),.int .i64 (d.Old),.int .i64 (d.eH),.int .i64 (d.Code)],rfl,(aMO _),⟨[.int .i64 (d.aJ)],[.int .i64 (d.Pc),.int .i64 (d.Sub.Kind),.int .i64 (d.Sub.A),.int .i64 (d.Sub.Pc),.int .i64 (d.Sub.E),.int .i64 (d.Sub.Row),.int .i64 (d.Sub.B),.int .i64 (d.Sub.H),.int .i64 (d.Sub.Out),.int .i64 (d.Sub.Code),.bool (d.Sub.cS),.int .i64 (d.H),.int .i64 (d.Old),.int .i64 (d.eH),.int .i64 (d.Code)],rfl,rfl,⟨[.int .i64 (d.Pc)],[.int .i64 (d.Sub.Kind),.int .i64 (d.Sub.A),.int .i64 (d.Sub.Pc),.int .i64 (d.Sub.E),.int .i64 (d.Sub.Row),.int .i64 (d.Sub.B),.int .i64 (d.Sub.H),.int .i64 (d.Sub.Out),.int .i64 (d.Sub.Code),.bool (d.Sub.cS),.int .i64 (d.H),.int .i64 (d.Old),.int .i64 (d.eH),.int .i64 (d.Code)],rfl,rfl,⟨[.int .i64 (d.Sub.Kind),.int .i64 (d.Sub.A),.int .i64 (d.Sub.Pc),.int .i64 (d.Sub.E),.int .i64 (d.Sub.Row),.int .i64 (d.Sub.B),.int .i64 (d.Sub.H),.int .i64 (d.Sub.Out),.int .i64 (d.Sub.Code),.bool (d.Sub.cS)],[.int .i64 (d.H),.int .i64 (d.Old),.int .i64 (d.eH),.int .i64 (d.Code)],rfl,(aS9 _),⟨[.int .i64 (d.H)],[.int .i64 (d.Old),.int .i64 (d.eH),.int .i64 (d.Code)],rfl,rfl,⟨[.int .i64 (d.Old)],[.int .i64 (d.eH),.int .i64 (d.Code)],rfl,rfl,⟨[.int .i64 (d.eH)],[.int .i64 (d.Code)],rfl,rfl,rfl⟩⟩⟩⟩⟩⟩⟩⟩
instance:Flat bR:=⟨fun h=>Flat.own_of (α:=Bool×eU×Int×Int×Sub×Int×Int×Int×Int) h,fun h=>Flat.no (α:=Bool×eU×Int×Int×Sub×Int×Int×Int×Int) h⟩
theorem aYR(d:bR):OP [.bool (d.fV),.int .i64 (d.Op.Kind),.int .i64 (d.Op.Cell),.int .i64 (d.Op.dU),.int .i64 (d.Op.eH),.int .i64 (d.aJ),.int .i64 (d.Pc),.int .i64 (d.Sub.Kind),.int .i64 (d.Sub.A),.int .i64 (d.Sub.Pc),.int .i64 (d.Sub.E),.int .i64 (d.Sub.Row),.int .i64 (d.Sub.B),.int .i64 (d.Sub.H),.int .i64 (d.Sub.Out),.int .i64 (d.Sub.Code),.bool (d.Sub.cS),.int .i64 (d.H),.int .i64 (d.Old),.int .i64 (d.eH),.int .i64 (d.Code)] d []:=(show OP (α:=Bool×eU×Int×Int×Sub×Int×Int×Int×Int) _ (d.fV,d.Op,d.aJ,d.Pc,d.Sub,d.H,d.Old,d.eH,d.Code) _ from (fA (c1:=[.bool (d.fV)]) (c2:=[.int .i64 (d.Op.Kind),.int .i64 (d.Op.Cell),.int .i64 (d.Op.dU),.int .i64 (d.Op.eH),.int .i64 (d.aJ),.int .i64 (d.Pc),.int .i64 (d.Sub.Kind),.int .i64 (d.Sub.A),.int .i64 (d.Sub.Pc),.int .i64 (d.Sub.E),.int .i64 (d.Sub.Row),.int .i64 (d.Sub.B),.int .i64 (d.Sub.H),.int .i64 (d.Sub.Out),.int .i64 (d.Sub.Code),.bool (d.Sub.cS),.int .i64 (d.H),.int .i64 (d.Old),.int .i64 (d.eH),.int .i64 (d.Code)]) (A:=[]) (B:=[]) (fT rfl) (fA (c1:=[.int .i64 (d.Op.Kind),.int .i64 (d.Op.Cell),.int .i64 (d.Op.dU),.int .i64 (d.Op.eH)]) (c2:=[.int .i64 (d.aJ),.int .i64 (d.Pc),.int .i64 (d.Sub.Kind),.int .i64 (d.Sub.A),.int .i64 (d.Sub.Pc),.int .i64 (d.Sub.E),.int .i64 (d.Sub.Row),.int .i64 (d.Sub.B),.int .i64 (d.Sub.H),.int .i64 (d.Sub.Out),.int .i64 (d.Sub.Code),.bool (d.Sub.cS),.int .i64 (d.H),.int .i64 (d.Old),.int .i64 (d.eH),.int .i64 (d.Code)]) (A:=[]) (B:=[]) (fT (aMO _)) (fA (c1:=[.int .i64 (d.aJ)]) (c2:=[.int .i64 (d.Pc),.int .i64 (d.Sub.Kind),.int .i64 (d.Sub.A),.int .i64 (d.Sub.Pc),.int .i64 (d.Sub.E),.int .i64 (d.Sub.Row),.int .i64 (d.Sub.B),.int .i64 (d.Sub.H),.int .i64 (d.Sub.Out),.int .i64 (d.Sub.Code),.bool (d.Sub.cS),.int .i64 (d.H),.int .i64 (d.Old),.int .i64 (d.eH),.int .i64 (d.Code)]) (A:=[]) (B:=[]) (fT rfl) (fA (c1:=[.int .i64 (d.Pc)]) (c2:=[.int .i64 (d.Sub.Kind),.int .i64 (d.Sub.A),.int .i64 (d.Sub.Pc),.int .i64 (d.Sub.E),.int .i64 (d.Sub.Row),.int .i64 (d.Sub.B),.int .i64 (d.Sub.H),.int .i64 (d.Sub.Out),.int .i64 (d.Sub.Code),.bool (d.Sub.cS),.int .i64 (d.H),.int .i64 (d.Old),.int .i64 (d.eH),.int .i64 (d.Code)]) (A:=[]) (B:=[]) (fT rfl) (fA (c1:=[.int .i64 (d.Sub.Kind),.int .i64 (d.Sub.A),.int .i64 (d.Sub.Pc),.int .i64 (d.Sub.E),.int .i64 (d.Sub.Row),.int .i64 (d.Sub.B),.int .i64 (d.Sub.H),.int .i64 (d.Sub.Out),.int .i64 (d.Sub.Code),.bool (d.Sub.cS)]) (c2:=[.int .i64 (d.H),.int .i64 (d.Old),.int .i64 (d.eH),.int .i64 (d.Code)]) (A:=[]) (B:=[]) (fT (aS9 _)) (fA (c1:=[.int .i64 (d.H)]) (c2:=[.int .i64 (d.Old),.int .i64 (d.eH),.int .i64 (d.Code)]) (A:=[]) (B:=[]) (fT rfl) (fA (c1:=[.int .i64 (d.Old)]) (c2:=[.int .i64 (d.eH),.int .i64 (d.Code)]) (A:=[]) (B:=[]) (fT rfl) (fA (c1:=[.int .i64 (d.eH)]) (c2:=[.int .i64 (d.Code)]) (A:=[]) (B:=[]) (fT rfl) (fT rfl) rfl) rfl) rfl) rfl) rfl) rfl) rfl) rfl))
structure Ev where
  Kind:Int
  Who:Int
  aJ:Int
  Cell:Int
  Handle:Int
  eH:Int
  Code:Int
  deriving DecidableEq,Inhabited
instance:aI Ev:=aI.via (fun d=>(d.Kind,d.Who,d.aJ,d.Cell,d.Handle,d.eH,d.Code))
instance:Fits Ev:=Fits.via (fun d=>(d.Kind,d.Who,d.aJ,d.Cell,d.Handle,d.eH,d.Code))
theorem a0D{S:cV}{w:World}{cs:List Value}{d:Ev}(h:aI.rd S w cs d):cs=[.int .i64 (d.Kind),.int .i64 (d.Who),.int .i64 (d.aJ),.int .i64 (d.Cell),.int .i64 (d.Handle),.int .i64 (d.eH),.int .i64 (d.Code)]:=by
  obtain⟨c0,r0,e0,h0,n0⟩:=h
  have q0:c0=[_]:=h0
  obtain⟨c1,r1,e1,h1,n1⟩:=n0
  have q1:c1=[_]:=h1
  obtain⟨c2,r2,e2,h2,n2⟩:=n1
  have q2:c2=[_]:=h2
  obtain⟨c3,r3,e3,h3,n3⟩:=n2
  have q3:c3=[_]:=h3
  obtain⟨c4,r4,e4,h4,n4⟩:=n3
  have q4:c4=[_]:=h4
  obtain⟨c5,r5,e5,h5,n5⟩:=n4
  have q5:c5=[_]:=h5
  have q6:r5=[_]:=n5
  exact by rw [e0,e1,e2,e3,e4,e5,q0,q1,q2,q3,q4,q5,q6];rfl
instance:Flat Ev:=⟨fun h=>Flat.own_of (α:=Int×Int×Int×Int×Int×Int×Int) h,fun h=>Flat.no (α:=Int×Int×Int×Int×Int×Int×Int) h⟩
theorem a0E(d:Ev):OP [.int .i64 (d.Kind),.int .i64 (d.Who),.int .i64 (d.aJ),.int .i64 (d.Cell),.int .i64 (d.Handle),.int .i64 (d.eH),.int .i64 (d.Code)] d []:=(show OP (α:=Int×Int×Int×Int×Int×Int×Int) _ (d.Kind,d.Who,d.aJ,d.Cell,d.Handle,d.eH,d.Code) _ from (fA (c1:=[.int .i64 (d.Kind)]) (c2:=[.int .i64 (d.Who),.int .i64 (d.aJ),.int .i64 (d.Cell),.int .i64 (d.Handle),.int .i64 (d.eH),.int .i64 (d.Code)]) (A:=[]) (B:=[]) (fT rfl) (fA (c1:=[.int .i64 (d.Who)]) (c2:=[.int .i64 (d.aJ),.int .i64 (d.Cell),.int .i64 (d.Handle),.int .i64 (d.eH),.int .i64 (d.Code)]) (A:=[]) (B:=[]) (fT rfl) (fA (c1:=[.int .i64 (d.aJ)]) (c2:=[.int .i64 (d.Cell),.int .i64 (d.Handle),.int .i64 (d.eH),.int .i64 (d.Code)]) (A:=[]) (B:=[]) (fT rfl) (fA (c1:=[.int .i64 (d.Cell)]) (c2:=[.int .i64 (d.Handle),.int .i64 (d.eH),.int .i64 (d.Code)]) (A:=[]) (B:=[]) (fT rfl) (fA (c1:=[.int .i64 (d.Handle)]) (c2:=[.int .i64 (d.eH),.int .i64 (d.Code)]) (A:=[]) (B:=[]) (fT rfl) (fA (c1:=[.int .i64 (d.eH)]) (c2:=[.int .i64 (d.Code)]) (A:=[]) (B:=[]) (fT rfl) (fT rfl) rfl) rfl) rfl) rfl) rfl) rfl))
structure aA where
  aD:aD
  Cells:List Int
  aQ:List bR
  cE:List Queue
  Log:List Ev
  aJ:Int
  deriving DecidableEq,Inhabited
instance:aI aA:=aI.via (fun d=>(d.aD,d.Cells,d.aQ,d.cE,d.Log,d.aJ))
instance:Fits aA:=Fits.via (fun d=>(d.aD,d.Cells,d.aQ,d.cE,d.Log,d.aJ))
theorem aTA{S:cV}{w:World}{cs:List Value}{d:aA}(h:aI.rd S w cs d):∃v0 v1 v2 v3 v4 v5 v6 v7 v8 v9 v10:Value,cs=[v0,v1,v2,v3,.int .i64 (d.aD.aH.aL),v4,v5,v6,v7,v8,v9,v10,.int .i64 (d.aJ)]∧aI.rd S w [v0] d.aD.Mem.aE.Bytes∧aI.rd S w [v1] d.aD.Mem.aE.Class∧aI.rd S w [v2] d.aD.Mem.aB.Global∧aI.rd S w [v3] d.aD.Mem.aB.Own∧aI.rd S w [v4] d.aD.aH.bO∧aI.rd S w [v5] d.aD.aU∧aI.rd S w [v6] d.aD.mA∧aI.rd S w [v7] d.Cells∧aI.rd S w [v8] d.aQ∧aI.rd S w [v9] d.cE∧aI.rd S w [v10] d.Log:=by
  obtain⟨c0,r0,e0,h0,n0⟩:=h
  obtain⟨u0_0,u0_1,u0_2,u0_3,u0_4,u0_5,u0_6,q0,hq0_0,hq0_1,hq0_2,hq0_3,hq0_4,hq0_5,hq0_6⟩:=aVY h0
  obtain⟨c1,r1,e1,h1,n1⟩:=n0
  obtain⟨u1,q1⟩:=gN h1
  rw [q1] at h1
  obtain⟨c2,r2,e2,h2,n2⟩:=n1
  obtain⟨u2,q2⟩:=gN h2
  rw [q2] at h2
  obtain⟨c3,r3,e3,h3,n3⟩:=n2
  obtain⟨u3,q3⟩:=gN h3
  rw [q3] at h3
  obtain⟨c4,r4,e4,h4,n4⟩:=n3
  obtain⟨u4,q4⟩:=gN h4
  rw [q4] at h4
  have q5:r4=[_]:=n4
  exact⟨u0_0,u0_1,u0_2,u0_3,u0_4,u0_5,u0_6,u1,u2,u3,u4,by rw [e0,e1,e2,e3,e4,q0,q1,q2,q3,q4,q5];rfl,hq0_0,hq0_1,hq0_2,hq0_3,hq0_4,hq0_5,hq0_6,h1,h2,h3,h4⟩
theorem aTB(d:aA){v0:Value}{v1:Value}{v2:Value}{v3:Value}{v4:Value}{v5:Value}{v6:Value}{v7:Value}{v8:Value}{v9:Value}{v10:Value}:OP [v0,v1,v2,v3,.int .i64 (d.aD.aH.aL),v4,v5,v6,v7,v8,v9,v10,.int .i64 (d.aJ)] d [cJ [v0] d.aD.Mem.aE.Bytes,cJ [v1] d.aD.Mem.aE.Class,cJ [v2] d.aD.Mem.aB.Global,cJ [v3] d.aD.Mem.aB.Own,cJ [v4] d.aD.aH.bO,cJ [v5] d.aD.aU,cJ [v6] d.aD.mA,cJ [v7] d.Cells,cJ [v8] d.aQ,cJ [v9] d.cE,cJ [v10] d.Log]:=(show OP (α:=aD×(List Int)×(List bR)×(List Queue)×(List Ev)×Int) _ (d.aD,d.Cells,d.aQ,d.cE,d.Log,d.aJ) _ from (fA (c1:=[v0,v1,v2,v3,.int .i64 (d.aD.aH.aL),v4,v5,v6]) (c2:=[v7,v8,v9,v10,.int .i64 (d.aJ)]) (A:=[cJ [v0] d.aD.Mem.aE.Bytes,cJ [v1] d.aD.Mem.aE.Class,cJ [v2] d.aD.Mem.aB.Global,cJ [v3] d.aD.Mem.aB.Own,cJ [v4] d.aD.aH.bO,cJ [v5] d.aD.aU,cJ [v6] d.aD.mA]) (B:=[cJ [v7] d.Cells,cJ [v8] d.aQ,cJ [v9] d.cE,cJ [v10] d.Log]) (aVZ _) (fA (c1:=[v7]) (c2:=[v8,v9,v10,.int .i64 (d.aJ)]) (A:=[cJ [v7] d.Cells]) (B:=[cJ [v8] d.aQ,cJ [v9] d.cE,cJ [v10] d.Log]) BK (fA (c1:=[v8]) (c2:=[v9,v10,.int .i64 (d.aJ)]) (A:=[cJ [v8] d.aQ]) (B:=[cJ [v9] d.cE,cJ [v10] d.Log]) BK (fA (c1:=[v9]) (c2:=[v10,.int .i64 (d.aJ)]) (A:=[cJ [v9] d.cE]) (B:=[cJ [v10] d.Log]) BK (fA (c1:=[v10]) (c2:=[.int .i64 (d.aJ)]) (A:=[cJ [v10] d.Log]) (B:=[]) BK (fT rfl) rfl) rfl) rfl) rfl) rfl))
structure Span where
  aTC:Int
  To:Int
  deriving DecidableEq,Inhabited
instance:aI Span:=aI.via (fun d=>(d.aTC,d.To))
instance:Fits Span:=Fits.via (fun d=>(d.aTC,d.To))
instance:Flat Span:=⟨fun h=>Flat.own_of (α:=Int×Int) h,fun h=>Flat.no (α:=Int×Int) h⟩
end Go.Gv
end
noncomputable section
namespace Go.Gv
noncomputable section
def aCN(code:List UInt8):Option Bool:=
  some (decide (1048576 < (code.length:Int)))
def aFD(x5:Int):Option (Int×Int):=
  some (0,x5)
def ER(code:List UInt8)(x3 x4:Int)(x6:Bool):Option (Step (Int×Int) Int):=
  (if x6 then (idx code x4).bind fun x7=>some (.next (gL .and .i64 (aV ((aV ((aV (x3 * 131))+(x7.toNat:Int)))+7)) 1073741823,aV (x4+1))) else some (.stop (x3)))
def SX(code:List UInt8):(Int×Int)→Option (Step (Int×Int) Int)
  | (x3,x4)=>(if decide (x4 < (code.length:Int)) then ER code x3 x4 (decide (x4 < 4000)) else ER code x3 x4 false)
def aFE:Int→Option (Int×Int)
  | x5=>aFD x5
def I2(code:List UInt8):Option (Int×Int):=
  (loop (SX code) (aV (10101+(code.length:Int)),0)).bind (aFE)
def BO(c:gQ)(x1 x2:Int):Option (Int×(Int×Int)):=
  some (x1,(x2,aV ((aV (c.h * 6364136223846793005))+1442695040888963407)))
def qW(c:gQ):Option (Int×(Int×Int)):=
  (if decide (c.i < (c.b.length:Int)) then (idx c.b c.i).bind fun x3=>BO c (gL .and .i64 (aV ((gL .and .i64 (gL .xor .i64 (uG .i64 (aV ((aV (c.h * 6364136223846793005))+1442695040888963407)) 33) (uG .i64 (aV ((aV (c.h * 6364136223846793005))+1442695040888963407)) 45)) 255)+(x3.toNat:Int))) 255) (aV (c.i+1)) else BO c (gL .and .i64 (gL .xor .i64 (uG .i64 (aV ((aV (c.h * 6364136223846793005))+1442695040888963407)) 33) (uG .i64 (aV ((aV (c.h * 6364136223846793005))+1442695040888963407)) 45)) 255) c.i)
def gY(c:gQ)(n:Int):Option (Int×(Int×Int)):=
  (if decide (n≤0) then some (0,(c.i,c.h)) else (if decide (n≤256) then (qW c).bind fun x1=>need (n≠0) (some (Int.tmod x1.1 n,(x1.2.1,x1.2.2))) else (qW c).bind fun x2=>(qW (⟨c.b,x2.2.1,x2.2.2⟩:gQ)).bind fun x3=>(qW (⟨c.b,x3.2.1,x3.2.2⟩:gQ)).bind fun x4=>(qW (⟨c.b,x4.2.1,x4.2.2⟩:gQ)).bind fun x5=>need (n≠0) (some (Int.tmod (aV ((aV ((aV ((aV (x2.1 * 16777216))+(aV (x3.1 * 65536))))+(aV (x4.1 * 256))))+x5.1)) n,(x5.2.1,x5.2.2)))))
def QE(c:gQ)(n:Int):Option (Bool×(Int×Int)):=
  (gY c n).bind fun x1=>some (x1.1 == 0,(x1.2.1,x1.2.2))
def kP(x1:Bool):Option Bool:=
  some x1
def BP(kind:Int):Option Bool:=
  (if kind == 1 then kP true else (if kind == 2 then kP true else (if kind == 3 then kP true else kP (kind == 7))))
def W9(x10:List Int)(x11 x12:Int):Option ((List Int)×(Int×Int)):=
  some (x10,(x11,x12))
def MQ(x7:Int)(x14:Int×(Int×Int))(x19:List Int):Option (Step ((List Int)×Int×Int×Int) ((List Int)×Int×Int)):=
  some (.next (x19,aV (x7 - 1),x14.2.1,x14.2.2))
def MR(x13:Int×(Int×Int)):((List Int)×Int)→Option (Step ((List Int)×Int) (List Int))
  | (x17,x18)=>(if decide (0 < x18) then need (x17.length+([x13.1]).length≤1073741824) (some (.next (x17++([x13.1]),aV (x18 - 1)))) else some (.stop (x17)))
def MS(x7:Int)(x14:Int×(Int×Int)):(List Int)→Option (Step ((List Int)×Int×Int×Int) ((List Int)×Int×Int))
  | x19=>MQ x7 x14 x19
def MT(c:gQ):((List Int)×Int×Int×Int)→Option (Step ((List Int)×Int×Int×Int) ((List Int)×Int×Int))
  | (x6,x7,x8,x9)=>(if decide (0 < x7) then (gY (⟨c.b,x8,x9⟩:gQ) 3).bind fun x13=>(gY (⟨c.b,x13.2.1,x13.2.2⟩:gQ) 4).bind fun x14=>(loop (MR x13) (x6,aV (1+x14.1))).bind (MS x7 x14) else some (.stop ((x6,x8,x9))))
def XA:((List Int)×Int×Int)→Option ((List Int)×(Int×Int))
  | (x10,x11,x12)=>W9 x10 x11 x12
def ES(c:gQ)(most:Int):Option ((List Int)×(Int×Int)):=
  (gY c most).bind fun x1=>(loop (MT c) (([]:List Int),x1.1,x1.2.1,x1.2.2)).bind (XA)
def HK(x1:Bool):Option Bool:=
  some x1
def bT(x low high:Int):Option Bool:=
  (if decide (low≤x) then HK (decide (x≤high)) else HK false)
def HL(x3:Bool):Option Bool:=
  some x3
def HM(x4:Bool):Option Bool:=
  some x4
def BQ(o_:eU)(x2:Bool):Option Bool:=
  (if x2 then some false else (if o_.Kind != 1 then (if o_.dU == 0 then HL (o_.eH == 0) else HL false) else (bT o_.dU 0 100).bind fun x5=>(if x5 then (bT o_.eH 0 65535).bind fun x6=>HM x6 else HM false)))
def IP(o_:eU):Option Bool:=
  (bT o_.Kind 1 7).bind fun x1=>(if !x1 then some false else (BP o_.Kind).bind fun x7=>(if !x7 then (if o_.Cell != 0 then BQ o_ true else (bT o_.Cell 0 1).bind fun x8=>BQ o_ (!x8)) else (bT o_.Cell 0 1).bind fun x9=>BQ o_ (!x9)))
def OS(todo:List Queue):Option Bool:=
  some ((todo.length:Int) == 3)
def OT(x2:Int):Option (Step Int (Out Unit Bool)):=
  some (.next (aV (x2+1)))
def m5(todo:List Queue)(x2:Int):Int→Option (Step Int (Out Unit Bool))
  | x5=>(idx todo x2).bind fun x6=>(if decide (x5 < (x6.jJ.length:Int)) then (idx todo x2).bind fun x7=>(idx x7.jJ x5).bind fun x8=>(IP x8).bind fun x9=>(if !x9 then some (.stop (Out.ret false)) else some (.next (aV (x5+1)))) else some (.stop (Out.brk ())))
def OU(x2:Int):(Out Unit Bool)→Option (Step Int (Out Unit Bool))
  | .brk ()=>OT x2
  | .ret r=>some (.stop (Out.ret r))
def m6(todo:List Queue):Int→Option (Step Int (Out Unit Bool))
  | x2=>(if decide (x2 < (todo.length:Int)) then (idx todo x2).bind fun x3=>(if decide (12 < (x3.jJ.length:Int)) then some (.stop (Out.ret false)) else (loop (m5 todo x2) 0).bind (OU x2)) else some (.stop (Out.brk ())))
def OV(todo:List Queue):(Out Unit Bool)→Option Bool
  | .brk ()=>OS todo
  | .ret r=>some r
def BR(todo:List Queue):Option Bool:=
  (loop (m6 todo) 0).bind (OV todo)
def Y7(x5:List Int):Option aE:=
  some (⟨List.replicate ((384:Int).toNat) 0,x5⟩:aE)
def rZ:(Int×(List Int))→Option (Step (Int×(List Int)) (List Int))
  | (x3,x4)=>(if decide (x3 < 6) then need (x4.length+([(-1)]).length≤1073741824) (some (.next (aV (x3+1),x4++([(-1)])))) else some (.stop (x4)))
def Y8:(List Int)→Option aE
  | x5=>Y7 x5
def HN:Option aE:=
  need (0≤(384:Int)∧(384:Int)≤4294967296) ((loop (rZ) (0,[])).bind (Y8))
def MU:Option aB:=
  some (⟨List.replicate ((3:Int).toNat) (⟨[]⟩:aK),List.replicate ((9:Int).toNat) (⟨[]⟩:aK)⟩:aB)
def LF:Option aB:=
  need (0≤(3:Int)∧(3:Int)≤4294967296)<|need (0≤(9:Int)∧(9:Int)≤4294967296)<|MU
def QF:Option Mem:=
  (HN).bind fun x1=>(LF).bind fun x2=>some (⟨x1,x2⟩:Mem)
def LG:Option aH:=
  need (0≤(3:Int)∧(3:Int)≤4294967296) (some (⟨0,List.replicate ((3:Int).toNat) (⟨false,0,false,0⟩:o5)⟩:aH))
def LH:Option (List aS):=
  need (0≤(3:Int)∧(3:Int)≤4294967296) (some (List.replicate ((3:Int).toNat) (⟨[]⟩:aS)))
def QG:Option (List Int):=
  need (0≤(3:Int)∧(3:Int)≤4294967296) (some (List.replicate ((3:Int).toNat) 0))
def HO:Option aD:=
  (QF).bind fun x1=>(LG).bind fun x2=>(LH).bind fun x3=>(QG).bind fun x4=>some (⟨x1,x2,x3,x4⟩:aD)
def U1(x5:List Queue):Option (List Queue):=
  some x5
def BS(l:List Queue):((List Queue)×Int)→Option (Step ((List Queue)×Int) (List Queue))
  | (x3,x4)=>(if decide (x4 < (l.length:Int)) then (idx l x4).bind fun x6=>need (([]:List eU).length+x6.jJ.length≤1073741824) (need (x3.length+([(⟨([]:List eU)++x6.jJ⟩:Queue)]).length≤1073741824) (some (.next (x3++([(⟨([]:List eU)++x6.jJ⟩:Queue)]),aV (x4+1))))) else some (.stop (x3)))
def U2:(List Queue)→Option (List Queue)
  | x5=>U1 x5
def uI(l:List Queue):Option (List Queue):=
  (loop (BS l) (([]:List Queue),0)).bind (U2)
def MV(x2:aA):Option aA:=
  some ({x2 with Log:=[]}:aA)
def sT(todo:List Queue):Option aA:=
  (BR todo).bind fun x1=>(if !x1 then some (⟨(⟨(⟨(⟨[],[]⟩:aE),(⟨[],[]⟩:aB)⟩:Mem),(⟨0,[]⟩:aH),[],[]⟩:aD),[],[],[],[],0⟩:aA) else (HO).bind fun x3=>need (0≤(2:Int)∧(2:Int)≤4294967296)<|need (0≤(3:Int)∧(3:Int)≤4294967296)<|(uI todo).bind fun x4=>MV (⟨x3,List.replicate ((2:Int).toNat) 0,List.replicate ((3:Int).toNat) (⟨false,(⟨0,0,0,0⟩:eU),0,0,(⟨0,0,0,0,0,0,0,0,0,false⟩:Sub),0,0,0,0⟩:bR),x4,[],0⟩:aA))
def fI(s:List Int):Option (List Int):=
  need (([]:List Int).length+s.length≤1073741824) (some (([]:List Int)++s))
def sU(h:aE):Option aE:=
  (fI h.Bytes).bind fun x1=>(fI h.Class).bind fun x2=>some (⟨x1,x2⟩:aE)
def U3(x5 x10:List aK):Option aB:=
  some (⟨x5,x10⟩:aB)
def BT(x8:Int)(x12:List aK):Option (Step (Int×(List aK)) (List aK)):=
  some (.next (aV (x8+1),x12))
def BU(l:aB):(Int×(List aK))→Option (Step (Int×(List aK)) (List aK))
  | (x8,x9)=>(if decide (x8 < (l.Own.length:Int)) then (idx l.Own x8).bind fun x11=>(fI x11.aM).bind fun x13=>need (x9.length+([(⟨x13⟩:aK)]).length≤1073741824)<|BT x8 (x9++([(⟨x13⟩:aK)])) else some (.stop (x9)))
def U4(x5:List aK):(List aK)→Option aB
  | x10=>U3 x5 x10
def KK(l:aB)(x5:List aK):Option aB:=
  (loop (BU l) (0,[])).bind (U4 x5)
def BV(x3:Int)(x15:List aK):Option (Step (Int×(List aK)) (List aK)):=
  some (.next (aV (x3+1),x15))
def BW(l:aB):(Int×(List aK))→Option (Step (Int×(List aK)) (List aK))
  | (x3,x4)=>(if decide (x3 < (l.Global.length:Int)) then (idx l.Global x3).bind fun x14=>(fI x14.aM).bind fun x16=>need (x4.length+([(⟨x16⟩:aK)]).length≤1073741824)<|BV x3 (x4++([(⟨x16⟩:aK)])) else some (.stop (x4)))
def KL(l:aB):(List aK)→Option aB
  | x5=>KK l x5
def iF(l:aB):Option aB:=
  (loop (BW l) (0,[])).bind (KL l)
def BX(m:Mem):Option Mem:=
  (sU m.aE).bind fun x1=>(iF m.aB).bind fun x2=>some (⟨x1,x2⟩:Mem)
def wF(s:List o5):Option (List o5):=
  need (([]:List o5).length+s.length≤1073741824) (some (([]:List o5)++s))
def kC(c:aH):Option aH:=
  (wF c.bO).bind fun x1=>some (⟨c.aL,x1⟩:aH)
def tR(s:List c9):Option (List c9):=
  need (([]:List c9).length+s.length≤1073741824) (some (([]:List c9)++s))
def U5(x5:List aS):Option (List aS):=
  some x5
def BY(l:List aS):((List aS)×Int)→Option (Step ((List aS)×Int) (List aS))
  | (x3,x4)=>(if decide (x4 < (l.length:Int)) then (idx l x4).bind fun x6=>(tR x6.Rows).bind fun x7=>need (x3.length+([(⟨x7⟩:aS)]).length≤1073741824) (some (.next (x3++([(⟨x7⟩:aS)]),aV (x4+1)))) else some (.stop (x3)))
def U6:(List aS)→Option (List aS)
  | x5=>U5 x5
def kD(l:List aS):Option (List aS):=
  (loop (BY l) (([]:List aS),0)).bind (U6)
def ET(b:aD):Option aD:=
  (BX b.Mem).bind fun x1=>(kC b.aH).bind fun x2=>(kD b.aU).bind fun x3=>(fI b.mA).bind fun x4=>some (⟨x1,x2,x3,x4⟩:aD)
def D5(s:List bR):Option (List bR):=
  need (([]:List bR).length+s.length≤1073741824) (some (([]:List bR)++s))
def GO(s:List eU):Option (List eU):=
  need (([]:List eU).length+s.length≤1073741824) (some (([]:List eU)++s))
def XB(x5:List Queue):Option (List Queue):=
  some x5
def D6(todo:List Queue):((List Queue)×Int)→Option (Step ((List Queue)×Int) (List Queue))
  | (x3,x4)=>(if decide (x4 < (todo.length:Int)) then (idx todo x4).bind fun x6=>(GO x6.jJ).bind fun x7=>need (x3.length+([(⟨x7⟩:Queue)]).length≤1073741824) (some (.next (x3++([(⟨x7⟩:Queue)]),aV (x4+1)))) else some (.stop (x3)))
def XC:(List Queue)→Option (List Queue)
  | x5=>XB x5
def yE(todo:List Queue):Option (List Queue):=
  (loop (D6 todo) (([]:List Queue),0)).bind (XC)
def GP(s:List Ev):Option (List Ev):=
  need (([]:List Ev).length+s.length≤1073741824) (some (([]:List Ev)++s))
def uJ(s:aA):Option aA:=
  (ET s.aD).bind fun x1=>(fI s.Cells).bind fun x2=>(D5 s.aQ).bind fun x3=>(yE s.cE).bind fun x4=>(GP s.Log).bind fun x5=>some (⟨x1,x2,x3,x4,x5,s.aJ⟩:aA)
def pM(x1:Bool):Option Bool:=
  some x1
def cR(n low high:Int):Option Bool:=
  (if decide (low≤n) then pM (decide (n≤high)) else pM false)
def AW:Option Int:=
  some (-1)
def iP(s:List Int)(f:(Int→Option Bool)):Int→Option (Step Int (Out Unit Int))
  | x2=>(if decide (x2 < (s.length:Int)) then (idx s x2).bind fun x3=>(f x3).bind fun x4=>(if x4 then some (.stop (Out.ret x2)) else some (.next (aV (x2+1)))) else some (.stop (Out.brk ())))
def pN:(Out Unit Int)→Option Int
  | .brk ()=>AW
  | .ret r=>some r
def uK(s:List Int)(f:(Int→Option Bool)):Option Int:=
  (loop (iP s f) 0).bind (pN)
def eJ(s:List Int)(f:(Int→Option Bool)):Option Bool:=
  (uK s f).bind fun x1=>some (decide (0≤x1))
def QH(x:Int):Option Bool:=
  (cR x 0 255).bind fun x1=>some x1
def BZ(x:Int):Option Bool:=
  (QH x).bind fun x1=>some (!x1)
def zF(x1:Bool):Option Bool:=
  some x1
def HP(b:List Int):Option Bool:=
  (if decide ((b.length:Int)≤1000) then (eJ b (fun y0=>BZ y0)).bind fun x2=>zF (!x2) else zF false)
def EU(c:Int):Option Bool:=
  (cR c (-1) 2).bind fun x1=>some (!x1)
def pO(x1:Bool):Option Bool:=
  some x1
def FX(h:aE):Option Bool:=
  (if (h.Bytes.length:Int) == 384 then (HP h.Bytes).bind fun x2=>(if x2 then (if (h.Class.length:Int) == 6 then (eJ h.Class (fun y0=>EU y0)).bind fun x3=>pO (!x3) else pO false) else pO false) else pO false)
def Y9(x5:Int):Option Int:=
  some x5
def r9(b:List Int)(at_ width:Int):(Int×Int)→Option (Step (Int×Int) Int)
  | (x3,x4)=>(if decide (x4 < (((b.take ((aV (at_+width)).toNat)).drop at_.toNat).length:Int)) then (idx ((b.take ((aV (at_+width)).toNat)).drop at_.toNat) x4).bind fun x6=>some (.next (aV ((aV (256 * x3))+x6),aV (x4+1))) else some (.stop (x3)))
def ZA:Int→Option Int
  | x5=>Y9 x5
def lS(b:List Int)(at_ width:Int):Option Int:=
  need (0≤(at_:Int)∧(at_:Int)≤(aV (at_+width):Int)∧(aV (at_+width):Int)≤(b.length:Int)) ((loop (r9 b at_ width) (0,0)).bind (ZA))
def jX(c:Int):Option Bool:=
  (cR c 0 2).bind fun x1=>some x1
def AX(c:Int):Option Int:=
  (jX c).bind fun x1=>(if !x1 then some 0 else (idx ([8,16,40]:List Int) c).bind fun x2=>some x2)
def sV(c:Int):Option Int:=
  (jX c).bind fun x1=>(if !x1 then some 0 else (AX c).bind fun x2=>some (aV (4+x2)))
def nN(c:Int):Option Int:=
  (jX c).bind fun x1=>(if !x1 then some 0 else (sV c).bind fun x2=>need (x2≠0) (some (aV (Int.tdiv 56 x2))))
def EV(x:Int):Option Bool:=
  some (x != 0)
def FY(b:List Int):Option Bool:=
  (eJ b (fun y0=>EV y0)).bind fun x1=>some (!x1)
def aCO:Option Bool:=
  some true
def pP(h:aE)(page x1 x4:Int):Int→Option (Step Int (Out Unit Bool))
  | x6=>(if decide (x6 < x4) then (sV x1).bind fun x7=>(lS ((h.Bytes.take ((aV ((aV (page+1)) * 64)).toNat)).drop ((aV (page * 64)).toNat)) (aV (8+(aV (x6 * x7)))) 4).bind fun x8=>(cR x8 1 7).bind fun x9=>(if !x9 then some (.stop (Out.ret false)) else some (.next (aV (x6+1)))) else some (.stop (Out.brk ())))
def aCP:(Out Unit Bool)→Option Bool
  | .brk ()=>aCO
  | .ret r=>some r
def i4(h:aE)(page x1:Int)(x3:Bool):Option Bool:=
  (if x3 then some false else (nN x1).bind fun x4=>(loop (pP h page x1 x4) 0).bind (aCP))
def KM(h:aE)(page:Int):Option Bool:=
  (idx h.Class page).bind fun x1=>need (0≤(aV (page * 64):Int)∧(aV (page * 64):Int)≤(aV ((aV (page+1)) * 64):Int)∧(aV ((aV (page+1)) * 64):Int)≤(h.Bytes.length:Int)) ((if decide (x1 < 0) then (FY ((h.Bytes.take ((aV ((aV (page+1)) * 64)).toNat)).drop ((aV (page * 64)).toNat))).bind fun x2=>some x2 else (idx ((h.Bytes.take ((aV ((aV (page+1)) * 64)).toNat)).drop ((aV (page * 64)).toNat)) 0).bind fun x10=>(if x10 != 171 then i4 h page x1 true else (idx ((h.Bytes.take ((aV ((aV (page+1)) * 64)).toNat)).drop ((aV (page * 64)).toNat)) 1).bind fun x11=>(if x11 != x1 then i4 h page x1 true else (idx ((h.Bytes.take ((aV ((aV (page+1)) * 64)).toNat)).drop ((aV (page * 64)).toNat)) 2).bind fun x12=>(nN x1).bind fun x13=>(if x12 != x13 then i4 h page x1 true else need (0≤(3:Int)∧(3:Int)≤(8:Int)∧(8:Int)≤(((h.Bytes.take ((aV ((aV (page+1)) * 64)).toNat)).drop ((aV (page * 64)).toNat)).length:Int)) ((FY ((((h.Bytes.take ((aV ((aV (page+1)) * 64)).toNat)).drop ((aV (page * 64)).toNat)).take ((8:Int).toNat)).drop ((3:Int).toNat))).bind fun x14=>i4 h page x1 (!x14)))))))
def aCQ:Option Bool:=
  some true
def uL(h:aE):Int→Option (Step Int (Out Unit Bool))
  | x3=>(if decide (x3 < 6) then (KM h x3).bind fun x4=>(if !x4 then some (.stop (Out.ret false)) else some (.next (aV (x3+1)))) else some (.stop (Out.brk ())))
def aCR:(Out Unit Bool)→Option Bool
  | .brk ()=>aCQ
  | .ret r=>some r
def FZ(h:aE):Option Bool:=
  (FX h).bind fun x1=>(if !x1 then some false else (loop (uL h) 0).bind (aCR))
def l8(slot:Int):Option Bool:=
  (cR slot 0 23).bind fun x1=>some x1
def rC(x10:List Raw):Option (List Raw):=
  some x10
def gZ(slices:List (List Raw)):((List Raw)×Int)→Option (Step ((List Raw)×Int) (List Raw))
  | (x8,x9)=>(if decide (x9 < (slices.length:Int)) then (idx slices x9).bind fun x11=>need (x8.length+x11.length≤1073741824) (some (.next (x8++x11,aV (x9+1)))) else some (.stop (x8)))
def NT:(List Raw)→Option (List Raw)
  | x10=>rC x10
def lT(slices:List (List Raw))(x5:Int):Option (List Raw):=
  need (0≤x5∧x5≤1073741824) ((loop (gZ slices) ([],0)).bind (NT))
def fU(slices:List (List Raw)):(Int×Int)→Option (Step (Int×Int) Int)
  | (x3,x4)=>(if decide (x4 < (slices.length:Int)) then (idx slices x4).bind fun x12=>(if decide ((aV (x3+(x12.length:Int))) < 0) then none else some (.next (aV (x3+(x12.length:Int)),aV (x4+1)))) else some (.stop (x3)))
def B3(slices:List (List Raw)):Int→Option (List Raw)
  | x5=>lT slices x5
def o6(slices:List (List Raw)):Option (List Raw):=
  (loop (fU slices) (0,0)).bind (B3 slices)
theorem J2{u1 u2:List Raw}(h:u1.length+u2.length≤1073741824):loop (fU [u1,u2]) (0,0)=some ((u1.length+u2.length:Nat):Int):=by
  have e1:aV (u1.length:Int)=u1.length:=IZ (by omega)
  have e2:aV ((u1.length:Int)+(u2.length:Int))=((u1.length+u2.length:Nat):Int):=by rw [IZ (by omega)];rfl
  have e3:aV (0+1)=1:=IZ (by omega)
  have e4:aV 2=2:=IZ (by omega)
  have n1:¬(u1.length:Int) < 0:=by omega
  have n2:¬((u1.length+u2.length:Nat):Int) < 0:=by omega
  rw [bX (s':=((u1.length:Int),1)) ?_,bX (s':=(((u1.length+u2.length:Nat):Int),2)) ?_,bM (r:=((u1.length+u2.length:Nat):Int)) ?_]
  · simp [fU]
  · simp [fU,idx,e2,e4]
    omega
  · simp [fU,idx,e1,n1]
    exact e3
theorem MW{u1 u2:List Raw}{n1 n2:Nat}(hl:u1.length=n1∧u2.length=n2)(h:n1+n2≤1073741824):o6 [u1,u2]=some (u1++u2):=by
  obtain⟨rfl,rfl⟩:=hl
  have e3:aV (0+1)=1:=IZ (by omega)
  have e4:aV 2=2:=IZ (by omega)
  unfold o6
  rw [J2 h]
  simp only [aG,B3,lT]
  rw [aO (by omega),bX (s':=(u1,1)) ?_,bX (s':=(u1++u2,2)) ?_,bM (r:=u1++u2) ?_]
  · rfl
  · simp [gZ]
  · simp [gZ,idx,e4,aO h]
  · have h1:u1.length≤1073741824:=by omega
    simp [gZ,idx,aO h1]
    exact e3
def GQ:Option Bool:=
  some true
def zG(x4:Int)(x12:List Bool):Option (Step (Int×(List Bool)) (Out Unit Bool)):=
  some (.next (aV (x4+1),x12))
def m7(x10:Int)(x11:List Bool)(x13:Int)(x14:Bool):Option (Step (Int×(List Bool)) (Out (List Bool) Bool)):=
  (if x14 then some (.stop (Out.ret false)) else need (0≤(x13:Int)∧(x13:Int) < 24) ((idx (x11:List Bool) x13).bind fun x15=>some (.next (aV (x10+1),x11.set (x13.toNat) true))))
def k9(x6:aK):(Int×(List Bool))→Option (Step (Int×(List Bool)) (Out (List Bool) Bool))
  | (x10,x11)=>(if decide (x10 < (x6.aM.length:Int)) then (idx x6.aM x10).bind fun x13=>(l8 x13).bind fun x16=>(if !x16 then m7 x10 x11 x13 true else need (0≤(x13:Int)∧(x13:Int) < 24) ((idx (x11:List Bool) x13).bind fun x17=>m7 x10 x11 x13 x17)) else some (.stop (Out.brk x11)))
def OW(x4:Int):(Out (List Bool) Bool)→Option (Step (Int×(List Bool)) (Out Unit Bool))
  | .brk x12=>zG x4 x12
  | .ret r=>some (.stop (Out.ret r))
def lA(x4:Int)(x5:List Bool)(x6:aK)(x7:Bool):Option (Step (Int×(List Bool)) (Out Unit Bool)):=
  (if x7 then some (.stop (Out.ret false)) else (loop (k9 x6) (0,x5)).bind (OW x4))
def lB(l:aB):(Int×(List Bool))→Option (Step (Int×(List Bool)) (Out Unit Bool))
  | (x4,x5)=>(if decide (x4 < ((l.Own++l.Global).length:Int)) then (idx (l.Own++l.Global) x4).bind fun x6=>(if decide (x4 < (l.Own.length:Int)) then lA x4 x5 x6 (decide (2 < (x6.aM.length:Int))) else lA x4 x5 x6 false) else some (.stop (Out.brk ())))
def ZB:(Out Unit Bool)→Option Bool
  | .brk ()=>GQ
  | .ret r=>some r
def sA(l:aB)(x1:Bool):Option Bool:=
  (if x1 then some false else need (l.Own.length+l.Global.length≤1073741824) ((loop (lB l) (0,[false,false,false,false,false,false,false,false,false,false,false,false,false,false,false,false,false,false,false,false,false,false,false,false])).bind (ZB)))
def jY(l:aB):Option Bool:=
  (if (l.Global.length:Int) != 3 then sA l true else sA l ((l.Own.length:Int) != 9))
def yF(slot c:Int)(x1:Bool):Option Int:=
  (if x1 then some (-1) else (sV c).bind fun x2=>some (aV ((aV ((aV ((aV (Int.tdiv slot 4)) * 64))+8))+(aV ((Int.tmod slot 4) * x2)))))
def uM(slot c:Int):Option Int:=
  (l8 slot).bind fun x3=>(if !x3 then yF slot c true else (jX c).bind fun x4=>(if !x4 then yF slot c true else (nN c).bind fun x5=>yF slot c (decide (x5≤(Int.tmod slot 4)))))
def zH(h:aE)(slot:Int)(x1:Bool):Option Int:=
  (if x1 then some (-1) else (idx h.Class (aV (Int.tdiv slot 4))).bind fun x2=>some x2)
def nO(h:aE)(slot:Int):Option Int:=
  (l8 slot).bind fun x3=>(if !x3 then zH h slot true else (idx h.Class (aV (Int.tdiv slot 4))).bind fun x4=>(uM slot x4).bind fun x5=>zH h slot (decide (x5 < 0)))
def rD(h:aE)(slot:Int):Option Int:=
  (FX h).bind fun x1=>(if !x1 then some (-1) else (nO h slot).bind fun x2=>some x2)
def AG(h:aE)(slot:Int):Option Int:=
  (rD h slot).bind fun x1=>(if decide (x1 < 0) then some 0 else (uM slot x1).bind fun x2=>(lS h.Bytes x2 4).bind fun x3=>some x3)
def XD:Option Bool:=
  some true
def wG(x2:Int)(x4:Bool):Option (Step Int (Out Unit Bool)):=
  (if x4 then some (.stop (Out.ret false)) else some (.next (aV (x2+1))))
def mE(h:aE)(s:aK)(c:Int):Int→Option (Step Int (Out Unit Bool))
  | x2=>(if decide (x2 < (s.aM.length:Int)) then (idx s.aM x2).bind fun x3=>(nO h x3).bind fun x5=>(if x5 != c then wG x2 true else (AG h x3).bind fun x6=>wG x2 (decide (6 < x6))) else some (.stop (Out.brk ())))
def XE:(Out Unit Bool)→Option Bool
  | .brk ()=>XD
  | .ret r=>some r
def yG(h:aE)(s:aK)(c:Int):Option Bool:=
  (loop (mE h s c) 0).bind (XE)
def aFF:Option Bool:=
  some true
def sW(m:Mem):Int→Option (Step Int (Out Unit Bool))
  | x5=>(if decide (x5 < (m.aB.Own.length:Int)) then (idx m.aB.Own x5).bind fun x6=>(yG m.aE x6 (Int.tmod x5 3)).bind fun x7=>(if !x7 then some (.stop (Out.ret false)) else some (.next (aV (x5+1)))) else some (.stop (Out.brk ())))
def aFG:(Out Unit Bool)→Option Bool
  | .brk ()=>aFF
  | .ret r=>some r
def SY(m:Mem):Option Bool:=
  (loop (sW m) 0).bind (aFG)
def sY(m:Mem):Int→Option (Step Int (Out Unit Bool))
  | x3=>(if decide (x3 < (m.aB.Global.length:Int)) then (idx m.aB.Global x3).bind fun x8=>(yG m.aE x8 x3).bind fun x9=>(if !x9 then some (.stop (Out.ret false)) else some (.next (aV (x3+1)))) else some (.stop (Out.brk ())))
def SZ(m:Mem):(Out Unit Bool)→Option Bool
  | .brk ()=>SY m
  | .ret r=>some r
def EW(m:Mem)(x1:Bool):Option Bool:=
  (if x1 then some false else (loop (sY m) 0).bind (SZ m))
def I3(m:Mem):Option Bool:=
  (FZ m.aE).bind fun x10=>(if !x10 then EW m true else (jY m.aB).bind fun x11=>EW m (!x11))
def AY:Option Int:=
  some (-1)
def iQ(s:List o5)(f:(o5→Option Bool)):Int→Option (Step Int (Out Unit Int))
  | x2=>(if decide (x2 < (s.length:Int)) then (idx s x2).bind fun x3=>(f x3).bind fun x4=>(if x4 then some (.stop (Out.ret x2)) else some (.next (aV (x2+1)))) else some (.stop (Out.brk ())))
def pQ:(Out Unit Int)→Option Int
  | .brk ()=>AY
  | .ret r=>some r
def uN(s:List o5)(f:(o5→Option Bool)):Option Int:=
  (loop (iQ s f) 0).bind (pQ)
def kQ(s:List o5)(f:(o5→Option Bool)):Option Bool:=
  (uN s f).bind fun x1=>some (decide (0≤x1))
def kR(x1:Bool):Option Bool:=
  some x1
def uO(p:o5)(k0:aH):Option Bool:=
  (cR p.aL 0 k0.aL).bind fun x2=>(if !x2 then kR true else (cR p.Seen 0 2).bind fun x3=>(if !x3 then kR true else (if !p.On then kR (!(decide (p=(⟨false,0,false,0⟩:o5)))) else kR false)))
def sB(x1:Bool):Option Bool:=
  some x1
def nP(c:aH):Option Bool:=
  (cR c.aL 0 100000).bind fun x2=>(if x2 then (if (c.bO.length:Int) == 3 then (kQ c.bO (fun y0=>uO y0 c)).bind fun x3=>sB (!x3) else sB false) else sB false)
def mF(x1:Bool):Option Bool:=
  some x1
def gR(h:Int):Option Bool:=
  (cR h 32 223).bind fun x2=>(if x2 then mF (decide ((Int.tmod h 32) < 24)) else mF false)
def B4(x5:Int):Option Int:=
  some x5
def i5(l:List aS):(Int×Int)→Option (Step (Int×Int) Int)
  | (x3,x4)=>(if decide (x4 < (l.length:Int)) then (idx l x4).bind fun x6=>some (.next (aV (x3+(x6.Rows.length:Int)),aV (x4+1))) else some (.stop (x3)))
def U7:Int→Option Int
  | x5=>B4 x5
def uP(l:List aS):Option Int:=
  (loop (i5 l) (0,0)).bind (U7)
def zI(l:List aS):Option Bool:=
  (uP l).bind fun x5=>some (decide (x5≤24))
def zJ(x3:Int)(x11:List Bool):Option (Step (Int×(List Bool)) (Out Unit Bool)):=
  some (.next (aV (x3+1),x11))
def jC(x9:Int)(x10:List Bool)(x12:c9)(x13:Bool):Option (Step (Int×(List Bool)) (Out (List Bool) Bool)):=
  (if x13 then some (.stop (Out.ret false)) else need (0≤(Int.tmod x12.Handle 32:Int)∧(Int.tmod x12.Handle 32:Int) < 24) ((idx (x10:List Bool) (Int.tmod x12.Handle 32)).bind fun x14=>some (.next (aV (x9+1),x10.set ((Int.tmod x12.Handle 32).toNat) true))))
def lC(x6:aS):(Int×(List Bool))→Option (Step (Int×(List Bool)) (Out (List Bool) Bool))
  | (x9,x10)=>(if decide (x9 < (x6.Rows.length:Int)) then (idx x6.Rows x9).bind fun x12=>(gR x12.Handle).bind fun x15=>(if !x15 then jC x9 x10 x12 true else (cR x12.aL 0 100000).bind fun x16=>(if !x16 then jC x9 x10 x12 true else need (0≤(Int.tmod x12.Handle 32:Int)∧(Int.tmod x12.Handle 32:Int) < 24) ((idx (x10:List Bool) (Int.tmod x12.Handle 32)).bind fun x17=>jC x9 x10 x12 x17))) else some (.stop (Out.brk x10)))
def OX(x3:Int):(Out (List Bool) Bool)→Option (Step (Int×(List Bool)) (Out Unit Bool))
  | .brk x11=>zJ x3 x11
  | .ret r=>some (.stop (Out.ret r))
def lD(l:List aS):(Int×(List Bool))→Option (Step (Int×(List Bool)) (Out Unit Bool))
  | (x3,x4)=>(if decide (x3 < (l.length:Int)) then (idx l x3).bind fun x6=>(loop (lC x6) (0,x4)).bind (OX x3) else some (.stop (Out.brk ())))
def OY(l:List aS):(Out Unit Bool)→Option Bool
  | .brk ()=>zI l
  | .ret r=>some r
def lU(l:List aS):Option Bool:=
  (if (l.length:Int) != 3 then some false else (loop (lD l) (0,[false,false,false,false,false,false,false,false,false,false,false,false,false,false,false,false,false,false,false,false,false,false,false,false])).bind (OY l))
def uQ(x1:Bool):Option Bool:=
  some x1
def qX(h:Int):Option Bool:=
  (if h == 0 then uQ true else (gR h).bind fun x2=>uQ x2)
def HQ(h:Int):Option Bool:=
  (qX h).bind fun x1=>some (!x1)
def EX(x1:Bool):Option Bool:=
  some x1
def D7(z:List Int):Option Bool:=
  (if (z.length:Int) == 3 then (eJ z (fun y0=>HQ y0)).bind fun x2=>EX (!x2) else EX false)
def xN:Option Int:=
  some (-1)
def jK(s:List aS)(f:(aS→Option Bool)):Int→Option (Step Int (Out Unit Int))
  | x2=>(if decide (x2 < (s.length:Int)) then (idx s x2).bind fun x3=>(f x3).bind fun x4=>(if x4 then some (.stop (Out.ret x2)) else some (.next (aV (x2+1)))) else some (.stop (Out.brk ())))
def m0:(Out Unit Int)→Option Int
  | .brk ()=>xN
  | .ret r=>some r
def rE(s:List aS)(f:(aS→Option Bool)):Option Int:=
  (loop (jK s f) 0).bind (m0)
def hQ(s:List aS)(f:(aS→Option Bool)):Option Bool:=
  (rE s f).bind fun x1=>some (decide (0≤x1))
def yH:Option Int:=
  some (-1)
def jZ(s:List c9)(f:(c9→Option Bool)):Int→Option (Step Int (Out Unit Int))
  | x2=>(if decide (x2 < (s.length:Int)) then (idx s x2).bind fun x3=>(f x3).bind fun x4=>(if x4 then some (.stop (Out.ret x2)) else some (.next (aV (x2+1)))) else some (.stop (Out.brk ())))
def oO:(Out Unit Int)→Option Int
  | .brk ()=>yH
  | .ret r=>some r
def tN(s:List c9)(f:(c9→Option Bool)):Option Int:=
  (loop (jZ s f) 0).bind (oO)
def iG(s:List c9)(f:(c9→Option Bool)):Option Bool:=
  (tN s f).bind fun x1=>some (decide (0≤x1))
def HH:Option Int:=
  some (-1)
def eN(s:List Int)(v:Int):Int→Option (Step Int (Out Unit Int))
  | x2=>(if decide (x2 < (s.length:Int)) then (idx s x2).bind fun x3=>(if v == x3 then some (.stop (Out.ret x2)) else some (.next (aV (x2+1)))) else some (.stop (Out.brk ())))
def o7:(Out Unit Int)→Option Int
  | .brk ()=>HH
  | .ret r=>some r
def mG(s:List Int)(v:Int):Option Int:=
  (loop (eN s v) 0).bind (o7)
def o8(s:List Int)(v:Int):Option Bool:=
  (mG s v).bind fun x1=>some (decide (0≤x1))
def oP(s:aK)(k0:Int):Option Bool:=
  (o8 s.aM k0).bind fun x1=>some x1
def xO:Option Int:=
  some (-1)
def jL(s:List aK)(f:(aK→Option Bool)):Int→Option (Step Int (Out Unit Int))
  | x2=>(if decide (x2 < (s.length:Int)) then (idx s x2).bind fun x3=>(f x3).bind fun x4=>(if x4 then some (.stop (Out.ret x2)) else some (.next (aV (x2+1)))) else some (.stop (Out.brk ())))
def m3:(Out Unit Int)→Option Int
  | .brk ()=>xO
  | .ret r=>some r
def rF(s:List aK)(f:(aK→Option Bool)):Option Int:=
  (loop (jL s f) 0).bind (m3)
def hU(s:List aK)(f:(aK→Option Bool)):Option Bool:=
  (rF s f).bind fun x1=>some (decide (0≤x1))
def B5(x1:Bool):Option Bool:=
  some x1
def F5(l:aB)(slot:Int):Option Bool:=
  (hU l.Global (fun y0=>oP y0 slot)).bind fun x2=>(if x2 then B5 true else (hU l.Own (fun y0=>oP y0 slot)).bind fun x3=>B5 x3)
def HR(m:Mem)(slot:Int):Option Int:=
  (nO m.aE slot).bind fun x1=>(if decide (x1 < 0) then some 0 else (F5 m.aB slot).bind fun x2=>(if x2 then some 1 else (AG m.aE slot).bind fun x3=>(if decide (6 < x3) then some 2 else some 3)))
def uR(x1:Bool):Option Bool:=
  some x1
def AZ(m:Mem)(h:Int):Option Bool:=
  (gR h).bind fun x2=>(if x2 then (HR m (Int.tmod h 32)).bind fun x3=>(if x3 == 3 then (AG m.aE (Int.tmod h 32)).bind fun x4=>uR (x4 == (aV (Int.tdiv h 32))) else uR false) else uR false)
def rG(x1:Bool):Option Bool:=
  some x1
def zK(r_:c9)(k0:aD):Option Bool:=
  (AZ k0.Mem r_.Handle).bind fun x2=>(if !x2 then rG true else rG (decide (k0.aH.aL < r_.aL)))
def EY(l:aS)(k0:aD):Option Bool:=
  (iG l.Rows (fun y0=>zK y0 k0)).bind fun x1=>some x1
def pR(b:aD)(x1:Bool):Option Bool:=
  (if x1 then some false else (hQ b.aU (fun y0=>EY y0 b)).bind fun x2=>some (!x2))
def KN(b:aD):Option Bool:=
  (I3 b.Mem).bind fun x3=>(if !x3 then pR b true else (nP b.aH).bind fun x4=>(if !x4 then pR b true else (lU b.aU).bind fun x5=>(if !x5 then pR b true else (D7 b.mA).bind fun x6=>pR b (!x6))))
def xP:Option Int:=
  some (-1)
def jM(s:List Queue)(f:(Queue→Option Bool)):Int→Option (Step Int (Out Unit Int))
  | x2=>(if decide (x2 < (s.length:Int)) then (idx s x2).bind fun x3=>(f x3).bind fun x4=>(if x4 then some (.stop (Out.ret x2)) else some (.next (aV (x2+1)))) else some (.stop (Out.brk ())))
def m4:(Out Unit Int)→Option Int
  | .brk ()=>xP
  | .ret r=>some r
def rH(s:List Queue)(f:(Queue→Option Bool)):Option Int:=
  (loop (jM s f) 0).bind (m4)
def jN(s:List Queue)(f:(Queue→Option Bool)):Option Bool:=
  (rH s f).bind fun x1=>some (decide (0≤x1))
def B6:Option Int:=
  some (-1)
def lV(s:List eU)(f:(eU→Option Bool)):Int→Option (Step Int (Out Unit Int))
  | x2=>(if decide (x2 < (s.length:Int)) then (idx s x2).bind fun x3=>(f x3).bind fun x4=>(if x4 then some (.stop (Out.ret x2)) else some (.next (aV (x2+1)))) else some (.stop (Out.brk ())))
def rI:(Out Unit Int)→Option Int
  | .brk ()=>B6
  | .ret r=>some r
def xT(s:List eU)(f:(eU→Option Bool)):Option Int:=
  (loop (lV s f) 0).bind (rI)
def lW(s:List eU)(f:(eU→Option Bool)):Option Bool:=
  (xT s f).bind fun x1=>some (decide (0≤x1))
def HT(x4:Bool):Option Bool:=
  some x4
def HU(x7:Bool):Option Bool:=
  some x7
def B7(o_:eU)(x3:Bool):Option Bool:=
  (if x3 then some false else (if o_.Kind == 1 then (cR o_.dU 0 100).bind fun x5=>(if x5 then (cR o_.eH 0 65535).bind fun x6=>HT x6 else HT false) else (if o_.dU == 0 then HU (o_.eH == 0) else HU false)))
def nQ(o_:eU)(x1:Bool):Option Bool:=
  (cR o_.Kind 1 7).bind fun x2=>(if !x2 then some false else (if x1 then (cR o_.Cell 0 1).bind fun x8=>(if !x8 then B7 o_ true else B7 o_ false) else B7 o_ (o_.Cell != 0)))
def IQ(o_:eU):Option Bool:=
  (if o_.Kind == 1 then nQ o_ true else (if o_.Kind == 2 then nQ o_ true else (if o_.Kind == 3 then nQ o_ true else nQ o_ (o_.Kind == 7))))
def zL(o_:eU):Option Bool:=
  (IQ o_).bind fun x1=>some (!x1)
def wH(x1:Bool):Option Bool:=
  some x1
def EZ(q:Queue):Option Bool:=
  (if decide (12 < (q.jJ.length:Int)) then wH true else (lW q.jJ (fun y0=>zL y0)).bind fun x2=>wH x2)
def B8(x1:Bool):Option Bool:=
  some x1
def F6(todo:List Queue):Option Bool:=
  (if (todo.length:Int) == 3 then (jN todo (fun y0=>EZ y0)).bind fun x2=>B8 (!x2) else B8 false)
def uS(h:Int):Option Bool:=
  (qX h).bind fun x1=>some (!x1)
def A0:Option Int:=
  some (-1)
def kS(s:List bR)(f:(bR→Option Bool)):Int→Option (Step Int (Out Unit Int))
  | x2=>(if decide (x2 < (s.length:Int)) then (idx s x2).bind fun x3=>(f x3).bind fun x4=>(if x4 then some (.stop (Out.ret x2)) else some (.next (aV (x2+1)))) else some (.stop (Out.brk ())))
def pS:(Out Unit Int)→Option Int
  | .brk ()=>A0
  | .ret r=>some r
def uT(s:List bR)(f:(bR→Option Bool)):Option Int:=
  (loop (kS s f) 0).bind (pS)
def kT(s:List bR)(f:(bR→Option Bool)):Option Bool:=
  (uT s f).bind fun x1=>some (decide (0≤x1))
def yI(x1:Bool):Option Bool:=
  some x1
def NU(j:bR):Option Bool:=
  (if !j.fV then some (decide (j=(⟨false,(⟨0,0,0,0⟩:eU),0,0,(⟨0,0,0,0,0,0,0,0,0,false⟩:Sub),0,0,0,0⟩:bR))) else (IQ j.Op).bind fun x2=>(if x2 then (qX j.H).bind fun x3=>(if x3 then (qX j.Old).bind fun x4=>yI x4 else yI false) else yI false))
def B9(j:bR):Option Bool:=
  (NU j).bind fun x1=>some (!x1)
def iH(x1:Bool):Option Bool:=
  some x1
def wI(s:aA):Option Bool:=
  (KN s.aD).bind fun x2=>(if x2 then (if (s.Cells.length:Int) == 2 then (if (s.aQ.length:Int) == 3 then (F6 s.cE).bind fun x3=>(if x3 then (cR s.aJ 0 1000000).bind fun x4=>(if x4 then (eJ s.Cells (fun y0=>uS y0)).bind fun x5=>(if !x5 then (kT s.aQ (fun y0=>B9 y0)).bind fun x6=>iH (!x6) else iH false) else iH false) else iH false) else iH false) else iH false) else iH false)
def dN(s:aA)(kind w_ handle val code:Int)(x1:bR):Option aA:=
  some ({s with Log:=s.Log++([(⟨kind,w_,x1.aJ,x1.Op.Cell,handle,val,code⟩:Ev)])}:aA)
def dB(s:aA)(kind w_ handle val code:Int):Option aA:=
  (idx s.aQ w_).bind fun x1=>need (s.Log.length+([(⟨kind,w_,x1.aJ,x1.Op.Cell,handle,val,code⟩:Ev)]).length≤1073741824)<|dN s kind w_ handle val code x1
def wJ(s:List eU)(i j:Int):Option (List eU):=
  need (0≤(i:Int)∧(i:Int)≤(j:Int)∧(j:Int)≤((s.length:Int):Int)∧((s.length:Int):Int)≤(s.length:Int)) ((if i == j then some s else need (0≤(i:Int)∧(i:Int)≤(s.length:Int)) (need (0≤(j:Int)∧(j:Int)≤(s.length:Int)) (need (i.toNat≤j.toNat) (need (0≤(((((dE s i.toNat (s.drop j.toNat)).take (i.toNat+(s.length - j.toNat))).drop 0).length:Int):Int)∧(((((dE s i.toNat (s.drop j.toNat)).take (i.toNat+(s.length - j.toNat))).drop 0).length:Int):Int)≤((s.length:Int):Int)∧((s.length:Int):Int)≤((dE s i.toNat (s.drop j.toNat)).length:Int)) (some (((dE s i.toNat (s.drop j.toNat)).take (i.toNat+(s.length - j.toNat))).drop 0)))))))
def jD(kind a_:Int):Option Sub:=
  some (⟨kind,a_,0,0,0,0,0,0,0,false⟩:Sub)
def bP(j:bR)(code:Int):Option bR:=
  some ({j with Pc:=9,Code:=code}:bR)
def dT(s:aA)(w_:Int)(x4:(List eU))(x5:bR):Option aA:=
  (idx s.aQ w_).bind fun x6=>(dB ({s with aQ:=s.aQ.set w_.toNat x5,cE:=s.cE.set w_.toNat (⟨x4⟩:Queue),aJ:=aV (s.aJ+1)}:aA) 1 w_ 0 0 0).bind fun x7=>some x7
def jA(s:aA)(w_:Int)(x3:eU)(x4:(List eU))(x9:Bool):Option aA:=
  (if x9 then (jD 5 0).bind fun x10=>(idx s.aD.aH.bO w_).bind fun x11=>(if x11.On then (bP (⟨true,x3,aV (s.aJ+1),0,x10,0,0,0,0⟩:bR) 1).bind fun x12=>dT s w_ x4 x12 else dT s w_ x4 (⟨true,x3,aV (s.aJ+1),0,x10,0,0,0,0⟩:bR)) else (if x3.Kind == 4 then (jD 3 0).bind fun x13=>dT s w_ x4 (⟨true,x3,aV (s.aJ+1),0,x13,0,0,0,0⟩:bR) else dT s w_ x4 (⟨true,x3,aV (s.aJ+1),0,(⟨0,0,0,0,0,0,0,0,0,false⟩:Sub),0,0,0,0⟩:bR)))
def o9(s:aA)(w_:Int)(x1:Bool):Option aA:=
  (if x1 then some s else (idx s.cE w_).bind fun x2=>(idx x2.jJ 0).bind fun x3=>(wJ x2.jJ 0 1).bind fun x4=>(if x3.Kind == 1 then (jD 1 x3.dU).bind fun x8=>dT s w_ x4 (⟨true,x3,aV (s.aJ+1),0,x8,0,0,0,0⟩:bR) else (if x3.Kind == 2 then jA s w_ x3 x4 true else jA s w_ x3 x4 (x3.Kind == 5))))
def wK(s:aA)(w_:Int):Option aA:=
  (idx s.cE w_).bind fun x14=>(if (x14.jJ.length:Int) == 0 then o9 s w_ true else o9 s w_ (s.aJ == 1000000))
def ZC:Option Int:=
  some (-1)
def zN(x2:Int)(x3:Bool):Option (Step Int (Out Unit Int)):=
  (if x3 then some (.stop (Out.ret x2)) else some (.next (aV (x2+1))))
def jE(size:Int):Int→Option (Step Int (Out Unit Int))
  | x2=>(if decide (x2 < 3) then (if decide (1≤size) then (AX x2).bind fun x4=>zN x2 (decide (size≤x4)) else zN x2 false) else some (.stop (Out.brk ())))
def ZD:(Out Unit Int)→Option Int
  | .brk ()=>ZC
  | .ret r=>some r
def wL(size:Int):Option Int:=
  (loop (jE size) 0).bind (ZD)
def bI(s:Sub)(code:Int):Option Sub:=
  some ({s with Code:=code,cS:=true}:Sub)
def eV(w_:Int):Option Bool:=
  (cR w_ 0 2).bind fun x1=>some x1
def E0(w_ c:Int)(x1:Bool):Option Int:=
  (if x1 then some (-1) else some (aV ((aV (w_ * 3))+c)))
def D8(w_ c:Int):Option Int:=
  (eV w_).bind fun x2=>(if !x2 then E0 w_ c true else (jX c).bind fun x3=>E0 w_ c (!x3))
def uU(s:aK):Option (Int×aK):=
  (if decide ((aV ((s.aM.length:Int) - 1)) < 0) then some ((-1),s) else (idx s.aM (aV ((s.aM.length:Int) - 1))).bind fun x1=>need (0≤(aV ((s.aM.length:Int) - 1):Int)∧(aV ((s.aM.length:Int) - 1):Int)≤(aV ((s.aM.length:Int) - 1):Int)∧(aV ((s.aM.length:Int) - 1):Int)≤(s.aM.length:Int)) (some (x1,(⟨(s.aM.take ((aV ((s.aM.length:Int) - 1)).toNat)).drop 0⟩:aK))))
def zO(x1:aB)(x2:Int)(x3:Bool):Option (aB×Int):=
  (if x3 then some (x1,(-1)) else (idx x1.Own x2).bind fun x4=>(uU x4).bind fun x5=>some ((⟨x1.Global,x1.Own.set x2.toNat x5.2⟩:aB),x5.1))
def HV(l:aB)(w_ c:Int):Option (aB×Int):=
  (iF l).bind fun x1=>(D8 w_ c).bind fun x2=>(jY l).bind fun x6=>(if !x6 then zO x1 x2 true else zO x1 x2 (decide (x2 < 0)))
def rJ(c:Int)(x1:aB)(x2:Bool):Option (aB×Int):=
  (if x2 then some (x1,(-1)) else (idx x1.Global c).bind fun x3=>(uU x3).bind fun x4=>some ((⟨x1.Global.set c.toNat x4.2,x1.Own⟩:aB),x4.1))
def zP(l:aB)(c:Int):Option (aB×Int):=
  (iF l).bind fun x1=>(jY l).bind fun x5=>(if !x5 then rJ c x1 true else (jX c).bind fun x6=>rJ c x1 (!x6))
def j4(width:Int):Option Bool:=
  (cR width 1 7).bind fun x1=>some x1
def aFH(x8:List UInt8):Option (List UInt8):=
  some x8
def E1:(Int×(List UInt8)×Int)→Option (Step (Int×(List UInt8)×Int) (List UInt8))
  | (x5,x6,x7)=>(if decide (0≤x7) then (idx x6 x7).bind fun x9=>some (.next (uG .i64 x5 8,x6.set x7.toNat (u8 x5),aV (x7 - 1))) else some (.stop (x6)))
def aFI:(List UInt8)→Option (List UInt8)
  | x8=>aFH x8
def yJ(n width:Int)(x1:Bool):Option (List UInt8):=
  (if x1 then some ([]) else need (0≤(width:Int)∧(width:Int)≤4294967296) ((loop (E1) (n,List.replicate (width.toNat) 0,aV (width - 1))).bind (aFI)))
def AH(n width:Int):Option (List UInt8):=
  (j4 width).bind fun x10=>(if !x10 then yJ n width true else (if decide (n < 0) then yJ n width true else need (0≤(IntKind.u64.wrap (aV (8 * width)):Int)) (yJ n width (decide ((aGT .i64 1 (IntKind.u64.wrap (aV (8 * width))))≤n)))))
def QI(b x5:List Int):Option (List Int):=
  need (x5.length=b.length) (some x5)
def CA(b:List Int)(at_:Int)(text:List UInt8):((List Int)×Int)→Option (Step ((List Int)×Int) (List Int))
  | (x3,x4)=>need (x3.length=b.length) ((if decide (x4 < (text.length:Int)) then (idx text x4).bind fun x6=>(idx x3 (aV (at_+x4))).bind fun x7=>some (.next (x3.set ((aV (at_+x4)).toNat) (x6.toNat:Int),aV (x4+1))) else some (.stop (x3))))
def QJ(b:List Int):(List Int)→Option (List Int)
  | x5=>QI b x5
def uV(b:List Int)(at_:Int)(text:List UInt8):Option (List Int):=
  (loop (CA b at_ text) (b,0)).bind (QJ b)
def CB(page index:Int)(x1:Bool):Option Int:=
  (if x1 then some (-1) else some (aV ((aV (page * 4))+index)))
def KO(page index:Int):Option Int:=
  (cR page 0 5).bind fun x2=>(if !x2 then CB page index true else (cR index 0 3).bind fun x3=>CB page index (!x3))
def aFJ(c:Int)(x1:aE)(x2:Int)(x13 x14:List Int):Option (aE×(List Int)):=
  some ((⟨x14,x1.Class.set x2.toNat c⟩:aE),x13)
def LI(x10:List Int)(x11 x15:Int)(x16:List Int):Option (Step ((List Int)×Int×(List Int)) ((List Int)×(List Int))):=
  need (x10.length+([x15]).length≤1073741824) (some (.next (x10++([x15]),aV (x11+1),x16)))
def E2(c x2 x6:Int):((List Int)×Int×(List Int))→Option (Step ((List Int)×Int×(List Int)) ((List Int)×(List Int)))
  | (x10,x11,x12)=>(if decide (x11 < x6) then (KO x2 x11).bind fun x15=>(uM x15 c).bind fun x17=>(AH 1 4).bind fun x18=>(uV x12 x17 x18).bind fun x19=>LI x10 x11 x15 x19 else some (.stop ((x10,x12))))
def aFK(c:Int)(x1:aE)(x2:Int):((List Int)×(List Int))→Option (aE×(List Int))
  | (x13,x14)=>aFJ c x1 x2 x13 x14
def LJ(c:Int)(x1:aE)(x2:Int)(x5:List Int):Option (aE×(List Int)):=
  (nN c).bind fun x6=>(loop (E2 c x2 x6) (([]:List Int),0,x5)).bind (aFK c x1 x2)
def yK(c:Int)(x1:aE)(x2:Int)(x3:Bool):Option (aE×(List Int)):=
  (if x3 then some (x1,([]:List Int)) else (idx x1.Class x2).bind fun x4=>need (0≤(aV (x2 * 64):Int)∧(aV (x2 * 64):Int)≤(x1.Bytes.length:Int))<|(nN c).bind fun x20=>LJ c x1 x2 (dE x1.Bytes ((aV (x2 * 64)).toNat) ([171,c,x20]:List Int)))
def D9(h:aE)(c:Int):Option (aE×(List Int)):=
  (sU h).bind fun x1=>(mG h.Class (-1)).bind fun x2=>(FZ h).bind fun x21=>(if !x21 then yK c x1 x2 true else (jX c).bind fun x22=>(if !x22 then yK c x1 x2 true else yK c x1 x2 (decide (x2 < 0))))
def GR(x4:Int)(x5:Mem):Option (Mem×Int):=
  some (x5,x4)
def GS(c:Int)(x1:aE×(List Int))(x2:Mem):Option (Mem×Int):=
  (if (x1.2.length:Int) == 0 then some (x2,(-1)) else (idx x2.aB.Global c).bind fun x3=>need (0≤(1:Int)∧(1:Int)≤(x1.2.length:Int)) (need (x3.aM.length+((x1.2.take x1.2.length).drop ((1:Int).toNat)).length≤1073741824) ((idx x1.2 0).bind fun x6=>GR x6 (⟨x2.aE,(⟨x2.aB.Global.set c.toNat (⟨x3.aM++((x1.2.take x1.2.length).drop ((1:Int).toNat))⟩:aK),x2.aB.Own⟩:aB)⟩:Mem))))
def HW(m:Mem)(c:Int):Option (Mem×Int):=
  (D9 m.aE c).bind fun x1=>(iF m.aB).bind fun x7=>GS c x1 (⟨x1.1,x7⟩:Mem)
def wM(slot gen:Int)(x1:Bool):Option Int:=
  (if x1 then some 0 else some (aV ((aV (gen * 32))+slot)))
def LK(slot gen:Int):Option Int:=
  (l8 slot).bind fun x2=>(if !x2 then wM slot gen true else (cR gen 1 6).bind fun x3=>wM slot gen (!x3))
def E3(m:Mem)(slot:Int):Option Int:=
  (AG m.aE slot).bind fun x1=>(LK slot x1).bind fun x2=>some x2
def iD(s:Sub)(x3:Int)(x4:aD):Option (Sub×aD):=
  (if decide (0≤x3) then (E3 x4.Mem x3).bind fun x5=>(bI ({s with Out:=x5}:Sub) 0).bind fun x6=>some (x6,x4) else (if s.Pc == 3 then (bI s 3).bind fun x7=>some (x7,x4) else some (({s with Pc:=aV (s.Pc+1)}:Sub),x4)))
def mX(s:Sub)(b:aD)(x1:Int)(x9:Bool):Option (Sub×aD):=
  (if x9 then (zP b.Mem.aB x1).bind fun x10=>iD s x10.2 ({b with Mem:=(⟨b.Mem.aE,x10.1⟩:Mem)}:aD) else (if s.Pc == 2 then (HW b.Mem x1).bind fun x11=>iD s x11.2 ({b with Mem:=x11.1}:aD) else (bI s 1).bind fun x12=>some (x12,b)))
def rK(s:Sub)(b:aD)(w_:Int):Option (Sub×aD):=
  (wL s.A).bind fun x1=>(if decide (x1 < 0) then (bI s 2).bind fun x2=>some (x2,b) else (if s.Pc == 0 then (HV b.Mem.aB w_ x1).bind fun x8=>iD s x8.2 ({b with Mem:=(⟨b.Mem.aE,x8.1⟩:Mem)}:aD) else (if s.Pc == 1 then mX s b x1 true else mX s b x1 (s.Pc == 3))))
def pA(x1:Bool):Option Bool:=
  some x1
def pT(r_:c9)(k0:Int):Option Bool:=
  (gR r_.Handle).bind fun x2=>(if x2 then pA ((Int.tmod r_.Handle 32) == k0) else pA false)
def CC(own:aS)(k0:Int):Option Bool:=
  (iG own.Rows (fun y0=>pT y0 k0)).bind fun x1=>some x1
def HX(l:List aS)(slot:Int):Option Bool:=
  (hQ l (fun y0=>CC y0 slot)).bind fun x1=>some x1
def wN(l:List aS)(w_ h e_:Int)(x1:Bool):Option ((List aS)×Bool):=
  (if x1 then (kD l).bind fun x2=>some (x2,false) else (kD l).bind fun x3=>(idx x3 w_).bind fun x4=>need (x4.Rows.length+([(⟨h,e_⟩:c9)]).length≤1073741824) ((lU (x3.set w_.toNat (⟨x4.Rows++([(⟨h,e_⟩:c9)])⟩:aS))).bind fun x5=>(if !x5 then (kD l).bind fun x6=>some (x6,false) else some (x3.set w_.toNat (⟨x4.Rows++([(⟨h,e_⟩:c9)])⟩:aS),true))))
def E4(l:List aS)(w_ h e_:Int):Option ((List aS)×Bool):=
  (lU l).bind fun x7=>(if !x7 then wN l w_ h e_ true else (eV w_).bind fun x8=>wN l w_ h e_ (!x8))
def lX(s:Sub)(b:aD)(w_:Int)(x3:Bool):Option (Sub×aD):=
  (if x3 then (bI s 4).bind fun x4=>some (x4,b) else (E4 b.aU w_ s.A s.E).bind fun x5=>(bI s 0).bind fun x6=>some (x6,({b with aU:=x5.1}:aD)))
def lY(s:Sub)(b:aD)(w_:Int)(x1:Bool):Option (Sub×aD):=
  (if x1 then (bI s 1).bind fun x2=>some (x2,b) else (AZ b.Mem s.A).bind fun x7=>(if !x7 then lX s b w_ true else (HX b.aU (Int.tmod s.A 32)).bind fun x8=>lX s b w_ x8))
def pB(s:Sub)(b:aD)(w_:Int):Option (Sub×aD):=
  (if s.Pc == 0 then some (({s with Pc:=1,E:=b.aH.aL}:Sub),b) else (if s.Pc != 1 then lY s b w_ true else (cR s.E 0 b.aH.aL).bind fun x9=>lY s b w_ (!x9)))
def pU(w_:Int)(x1:aH)(x4:Bool):Option (aH×Bool):=
  (if x4 then some (x1,true) else (idx x1.bO w_).bind fun x5=>(if decide (x5.Seen < 2) then some ((⟨x1.aL,x1.bO.set w_.toNat ({x5 with Seen:=aV (x5.Seen+1)}:o5)⟩:aH),false) else some ((⟨x1.aL,x1.bO.set w_.toNat ({x5 with eW:=true,Seen:=0}:o5)⟩:aH),true)))
def CD(w_ e_:Int)(x1:aH)(x2:Bool):Option (aH×Bool):=
  (if x2 then some (x1,false) else (idx x1.bO w_).bind fun x3=>(if !x3.On then pU w_ x1 true else (if x3.eW then pU w_ x1 true else pU w_ x1 (x3.aL == e_))))
def KP(c:aH)(w_ e_:Int):Option (aH×Bool):=
  (kC c).bind fun x1=>(nP c).bind fun x6=>(if !x6 then CD w_ e_ x1 true else (eV w_).bind fun x7=>CD w_ e_ x1 (!x7))
def CE(x1:aH)(x2:Bool):Option (aH×Bool):=
  (if x2 then some (x1,false) else some ((⟨aV (x1.aL+1),x1.bO⟩:aH),true))
def R7(c:aH)(e_:Int):Option (aH×Bool):=
  (kC c).bind fun x1=>(nP c).bind fun x3=>(if !x3 then CE x1 true else (if c.aL != e_ then CE x1 true else CE x1 (c.aL == 100000)))
def kU(s:Sub)(b:aD)(x4:aH×Bool)(x5:Int):Option (Sub×aD):=
  (bI ({s with Out:=x5}:Sub) 0).bind fun x6=>some (x6,({b with aH:=x4.1}:aD))
def kV(s:Sub)(b:aD)(x1:Bool):Option (Sub×aD):=
  (if x1 then (KP b.aH s.B s.E).bind fun x2=>(if !x2.2 then (bI s 8).bind fun x3=>some (x3,({b with aH:=x2.1}:aD)) else (if (aV (s.B+1)) == 3 then some (({s with Pc:=2,B:=aV (s.B+1)}:Sub),({b with aH:=x2.1}:aD)) else some (({s with B:=aV (s.B+1)}:Sub),({b with aH:=x2.1}:aD)))) else (if s.Pc == 2 then (R7 b.aH s.E).bind fun x4=>(if x4.2 then kU s b x4 1 else kU s b x4 s.Out) else (bI s 1).bind fun x7=>some (x7,b)))
def nR(s:Sub)(b:aD):Option (Sub×aD):=
  (if s.Pc == 0 then some (({s with Pc:=1,E:=b.aH.aL,B:=0}:Sub),b) else (if s.Pc == 1 then (eV s.B).bind fun x8=>kV s b x8 else kV s b false))
def CF(x1:Bool):Option Bool:=
  some x1
def F7(l:List aS)(w_ i:Int):Option Bool:=
  (eV w_).bind fun x2=>(if x2 then (idx l w_).bind fun x3=>(cR i 0 (aV ((x3.Rows.length:Int) - 1))).bind fun x4=>CF x4 else CF false)
def HY(x1:Bool):Option Bool:=
  some x1
def MX(r_:c9)(e_:Int):Option Bool:=
  (if decide (2≤e_) then HY (decide (r_.aL≤(aV (e_ - 2)))) else HY false)
def F8(s:Sub)(b:aD):Option (Sub×aD):=
  (bI s 0).bind fun x3=>some (x3,b)
def eS(s:Sub)(b:aD)(w_:Int):Int→Option (Step Int (Out Unit (Sub×aD)))
  | x2=>(idx b.aU w_).bind fun x4=>(if decide (x2 < (x4.Rows.length:Int)) then (idx x4.Rows x2).bind fun x5=>(MX x5 s.E).bind fun x6=>(if x6 then some (.stop (Out.ret (({s with Pc:=2,Row:=x2,B:=0,H:=x5.Handle}:Sub),b))) else some (.next (aV (x2+1)))) else some (.stop (Out.brk ())))
def QK(s:Sub)(b:aD):(Out Unit (Sub×aD))→Option (Sub×aD)
  | .brk ()=>F8 s b
  | .ret r=>some r
def nS(s:Sub)(b:aD)(w_:Int):Option (Sub×aD):=
  (loop (eS s b w_) (if s.Row < 0 then 0 else s.Row)).bind (QK s b)
def AI(s:List c9)(i j:Int):Option (List c9):=
  need (0≤(i:Int)∧(i:Int)≤(j:Int)∧(j:Int)≤((s.length:Int):Int)∧((s.length:Int):Int)≤(s.length:Int)) ((if i == j then some s else need (0≤(i:Int)∧(i:Int)≤(s.length:Int)) (need (0≤(j:Int)∧(j:Int)≤(s.length:Int)) (need (i.toNat≤j.toNat) (need (0≤(((((dE s i.toNat (s.drop j.toNat)).take (i.toNat+(s.length - j.toNat))).drop 0).length:Int):Int)∧(((((dE s i.toNat (s.drop j.toNat)).take (i.toNat+(s.length - j.toNat))).drop 0).length:Int):Int)≤((s.length:Int):Int)∧((s.length:Int):Int)≤((dE s i.toNat (s.drop j.toNat)).length:Int)) (some (((dE s i.toNat (s.drop j.toNat)).take (i.toNat+(s.length - j.toNat))).drop 0)))))))
def zQ(w_ i:Int)(x1:(List aS))(x2:Bool):Option ((List aS)×Bool):=
  (if x2 then some (x1,false) else (idx x1 w_).bind fun x3=>(AI x3.Rows i (aV (i+1))).bind fun x4=>some (x1.set w_.toNat (⟨x4⟩:aS),true))
def HZ(l:List aS)(w_ i:Int):Option ((List aS)×Bool):=
  (kD l).bind fun x1=>(lU l).bind fun x5=>(if !x5 then zQ w_ i x1 true else (F7 l w_ i).bind fun x6=>zQ w_ i x1 (!x6))
def I4(x3 x5:List Int):Option (aE×Bool):=
  some ((⟨x5,x3⟩:aE),true)
def CG(slot gen x1:Int)(x2 x3:List Int)(x4:Bool):Option (aE×Bool):=
  (if x4 then some ((⟨x2,x3⟩:aE),false) else (uM slot x1).bind fun x6=>(AH gen 4).bind fun x7=>(uV x2 x6 x7).bind fun x8=>I4 x3 x8)
def I5(slot gen x1:Int)(x2 x3:List Int):Option (aE×Bool):=
  (if decide (x1 < 0) then CG slot gen x1 x2 x3 true else (cR gen 1 7).bind fun x9=>CG slot gen x1 x2 x3 (!x9))
def QL(h:aE)(slot gen:Int):Option (aE×Bool):=
  (sU h).bind fun x10=>(rD h slot).bind fun x11=>I5 slot gen x11 x10.Bytes x10.Class
def wO(c slot:Int)(x1:aB)(x2:Int)(x3:Bool):Option (aB×Bool):=
  (if x3 then some (x1,false) else (idx x1.Own x2).bind fun x4=>(if decide (2≤(x4.aM.length:Int)) then (idx x1.Global c).bind fun x5=>need (x5.aM.length+([slot]).length≤1073741824) (some ((⟨x1.Global.set c.toNat (⟨x5.aM++([slot])⟩:aK),x1.Own⟩:aB),true)) else need (x4.aM.length+([slot]).length≤1073741824) (some ((⟨x1.Global,x1.Own.set x2.toNat (⟨x4.aM++([slot])⟩:aK)⟩:aB),true))))
def XF(l:aB)(w_ c slot:Int):Option (aB×Bool):=
  (iF l).bind fun x1=>(D8 w_ c).bind fun x2=>(jY l).bind fun x6=>(if !x6 then wO c slot x1 x2 true else (if decide (x2 < 0) then wO c slot x1 x2 true else (l8 slot).bind fun x7=>(if !x7 then wO c slot x1 x2 true else (F5 l slot).bind fun x8=>wO c slot x1 x2 x8)))
def LL(x3:Mem):Option Mem:=
  some x3
def LM(m:Mem)(w_ h:Int)(x2:Mem):Option Mem:=
  (if decide ((aV ((aV (Int.tdiv h 32))+1))≤6) then (nO m.aE (Int.tmod h 32)).bind fun x4=>(XF m.aB w_ x4 (Int.tmod h 32)).bind fun x5=>LL (⟨x2.aE,x5.1⟩:Mem) else LL x2)
def NV(m:Mem)(w_ h:Int):Option Mem:=
  (QL m.aE (Int.tmod h 32) (aV ((aV (Int.tdiv h 32))+1))).bind fun x1=>(iF m.aB).bind fun x6=>LM m w_ h (⟨x1.1,x6⟩:Mem)
def dJ(s:Sub)(b:aD)(w_:Int)(x5:Bool):Option (Sub×aD):=
  (if x5 then (HZ b.aU w_ s.Row).bind fun x6=>(NV b.Mem w_ s.H).bind fun x7=>some (({s with Pc:=1,Out:=aV (s.Out+1)}:Sub),({b with Mem:=x7,aU:=x6.1}:aD)) else (bI s 1).bind fun x8=>some (x8,b))
def eK(s:Sub)(b:aD)(w_:Int)(x1 x3:Bool):Option (Sub×aD):=
  (if x3 then (idx b.mA s.B).bind fun x4=>(if x4 == s.H then some (({s with Pc:=1,Row:=aV (s.Row+1)}:Sub),b) else (if (aV (s.B+1)) == 3 then some (({s with Pc:=3,B:=aV (s.B+1)}:Sub),b) else some (({s with B:=aV (s.B+1)}:Sub),b))) else (if s.Pc == 3 then (if x1 then (idx b.aU w_).bind fun x9=>(idx x9.Rows s.Row).bind fun x10=>(MX x10 s.E).bind fun x11=>dJ s b w_ x11 else dJ s b w_ false) else dJ s b w_ false))
def fJ(s:Sub)(b:aD)(w_:Int)(x1:Bool):Option (Sub×aD):=
  (if s.Pc == 0 then some (({s with Pc:=1,E:=b.aH.aL,Row:=0}:Sub),b) else (if s.Pc == 1 then (nS s b w_).bind fun x2=>some (x2.1,x2.2) else (if s.Pc == 2 then (eV s.B).bind fun x12=>(if x12 then eK s b w_ x1 x1 else eK s b w_ x1 false) else eK s b w_ x1 false)))
def nT(s:Sub)(b:aD)(w_:Int):Option (Sub×aD):=
  (F7 b.aU w_ s.Row).bind fun x13=>(if x13 then (idx b.aU w_).bind fun x14=>(idx x14.Rows s.Row).bind fun x15=>fJ s b w_ (x15.Handle == s.H) else fJ s b w_ false)
def yL(w_ e_:Int)(x1:aH)(x2:Bool):Option (aH×Bool):=
  (if x2 then some (x1,false) else (idx x1.bO w_).bind fun x3=>some ((⟨x1.aL,x1.bO.set w_.toNat (⟨true,e_,false,0⟩:o5)⟩:aH),true))
def NW(c:aH)(w_ e_:Int):Option (aH×Bool):=
  (kC c).bind fun x1=>(nP c).bind fun x4=>(if !x4 then yL w_ e_ x1 true else (eV w_).bind fun x5=>(if !x5 then yL w_ e_ x1 true else (cR e_ 0 c.aL).bind fun x6=>yL w_ e_ x1 (!x6)))
def xU(s:Sub)(b:aD)(x1:Bool)(x2:Int)(x3:List o5):Option (Sub×aD):=
  (if !x1 then (bI s 1).bind fun x4=>some (x4,b) else some (({s with Pc:=2}:Sub),({b with aH:=(⟨x2,x3⟩:aH)}:aD)))
def wP(s:Sub)(b:aD)(w_:Int):Option (Sub×aD):=
  (if s.Pc == 0 then some (({s with Pc:=1,E:=b.aH.aL}:Sub),b) else (if s.Pc == 1 then (NW b.aH w_ s.E).bind fun x5=>xU s b x5.2 x5.1.aL x5.1.bO else (if s.Pc == 2 then (if b.aH.aL == s.E then (bI s 0).bind fun x6=>some (x6,b) else some (({s with Pc:=0}:Sub),b)) else (bI s 1).bind fun x7=>some (x7,b))))
def j5(s:Sub)(b:aD)(w_:Int):Option (Sub×aD):=
  (if s.cS then some (s,b) else (if s.Kind == 1 then (rK s b w_).bind fun x1=>some (x1.1,x1.2) else (if s.Kind == 2 then (pB s b w_).bind fun x2=>some (x2.1,x2.2) else (if s.Kind == 3 then (nR s b).bind fun x3=>some (x3.1,x3.2) else (if s.Kind == 4 then (nT s b w_).bind fun x4=>some (x4.1,x4.2) else (if s.Kind == 5 then (wP s b w_).bind fun x5=>some (x5.1,x5.2) else (bI s 1).bind fun x6=>some (x6,b)))))))
def dF(j:bR)(pc:Int):Option bR:=
  some ({j with Pc:=pc,Code:=0}:bR)
def H0(slot c:Int):Option Int:=
  (uM slot c).bind fun x1=>(if decide (x1 < 0) then some (-1) else some (aV (x1+4)))
def NX(slot c:Int):Option Span:=
  (H0 slot c).bind fun x1=>(if decide (x1 < 0) then some (⟨0,0⟩:Span) else (AX c).bind fun x2=>some (⟨x1,aV (x1+x2)⟩:Span))
def wQ(h:aE)(slot at_ width:Int):Option Int:=
  (nO h slot).bind fun x1=>(NX slot x1).bind fun x2=>(cR at_ 0 (aV ((aV (x2.To - x2.aTC)) - width))).bind fun x3=>(if !x3 then some (-1) else some (aV (x2.aTC+at_)))
def CH(m:Mem)(h at_ width:Int)(x1:Bool):Option (Int×Int):=
  (if x1 then some (0,1) else (AZ m h).bind fun x2=>(if !x2 then some (0,4) else (wQ m.aE (Int.tmod h 32) at_ width).bind fun x3=>(if decide (x3 < 0) then some (0,2) else (lS m.aE.Bytes x3 width).bind fun x4=>some (x4,0))))
def QM(m:Mem)(h at_ width:Int):Option (Int×Int):=
  (I3 m).bind fun x5=>(if !x5 then CH m h at_ width true else (j4 width).bind fun x6=>CH m h at_ width (!x6))
def OZ(x4:Mem):Option (Mem×Int):=
  some (x4,0)
def H3(m:Mem)(h at_ width n:Int):Option (Mem×Int):=
  (BX m).bind fun x1=>(AH n width).bind fun x2=>(QM m h at_ width).bind fun x3=>(if x3.2 != 0 then some (x1,x3.2) else (if x2 == ([]) then some (x1,1) else (wQ m.aE (Int.tmod h 32) at_ width).bind fun x5=>(uV x1.aE.Bytes x5 x2).bind fun x6=>OZ (⟨(⟨x6,x1.aE.Class⟩:aE),x1.aB⟩:Mem)))
def CI(s:aA)(w_ x7:Int)(x8:Mem):Option aA:=
  (if x7 != 0 then (idx s.aQ w_).bind fun x9=>(bP x9 x7).bind fun x10=>some ({s with aQ:=s.aQ.set w_.toNat x10}:aA) else (idx s.aQ w_).bind fun x11=>(dF x11 2).bind fun x12=>some ({s with aD:=(⟨x8,s.aD.aH,s.aD.aU,s.aD.mA⟩:aD),aQ:=s.aQ.set w_.toNat x12}:aA))
def CJ(w_:Int)(x16:aA):Option aA:=
  (idx x16.aQ w_).bind fun x17=>(if x17.Old == 0 then (bP x17 0).bind fun x18=>some ({x16 with aQ:=x16.aQ.set w_.toNat x18}:aA) else (jD 2 x17.Old).bind fun x19=>(dF ({x17 with Sub:=x19}:bR) 3).bind fun x20=>some ({x16 with aQ:=x16.aQ.set w_.toNat x20}:aA))
def CK(s:aA)(w_:Int)(x1:bR)(x14:Int)(x15:List Int):Option aA:=
  (idx (s.aQ.set w_.toNat ({x1 with Old:=x14}:bR)) w_).bind fun x21=>(dB ({s with Cells:=x15,aQ:=s.aQ.set w_.toNat ({x1 with Old:=x14}:bR)}:aA) 2 w_ x21.H x21.Op.eH 0).bind fun x22=>CJ w_ x22
def CL(s:aA)(w_:Int):Option aA:=
  (idx s.aQ w_).bind fun x1=>(if x1.Pc == 0 then (j5 x1.Sub s.aD w_).bind fun x2=>(if !x2.1.cS then some ({s with aD:=x2.2,aQ:=s.aQ.set w_.toNat ({x1 with Sub:=x2.1}:bR)}:aA) else (if x2.1.Code != 0 then (bP ({x1 with Sub:=x2.1}:bR) x2.1.Code).bind fun x3=>some ({s with aD:=x2.2,aQ:=s.aQ.set w_.toNat x3}:aA) else (gR x2.1.Out).bind fun x4=>(if !x4 then (bP ({x1 with Sub:=x2.1}:bR) 1).bind fun x5=>some ({s with aD:=x2.2,aQ:=s.aQ.set w_.toNat x5}:aA) else (dF ({x1 with Sub:=x2.1,H:=x2.1.Out}:bR) 1).bind fun x6=>some ({s with aD:=x2.2,aQ:=s.aQ.set w_.toNat x6}:aA)))) else (if x1.Pc == 1 then (H3 s.aD.Mem x1.H 0 4 x1.Op.eH).bind fun x13=>CI s w_ x13.2 x13.1 else (if x1.Pc == 2 then (idx s.Cells x1.Op.Cell).bind fun x14=>(idx (s.aQ.set w_.toNat ({x1 with Old:=x14}:bR)) w_).bind fun x23=>(idx s.Cells x23.Op.Cell).bind fun x24=>CK s w_ x1 x14 (s.Cells.set x23.Op.Cell.toNat x23.H) else (if x1.Pc == 3 then (j5 x1.Sub s.aD w_).bind fun x25=>(if x25.1.cS then (bP ({x1 with Sub:=x25.1}:bR) x25.1.Code).bind fun x26=>some ({s with aD:=x25.2,aQ:=s.aQ.set w_.toNat x26}:aA) else some ({s with aD:=x25.2,aQ:=s.aQ.set w_.toNat ({x1 with Sub:=x25.1}:bR)}:aA)) else (bP x1 1).bind fun x27=>some ({s with aQ:=s.aQ.set w_.toNat x27}:aA)))))
def uW(s:aA)(w_:Int):Option aA:=
  (idx s.aQ w_).bind fun x1=>(idx s.Cells x1.Op.Cell).bind fun x2=>(dB ({s with aQ:=s.aQ.set w_.toNat ({x1 with H:=x2}:bR)}:aA) 3 w_ x2 0 0).bind fun x3=>some x3
def sC(b:aD)(h at_ width:Int)(x1:Bool):Option (Int×Bool):=
  (if x1 then some (0,false) else (wQ b.Mem.aE (Int.tmod h 32) at_ width).bind fun x2=>(if decide (x2 < 0) then some (0,false) else (lS b.Mem.aE.Bytes x2 width).bind fun x3=>some (x3,true)))
def H4(b:aD)(h at_ width:Int):Option (Int×Bool):=
  (gR h).bind fun x4=>(if !x4 then sC b h at_ width true else (rD b.Mem.aE (Int.tmod h 32)).bind fun x5=>(if decide (x5 < 0) then sC b h at_ width true else (j4 width).bind fun x6=>sC b h at_ width (!x6)))
def lE(s:aA)(w_:Int):Option aA:=
  (idx s.aQ w_).bind fun x1=>(H4 s.aD x1.H 0 4).bind fun x2=>some ({s with aQ:=s.aQ.set w_.toNat ({x1 with eH:=x2.1}:bR)}:aA)
def jP(x1:Bool):Option Bool:=
  some x1
def rL(p:o5):Option Bool:=
  (if p.On then jP (!p.eW) else jP false)
def lO(s:aA)(w_ pc:Int):Option aA:=
  (idx s.aQ w_).bind fun x1=>(dF x1 pc).bind fun x2=>(idx s.aD.aH.bO w_).bind fun x3=>(rL x3).bind fun x4=>(if !x4 then some ({s with aQ:=s.aQ.set w_.toNat ({x2 with eH:=0,Code:=6}:bR)}:aA) else some ({s with aQ:=s.aQ.set w_.toNat x2}:aA))
def yN(w_:Int)(x1:aH)(x2:Bool):Option (aH×Bool):=
  (if x2 then some (x1,false) else (idx x1.bO w_).bind fun x3=>some ((⟨x1.aL,x1.bO.set w_.toNat (⟨false,0,false,0⟩:o5)⟩:aH),true))
def NY(c:aH)(w_:Int):Option (aH×Bool):=
  (kC c).bind fun x1=>(nP c).bind fun x4=>(if !x4 then yN w_ x1 true else (eV w_).bind fun x5=>(if !x5 then yN w_ x1 true else (idx c.bO w_).bind fun x6=>yN w_ x1 (!x6.On)))
def sD(b:aD)(w_:Int):Option (Bool×aD):=
  (NY b.aH w_).bind fun x1=>some (x1.2,({b with aH:=x1.1}:aD))
def CM(s:aA)(w_:Int):Option aA:=
  (idx s.aQ w_).bind fun x1=>(if x1.Pc == 0 then (j5 x1.Sub s.aD w_).bind fun x2=>(if x2.1.cS then (dF ({x1 with Sub:=x2.1}:bR) 1).bind fun x3=>some ({s with aD:=x2.2,aQ:=s.aQ.set w_.toNat x3}:aA) else some ({s with aD:=x2.2,aQ:=s.aQ.set w_.toNat ({x1 with Sub:=x2.1}:bR)}:aA)) else (if x1.Pc == 1 then (uW s w_).bind fun x4=>(idx x4.aQ w_).bind fun x5=>(dF x5 2).bind fun x6=>(if x6.H == 0 then some ({x4 with aQ:=x4.aQ.set w_.toNat ({x6 with Pc:=4,Code:=8}:bR)}:aA) else some ({x4 with aQ:=x4.aQ.set w_.toNat x6}:aA)) else (if x1.Pc == 2 then (lE s w_).bind fun x7=>(idx x7.aQ w_).bind fun x8=>(dF x8 3).bind fun x9=>some ({x7 with aQ:=x7.aQ.set w_.toNat x9}:aA) else (if x1.Pc == 3 then (lO s w_ 4).bind fun x10=>some x10 else (if x1.Pc == 4 then (sD s.aD w_).bind fun x11=>(bP x1 x1.Code).bind fun x12=>some ({s with aD:=x11.2,aQ:=s.aQ.set w_.toNat x12}:aA) else (bP x1 1).bind fun x13=>some ({s with aQ:=s.aQ.set w_.toNat x13}:aA))))))
def sE(w_ h:Int)(x1:(List Int))(x2:Bool):Option ((List Int)×Bool):=
  (if x2 then some (x1,false) else (idx x1 w_).bind fun x3=>some (x1.set w_.toNat h,true))
def H5(z:List Int)(w_ h:Int):Option ((List Int)×Bool):=
  (fI z).bind fun x1=>(D7 z).bind fun x4=>(if !x4 then sE w_ h x1 true else (eV w_).bind fun x5=>(if !x5 then sE w_ h x1 true else (gR h).bind fun x6=>sE w_ h x1 (!x6)))
def yO(w_:Int)(x1:(List Int))(x2:Bool):Option ((List Int)×Bool):=
  (if x2 then some (x1,false) else (idx x1 w_).bind fun x3=>some (x1.set w_.toNat 0,true))
def NZ(z:List Int)(w_:Int):Option ((List Int)×Bool):=
  (fI z).bind fun x1=>(D7 z).bind fun x4=>(if !x4 then yO w_ x1 true else (eV w_).bind fun x5=>(if !x5 then yO w_ x1 true else (idx z w_).bind fun x6=>yO w_ x1 (x6 == 0)))
def CN(s:aA)(w_:Int)(x6:List Int):Option aA:=
  (idx s.aQ w_).bind fun x7=>(dF x7 2).bind fun x8=>some ({s with aD:=(⟨s.aD.Mem,s.aD.aH,s.aD.aU,x6⟩:aD),aQ:=s.aQ.set w_.toNat x8}:aA)
def CP(s:aA)(w_:Int)(x10:Bool):Option aA:=
  (if x10 then (idx s.aQ w_).bind fun x11=>(dF x11 0).bind fun x12=>some ({s with aQ:=s.aQ.set w_.toNat x12}:aA) else (idx s.aQ w_).bind fun x13=>(dB s 3 w_ x13.H 0 0).bind fun x14=>(idx x14.aQ w_).bind fun x15=>(dF x15 3).bind fun x16=>some ({x14 with aQ:=x14.aQ.set w_.toNat x16}:aA))
def CQ(s:aA)(w_:Int):Option aA:=
  (idx s.aQ w_).bind fun x1=>(if x1.Pc == 0 then (idx s.Cells x1.Op.Cell).bind fun x2=>(dF ({x1 with H:=x2}:bR) 1).bind fun x3=>(if x3.H == 0 then (dB ({s with aQ:=s.aQ.set w_.toNat x3}:aA) 3 w_ 0 0 0).bind fun x4=>(idx x4.aQ w_).bind fun x5=>some ({x4 with aQ:=x4.aQ.set w_.toNat ({x5 with Pc:=4,Code:=8}:bR)}:aA) else some ({s with aQ:=s.aQ.set w_.toNat x3}:aA)) else (if x1.Pc == 1 then (H5 s.aD.mA w_ x1.H).bind fun x9=>CN s w_ x9.1 else (if x1.Pc == 2 then (idx s.Cells x1.Op.Cell).bind fun x17=>CP s w_ (x17 != x1.H) else (if x1.Pc == 3 then (lE s w_).bind fun x18=>(idx x18.aQ w_).bind fun x19=>(dF x19 4).bind fun x20=>some ({x18 with aQ:=x18.aQ.set w_.toNat x20}:aA) else (if x1.Pc == 4 then (NZ s.aD.mA w_).bind fun x21=>(bP x1 x1.Code).bind fun x22=>some ({s with aD:=(⟨s.aD.Mem,s.aD.aH,s.aD.aU,x21.1⟩:aD),aQ:=s.aQ.set w_.toNat x22}:aA) else (bP x1 1).bind fun x23=>some ({s with aQ:=s.aQ.set w_.toNat x23}:aA))))))
def rM(s:aA)(w_:Int)(x5:Bool):Option aA:=
  (if x5 then (idx s.aQ w_).bind fun x6=>(bP x6 6).bind fun x7=>some ({s with aQ:=s.aQ.set w_.toNat x7}:aA) else (idx s.aQ w_).bind fun x8=>(if x8.Pc == 0 then (uW s w_).bind fun x9=>(idx x9.aQ w_).bind fun x10=>(dF x10 1).bind fun x11=>(if x11.H == 0 then (bP x11 8).bind fun x12=>some ({x9 with aQ:=x9.aQ.set w_.toNat x12}:aA) else some ({x9 with aQ:=x9.aQ.set w_.toNat x11}:aA)) else (if x8.Pc == 1 then (lE s w_).bind fun x13=>(idx x13.aQ w_).bind fun x14=>(dF x14 2).bind fun x15=>some ({x13 with aQ:=x13.aQ.set w_.toNat x15}:aA) else (if x8.Pc == 2 then (lO s w_ 9).bind fun x16=>some x16 else (bP x8 1).bind fun x17=>some ({s with aQ:=s.aQ.set w_.toNat x17}:aA)))))
def rN(s:aA)(w_:Int)(x1:o5)(x2:Bool):Option aA:=
  (if x2 then (idx s.aQ w_).bind fun x3=>(bP x3 5).bind fun x4=>some ({s with aQ:=s.aQ.set w_.toNat x4}:aA) else (idx s.aQ w_).bind fun x18=>(if x18.Pc == 0 then rM s w_ x1.eW else rM s w_ false))
def AJ(s:aA)(w_:Int)(x1:o5):Option aA:=
  (idx s.aQ w_).bind fun x19=>(if x19.Pc == 0 then rN s w_ x1 (!x1.On) else rN s w_ x1 false)
def zR(s:aA)(w_:Int):Option aA:=
  (idx s.aQ w_).bind fun x20=>(idx s.aD.aH.bO w_).bind fun x21=>AJ s w_ x21
def pC(w_ x3:Int)(x4:aA):Option aA:=
  (idx x4.aQ w_).bind fun x5=>(bP x5 x3).bind fun x6=>some ({x4 with aQ:=x4.aQ.set w_.toNat x6}:aA)
def pD(s:aA)(w_:Int)(x17:Bool):Option aA:=
  (if x17 then (idx s.aQ w_).bind fun x18=>(j5 x18.Sub s.aD w_).bind fun x19=>(if x19.1.cS then (bP ({x18 with Sub:=x19.1,eH:=x19.1.Out}:bR) x19.1.Code).bind fun x20=>some ({s with aD:=x19.2,aQ:=s.aQ.set w_.toNat x20}:aA) else some ({s with aD:=x19.2,aQ:=s.aQ.set w_.toNat ({x18 with Sub:=x19.1}:bR)}:aA)) else (idx s.aQ w_).bind fun x21=>(bP x21 1).bind fun x22=>some ({s with aQ:=s.aQ.set w_.toNat x22}:aA))
def pE(s:aA)(w_:Int)(x12:Bool):Option aA:=
  (if x12 then (idx s.aQ w_).bind fun x13=>(j5 x13.Sub s.aD w_).bind fun x14=>(if x14.1.cS then (jD 4 0).bind fun x15=>(dF ({x13 with Sub:=x15}:bR) 1).bind fun x16=>some ({s with aD:=x14.2,aQ:=s.aQ.set w_.toNat x16}:aA) else some ({s with aD:=x14.2,aQ:=s.aQ.set w_.toNat ({x13 with Sub:=x14.1}:bR)}:aA)) else (idx s.aQ w_).bind fun x23=>(if x23.Op.Kind == 4 then pD s w_ (x23.Pc == 1) else pD s w_ false))
def pG(s:aA)(w_:Int)(x8:Bool):Option aA:=
  (if x8 then (idx s.aQ w_).bind fun x9=>(j5 x9.Sub s.aD w_).bind fun x10=>(if x10.1.cS then (bP ({x9 with Sub:=x10.1}:bR) x10.1.Code).bind fun x11=>some ({s with aD:=x10.2,aQ:=s.aQ.set w_.toNat x11}:aA) else some ({s with aD:=x10.2,aQ:=s.aQ.set w_.toNat ({x9 with Sub:=x10.1}:bR)}:aA)) else (idx s.aQ w_).bind fun x24=>(if x24.Op.Kind == 4 then pE s w_ (x24.Pc == 0) else pE s w_ false))
def pH(s:aA)(w_:Int)(x2:Bool):Option aA:=
  (if x2 then (sD s.aD w_).bind fun x7=>(if !x7.1 then pC w_ 5 ({s with aD:=x7.2}:aA) else pC w_ 0 ({s with aD:=x7.2}:aA)) else (idx s.aQ w_).bind fun x25=>(if x25.Op.Kind == 5 then pG s w_ (x25.Pc == 0) else pG s w_ false))
def wR(s:aA)(w_:Int):Option aA:=
  (idx s.aQ w_).bind fun x1=>(if x1.Op.Kind == 6 then pH s w_ (x1.Pc == 0) else pH s w_ false)
def lF(s:aA)(w_:Int):Option aA:=
  (idx s.aQ w_).bind fun x1=>(if !x1.fV then (wK s w_).bind fun x2=>some x2 else (if x1.Pc == 9 then (dB s 4 w_ x1.H x1.eH x1.Code).bind fun x3=>(idx x3.aQ w_).bind fun x4=>some ({x3 with aQ:=x3.aQ.set w_.toNat (⟨false,(⟨0,0,0,0⟩:eU),0,0,(⟨0,0,0,0,0,0,0,0,0,false⟩:Sub),0,0,0,0⟩:bR)}:aA) else (if x1.Op.Kind == 1 then (CL s w_).bind fun x5=>some x5 else (if x1.Op.Kind == 2 then (CM s w_).bind fun x6=>some x6 else (if x1.Op.Kind == 3 then (CQ s w_).bind fun x7=>some x7 else (if x1.Op.Kind == 7 then (zR s w_).bind fun x8=>some x8 else (wR s w_).bind fun x9=>some x9))))))
def O0(x y:Int):Option (Int×Int):=
  some (IntKind.u64.wrap ((IntKind.u64.wrap ((IntKind.u64.wrap ((uG .u64 x 32) * (uG .u64 y 32)))+(uG .u64 (IntKind.u64.wrap ((IntKind.u64.wrap ((uG .u64 x 32) * (gL .and .u64 y 4294967295)))+(uG .u64 (IntKind.u64.wrap ((gL .and .u64 x 4294967295) * (gL .and .u64 y 4294967295))) 32))) 32)))+(uG .u64 (IntKind.u64.wrap ((gL .and .u64 (IntKind.u64.wrap ((IntKind.u64.wrap ((uG .u64 x 32) * (gL .and .u64 y 4294967295)))+(uG .u64 (IntKind.u64.wrap ((gL .and .u64 x 4294967295) * (gL .and .u64 y 4294967295))) 32))) 4294967295)+(IntKind.u64.wrap ((gL .and .u64 x 4294967295) * (uG .u64 y 32))))) 32)),IntKind.u64.wrap (x * y))
def LN(x y:Int):Option (Int×Int):=
  (O0 x y).bind fun x1=>some (x1.1,x1.2)
def QN(x7:List Int):Option (List Int):=
  some x7
def kE:((List Int)×Int)→Option (Step ((List Int)×Int) (List Int))
  | (x5,x6)=>(if decide (x6 < (x5.length:Int)) then need (0≤(x6:Int)∧(x6:Int)≤(x5.length:Int)) (need (0≤(x6:Int)∧(x6:Int)≤(x5.length:Int)) (some (.next (dE x5 x6.toNat ((x5.take x6.toNat).drop 0),aV (x6+((min ((x5.take x6.toNat).drop 0).length (x5.length - x6.toNat):Nat):Int)))))) else some (.stop (x5)))
def QO:(List Int)→Option (List Int)
  | x7=>QN x7
def nU(x:List Int)(x1:Int×Int)(x2:Bool):Option (List Int):=
  (if x2 then none else need (0≤(IntKind.i64.wrap x1.2:Int)∧(IntKind.i64.wrap x1.2:Int)≤4294967296) ((loop (kE) (dE (List.replicate ((IntKind.i64.wrap x1.2).toNat) 0) 0 x,((min x.length ((List.replicate ((IntKind.i64.wrap x1.2).toNat) 0:List Int).length - 0):Nat):Int))).bind (QO)))
def tS(x:List Int)(count:Int):Option (List Int):=
  (if decide (count < 0) then none else (LN (IntKind.u64.wrap (x.length:Int)) (IntKind.u64.wrap count)).bind fun x1=>(if decide (0 < x1.1) then nU x x1 true else nU x x1 (decide (9223372036854775807 < x1.2))))
def O1(x1:List Int):Option aE:=
  some (⟨List.replicate ((384:Int).toNat) 0,x1⟩:aE)
def H6:Option aE:=
  need (0≤(384:Int)∧(384:Int)≤4294967296)<|(tS ([(-1)]) 6).bind fun x2=>O1 x2
def MY:Option aB:=
  some (⟨List.replicate ((3:Int).toNat) (⟨[]⟩:aK),List.replicate ((9:Int).toNat) (⟨[]⟩:aK)⟩:aB)
def LO:Option aB:=
  need (0≤(3:Int)∧(3:Int)≤4294967296)<|need (0≤(9:Int)∧(9:Int)≤4294967296)<|MY
def QP:Option Mem:=
  (H6).bind fun x1=>(LO).bind fun x2=>some (⟨x1,x2⟩:Mem)
def LP:Option aH:=
  need (0≤(3:Int)∧(3:Int)≤4294967296) (some (⟨0,List.replicate ((3:Int).toNat) (⟨false,0,false,0⟩:o5)⟩:aH))
def LQ:Option (List aS):=
  need (0≤(3:Int)∧(3:Int)≤4294967296) (some (List.replicate ((3:Int).toNat) (⟨[]⟩:aS)))
def QQ:Option (List Int):=
  need (0≤(3:Int)∧(3:Int)≤4294967296) (some (List.replicate ((3:Int).toNat) 0))
def H7:Option aD:=
  (QP).bind fun x1=>(LP).bind fun x2=>(LQ).bind fun x3=>(QQ).bind fun x4=>some (⟨x1,x2,x3,x4⟩:aD)
def MZ(x2:aA):Option aA:=
  some ({x2 with Log:=[]}:aA)
def sZ(todo:List Queue):Option aA:=
  (F6 todo).bind fun x1=>(if !x1 then some (⟨(⟨(⟨(⟨[],[]⟩:aE),(⟨[],[]⟩:aB)⟩:Mem),(⟨0,[]⟩:aH),[],[]⟩:aD),[],[],[],[],0⟩:aA) else (H7).bind fun x3=>need (0≤(2:Int)∧(2:Int)≤4294967296)<|need (0≤(3:Int)∧(3:Int)≤4294967296)<|(yE todo).bind fun x4=>MZ (⟨x3,List.replicate ((2:Int).toNat) 0,List.replicate ((3:Int).toNat) (⟨false,(⟨0,0,0,0⟩:eU),0,0,(⟨0,0,0,0,0,0,0,0,0,false⟩:Sub),0,0,0,0⟩:bR),x4,[],0⟩:aA))
def U8(x6:aA):Option aA:=
  some x6
def tT(x4:Int)(x7:aA):Option (Step (Int×aA) aA):=
  some (.next (aV (x4+1),x7))
def nV(x:fQ):(Int×aA)→Option (Step (Int×aA) aA)
  | (x4,x5)=>(if decide (x4 < (((x.aY.take ((if 400 < (x.aY.length:Int) then 400 else (x.aY.length:Int)).toNat)).drop 0).length:Int)) then (idx ((x.aY.take ((if 400 < (x.aY.length:Int) then 400 else (x.aY.length:Int)).toNat)).drop 0) x4).bind fun x8=>(eV x8).bind fun x9=>(if x9 then (lF x5 x8).bind fun x10=>tT x4 x10 else tT x4 x5) else some (.stop (x5)))
def U9:aA→Option aA
  | x6=>U8 x6
def CR(x:fQ):Option aA:=
  (sZ x.cE).bind fun x1=>(if (x1.aQ.length:Int) == 0 then some x1 else need (0≤(if 400 < (x.aY.length:Int) then 400 else (x.aY.length:Int):Int)∧(if 400 < (x.aY.length:Int) then 400 else (x.aY.length:Int):Int)≤(x.aY.length:Int)) ((loop (nV x) (0,x1)).bind (U9)))
def O2(b:List Int):Option Bool:=
  some (decide ((b.length:Int)≤1000))
def m8(b:List Int):Int→Option (Step Int (Out Unit Bool))
  | x2=>(if decide (x2 < (b.length:Int)) then (idx b x2).bind fun x3=>(bT x3 0 255).bind fun x4=>(if !x4 then some (.stop (Out.ret false)) else some (.next (aV (x2+1)))) else some (.stop (Out.brk ())))
def GU(b:List Int):(Out Unit Bool)→Option Bool
  | .brk ()=>O2 b
  | .ret r=>some r
def H8(b:List Int):Option Bool:=
  (loop (m8 b) 0).bind (GU b)
def ZE:Option Bool:=
  some true
def m9(h:aE):Int→Option (Step Int (Out Unit Bool))
  | x3=>(if decide (x3 < 6) then (idx h.Class x3).bind fun x4=>(bT x4 (-1) 2).bind fun x5=>(if !x5 then some (.stop (Out.ret false)) else some (.next (aV (x3+1)))) else some (.stop (Out.brk ())))
def ZF:(Out Unit Bool)→Option Bool
  | .brk ()=>ZE
  | .ret r=>some r
def sG(h:aE)(x1:Bool):Option Bool:=
  (if x1 then some false else (loop (m9 h) 0).bind (ZF))
def H9(h:aE):Option Bool:=
  (if (h.Bytes.length:Int) != 384 then sG h true else (if (h.Class.length:Int) != 6 then sG h true else (H8 h.Bytes).bind fun x6=>sG h (!x6)))
def aCS(x5:Int):Option Int:=
  some x5
def uX(b:List Int)(at_ width:Int):(Int×Int)→Option (Step (Int×Int) Int)
  | (x3,x4)=>(if decide (x4 < width) then (idx b (aV (at_+x4))).bind fun x6=>some (.next (aV ((aV (x3 * 256))+x6),aV (x4+1))) else some (.stop (x3)))
def aCT:Int→Option Int
  | x5=>aCS x5
def uY(b:List Int)(at_ width:Int):Option Int:=
  (loop (uX b at_ width) (0,0)).bind (aCT)
def nW(c:Int):Option Int:=
  (if c == 0 then some 8 else (if c == 1 then some 16 else (if c == 2 then some 40 else some 0)))
def yP(c:Int):Option Int:=
  (bT c 0 2).bind fun x1=>(if !x1 then some 0 else (nW c).bind fun x2=>some (aV (4+x2)))
def lZ(c:Int):Option Int:=
  (bT c 0 2).bind fun x1=>(if !x1 then some 0 else (yP c).bind fun x2=>need (x2≠0) (some (aV (Int.tdiv 56 x2))))
def A1(slot:Int):Option Int:=
  (bT slot 0 23).bind fun x1=>(if !x1 then some (-1) else some (aV (Int.tdiv slot 4)))
def wS(slot:Int):Option Int:=
  (bT slot 0 23).bind fun x1=>(if !x1 then some (-1) else some (Int.tmod slot 4))
def E5(slot c:Int)(x1:Bool):Option Int:=
  (if x1 then some (-1) else (A1 slot).bind fun x2=>(wS slot).bind fun x3=>(yP c).bind fun x4=>some (aV ((aV ((aV (x2 * 64))+8))+(aV (x3 * x4)))))
def uZ(slot c:Int):Option Int:=
  (A1 slot).bind fun x5=>(if decide (x5 < 0) then E5 slot c true else (wS slot).bind fun x6=>(lZ c).bind fun x7=>(bT x6 0 (aV (x7 - 1))).bind fun x8=>E5 slot c (!x8))
def vA(page index:Int)(x1:Bool):Option Int:=
  (if x1 then some (-1) else some (aV ((aV (page * 4))+index)))
def qY(page index:Int):Option Int:=
  (bT page 0 5).bind fun x2=>(if !x2 then vA page index true else (bT index 0 3).bind fun x3=>vA page index (!x3))
def aCU:Option Bool:=
  some true
def pW(h:aE)(p:Int):Int→Option (Step Int (Out Unit Bool))
  | x3=>(if decide (x3 < (aV ((aV (p * 64))+64))) then (idx h.Bytes x3).bind fun x4=>(if x4 != 0 then some (.stop (Out.ret false)) else some (.next (aV (x3+1)))) else some (.stop (Out.brk ())))
def aCV:(Out Unit Bool)→Option Bool
  | .brk ()=>aCU
  | .ret r=>some r
def aCW:Option Bool:=
  some true
def pX(h:aE)(p x1:Int):Int→Option (Step Int (Out Unit Bool))
  | x9=>(lZ x1).bind fun x10=>(if decide (x9 < x10) then (qY p x9).bind fun x11=>(uZ x11 x1).bind fun x12=>(uY h.Bytes x12 4).bind fun x13=>(bT x13 1 7).bind fun x14=>(if !x14 then some (.stop (Out.ret false)) else some (.next (aV (x9+1)))) else some (.stop (Out.brk ())))
def aCX:(Out Unit Bool)→Option Bool
  | .brk ()=>aCW
  | .ret r=>some r
def QT(h:aE)(p x1:Int):Option Bool:=
  (loop (pX h p x1) 0).bind (aCX)
def pY(h:aE)(p:Int):Int→Option (Step Int (Out Unit Bool))
  | x7=>(if decide (x7 < (aV ((aV (p * 64))+8))) then (idx h.Bytes x7).bind fun x15=>(if x15 != 0 then some (.stop (Out.ret false)) else some (.next (aV (x7+1)))) else some (.stop (Out.brk ())))
def QU(h:aE)(p x1:Int):(Out Unit Bool)→Option Bool
  | .brk ()=>QT h p x1
  | .ret r=>some r
def kG(h:aE)(p x1:Int)(x5:Bool):Option Bool:=
  (if x5 then some false else (loop (pY h p) (aV ((aV (p * 64))+3))).bind (QU h p x1))
def KQ(h:aE)(p:Int):Option Bool:=
  (idx h.Class p).bind fun x1=>(if decide (x1 < 0) then (loop (pW h p) (aV (p * 64))).bind (aCV) else (idx h.Bytes (aV (p * 64))).bind fun x16=>(if x16 != 171 then kG h p x1 true else (idx h.Bytes (aV ((aV (p * 64))+1))).bind fun x17=>(if x17 != x1 then kG h p x1 true else (idx h.Bytes (aV ((aV (p * 64))+2))).bind fun x18=>(lZ x1).bind fun x19=>kG h p x1 (x18 != x19))))
def aCY:Option Bool:=
  some true
def vB(h:aE):Int→Option (Step Int (Out Unit Bool))
  | x3=>(if decide (x3 < 6) then (KQ h x3).bind fun x4=>(if !x4 then some (.stop (Out.ret false)) else some (.next (aV (x3+1)))) else some (.stop (Out.brk ())))
def aCZ:(Out Unit Bool)→Option Bool
  | .brk ()=>aCY
  | .ret r=>some r
def KR(h:aE):Option Bool:=
  (H9 h).bind fun x1=>(if !x1 then some false else (loop (vB h) 0).bind (aCZ))
def aFL(x10:List Int):Option (List Int):=
  some x10
def yQ(l:aB):((List Int)×Int)→Option (Step ((List Int)×Int) (List Int))
  | (x8,x9)=>(if decide (x9 < (l.Own.length:Int)) then (idx l.Own x9).bind fun x11=>need (x8.length+x11.aM.length≤1073741824) (some (.next (x8++x11.aM,aV (x9+1)))) else some (.stop (x8)))
def aFM:(List Int)→Option (List Int)
  | x10=>aFL x10
def S1(l:aB)(x5:List Int):Option (List Int):=
  (loop (yQ l) (x5,0)).bind (aFM)
def yR(l:aB):((List Int)×Int)→Option (Step ((List Int)×Int) (List Int))
  | (x3,x4)=>(if decide (x4 < (l.Global.length:Int)) then (idx l.Global x4).bind fun x12=>need (x3.length+x12.aM.length≤1073741824) (some (.next (x3++x12.aM,aV (x4+1)))) else some (.stop (x3)))
def S2(l:aB):(List Int)→Option (List Int)
  | x5=>S1 l x5
def I6(l:aB):Option (List Int):=
  (loop (yR l) (([]:List Int),0)).bind (S2 l)
def aFN:Option Bool:=
  some false
def tA(l:List Int)(x:Int):Int→Option (Step Int (Out Unit Bool))
  | x2=>(if decide (x2 < (l.length:Int)) then (idx l x2).bind fun x3=>(if x3 == x then some (.stop (Out.ret true)) else some (.next (aV (x2+1)))) else some (.stop (Out.brk ())))
def aFO:(Out Unit Bool)→Option Bool
  | .brk ()=>aFN
  | .ret r=>some r
def EA(l:List Int)(x:Int):Option Bool:=
  (loop (tA l x) 0).bind (aFO)
def ZG:Option Bool:=
  some true
def zT(x6:Int)(x7:Bool):Option (Step Int (Out Unit Bool)):=
  (if x7 then some (.stop (Out.ret false)) else some (.next (aV (x6+1))))
def nA(x4:(List Int)):Int→Option (Step Int (Out Unit Bool))
  | x6=>(if decide (x6 < (x4.length:Int)) then (idx x4 x6).bind fun x8=>(bT x8 0 23).bind fun x9=>(if !x9 then zT x6 true else need (0≤(x6:Int)∧(x6:Int)≤(x4.length:Int)) ((EA ((x4.take x6.toNat).drop 0) x8).bind fun x10=>zT x6 x10)) else some (.stop (Out.brk ())))
def ZH:(Out Unit Bool)→Option Bool
  | .brk ()=>ZG
  | .ret r=>some r
def O3(l:aB):Option Bool:=
  (I6 l).bind fun x4=>(loop (nA x4) 0).bind (ZH)
def nB(l:aB):Int→Option (Step Int (Out Unit Bool))
  | x3=>(if decide (x3 < (l.Own.length:Int)) then (idx l.Own x3).bind fun x11=>(if decide (2 < (x11.aM.length:Int)) then some (.stop (Out.ret false)) else some (.next (aV (x3+1)))) else some (.stop (Out.brk ())))
def O4(l:aB):(Out Unit Bool)→Option Bool
  | .brk ()=>O3 l
  | .ret r=>some r
def zU(l:aB)(x1:Bool):Option Bool:=
  (if x1 then some false else (loop (nB l) 0).bind (O4 l))
def IA(l:aB):Option Bool:=
  (if (l.Global.length:Int) != 3 then zU l true else zU l ((l.Own.length:Int) != 9))
def sH(h:aE)(x1:Int)(x2:Bool):Option Int:=
  (if x2 then some (-1) else (idx h.Class x1).bind fun x3=>some x3)
def l4(h:aE)(slot:Int):Option Int:=
  (A1 slot).bind fun x1=>(if decide (x1 < 0) then sH h x1 true else (idx h.Class x1).bind fun x4=>(if decide (x4 < 0) then sH h x1 true else (idx h.Class x1).bind fun x5=>(wS slot).bind fun x6=>(lZ x5).bind fun x7=>sH h x1 (decide (x7≤x6))))
def vC(h:aE)(slot:Int):Option Int:=
  (l4 h slot).bind fun x1=>(uZ slot x1).bind fun x2=>(uY h.Bytes x2 4).bind fun x3=>some x3
def XG:Option Bool:=
  some true
def wT(x2:Int)(x3:Bool):Option (Step Int (Out Unit Bool)):=
  (if x3 then some (.stop (Out.ret false)) else some (.next (aV (x2+1))))
def mH(h:aE)(l:List Int)(c:Int):Int→Option (Step Int (Out Unit Bool))
  | x2=>(if decide (x2 < (l.length:Int)) then (idx l x2).bind fun x4=>(l4 h x4).bind fun x5=>(if x5 != c then wT x2 true else (idx l x2).bind fun x6=>(vC h x6).bind fun x7=>wT x2 (decide (6 < x7))) else some (.stop (Out.brk ())))
def XH:(Out Unit Bool)→Option Bool
  | .brk ()=>XG
  | .ret r=>some r
def yT(h:aE)(l:List Int)(c:Int):Option Bool:=
  (loop (mH h l c) 0).bind (XH)
def yU(w_ c:Int)(x1:Bool):Option Int:=
  (if x1 then some (-1) else some (aV ((aV (w_ * 3))+c)))
def rO(w_ c:Int):Option Int:=
  (bT w_ 0 2).bind fun x2=>(if !x2 then yU w_ c true else (bT c 0 2).bind fun x3=>yU w_ c (!x3))
def aFP:Option Bool:=
  some true
def S3(x3:Int):Option (Step Int (Out Unit Bool)):=
  some (.next (aV (x3+1)))
def yV(m:Mem)(x3:Int):Int→Option (Step Int (Out Unit Bool))
  | x7=>(if decide (x7 < 3) then (rO x7 x3).bind fun x8=>(idx m.aB.Own x8).bind fun x9=>(yT m.aE x9.aM x3).bind fun x10=>(if !x10 then some (.stop (Out.ret false)) else some (.next (aV (x7+1)))) else some (.stop (Out.brk ())))
def S4(x3:Int):(Out Unit Bool)→Option (Step Int (Out Unit Bool))
  | .brk ()=>S3 x3
  | .ret r=>some (.stop (Out.ret r))
def yW(m:Mem):Int→Option (Step Int (Out Unit Bool))
  | x3=>(if decide (x3 < 3) then (idx m.aB.Global x3).bind fun x4=>(yT m.aE x4.aM x3).bind fun x5=>(if !x5 then some (.stop (Out.ret false)) else (loop (yV m x3) 0).bind (S4 x3)) else some (.stop (Out.brk ())))
def aFQ:(Out Unit Bool)→Option Bool
  | .brk ()=>aFP
  | .ret r=>some r
def E6(m:Mem)(x1:Bool):Option Bool:=
  (if x1 then some false else (loop (yW m) 0).bind (aFQ))
def I7(m:Mem):Option Bool:=
  (KR m.aE).bind fun x11=>(if !x11 then E6 m true else (IA m.aB).bind fun x12=>E6 m (!x12))
def wU(x1:Bool):Option Bool:=
  some x1
def gT(h:Int):Option Bool:=
  (bT h 32 223).bind fun x2=>(if x2 then wU (decide ((Int.tmod h 32) < 24)) else wU false)
def fB(h:Int):Option Int:=
  (gT h).bind fun x1=>(if !x1 then some (-1) else some (Int.tmod h 32))
def KS(l:aB)(slot:Int):Option Bool:=
  (I6 l).bind fun x1=>(EA x1 slot).bind fun x2=>some x2
def IB(m:Mem)(slot:Int):Option Int:=
  (l4 m.aE slot).bind fun x1=>(if decide (x1 < 0) then some 0 else (KS m.aB slot).bind fun x2=>(if x2 then some 1 else (vC m.aE slot).bind fun x3=>(if decide (6 < x3) then some 2 else some 3)))
def CS(h:Int):Option Int:=
  (gT h).bind fun x1=>(if !x1 then some 0 else some (aV (Int.tdiv h 32)))
def sI(x1:Bool):Option Bool:=
  some x1
def wV(m:Mem)(h:Int):Option Bool:=
  (gT h).bind fun x2=>(if x2 then (fB h).bind fun x3=>(IB m x3).bind fun x4=>(if x4 == 3 then (fB h).bind fun x5=>(vC m.aE x5).bind fun x6=>(CS h).bind fun x7=>sI (x6 == x7) else sI false) else sI false)
def aC0(x5:List c9):Option (List c9):=
  some x5
def vD(l:List aS):((List c9)×Int)→Option (Step ((List c9)×Int) (List c9))
  | (x3,x4)=>(if decide (x4 < (l.length:Int)) then (idx l x4).bind fun x6=>need (x3.length+x6.Rows.length≤1073741824) (some (.next (x3++x6.Rows,aV (x4+1)))) else some (.stop (x3)))
def aC1:(List c9)→Option (List c9)
  | x5=>aC0 x5
def A2(l:List aS):Option (List c9):=
  (loop (vD l) (([]:List c9),0)).bind (aC1)
def ZI:Option Bool:=
  some false
def sJ(x3:Int)(x4:Bool):Option (Step Int (Out Unit Bool)):=
  (if x4 then some (.stop (Out.ret true)) else some (.next (aV (x3+1))))
def nC(slot:Int)(x1:(List c9)):Int→Option (Step Int (Out Unit Bool))
  | x3=>(if decide (x3 < (x1.length:Int)) then (idx x1 x3).bind fun x5=>(gT x5.Handle).bind fun x6=>(if x6 then (fB x5.Handle).bind fun x7=>sJ x3 (x7 == slot) else sJ x3 false) else some (.stop (Out.brk ())))
def ZJ:(Out Unit Bool)→Option Bool
  | .brk ()=>ZI
  | .ret r=>some r
def IC(l:List aS)(slot:Int):Option Bool:=
  (A2 l).bind fun x1=>(loop (nC slot x1) 0).bind (ZJ)
def O5:Option Bool:=
  some true
def lG(x3:Int)(x5:Bool):Option (Step Int (Out Unit Bool)):=
  (if x5 then some (.stop (Out.ret false)) else some (.next (aV (x3+1))))
def sK(c:aH):Int→Option (Step Int (Out Unit Bool))
  | x3=>(if decide (x3 < 3) then (idx c.bO x3).bind fun x4=>(if !x4.On then (if !(decide (x4=(⟨false,0,false,0⟩:o5))) then lG x3 true else (bT x4.aL 0 c.aL).bind fun x6=>(if !x6 then lG x3 true else (bT x4.Seen 0 2).bind fun x7=>lG x3 (!x7))) else (bT x4.aL 0 c.aL).bind fun x8=>(if !x8 then lG x3 true else (bT x4.Seen 0 2).bind fun x9=>lG x3 (!x9))) else some (.stop (Out.brk ())))
def GV:(Out Unit Bool)→Option Bool
  | .brk ()=>O5
  | .ret r=>some r
def nD(c:aH)(x1:Bool):Option Bool:=
  (if x1 then some false else (loop (sK c) 0).bind (GV))
def nX(c:aH):Option Bool:=
  (bT c.aL 0 100000).bind fun x10=>(if !x10 then nD c true else nD c ((c.bO.length:Int) != 3))
def ZK:Option Bool:=
  some true
def sL(x5:List Int)(x6 x8:Int)(x9:Bool):Option (Step ((List Int)×Int) (Out Unit Bool)):=
  (if x9 then some (.stop (Out.ret false)) else need (x5.length+([x8]).length≤1073741824) (some (.next (x5++([x8]),aV (x6+1)))))
def sM(x1:(List c9)):((List Int)×Int)→Option (Step ((List Int)×Int) (Out Unit Bool))
  | (x5,x6)=>(if decide (x6 < (x1.length:Int)) then (idx x1 x6).bind fun x7=>(fB x7.Handle).bind fun x8=>(if decide (x8 < 0) then sL x5 x6 x8 true else (bT x7.aL 0 100000).bind fun x10=>(if !x10 then sL x5 x6 x8 true else (EA x5 x8).bind fun x11=>sL x5 x6 x8 x11)) else some (.stop (Out.brk ())))
def ZL:(Out Unit Bool)→Option Bool
  | .brk ()=>ZK
  | .ret r=>some r
def zV(x1:(List c9))(x2:Bool):Option Bool:=
  (if x2 then some false else (loop (sM x1) (([]:List Int),0)).bind (ZL))
def ID(l:List aS):Option Bool:=
  (A2 l).bind fun x1=>(if (l.length:Int) != 3 then zV x1 true else zV x1 (decide (24 < (x1.length:Int))))
def S5(z:List Int):Option Bool:=
  some ((z.length:Int) == 3)
def E7(x2:Int)(x3:Bool):Option (Step Int (Out Unit Bool)):=
  (if x3 then some (.stop (Out.ret false)) else some (.next (aV (x2+1))))
def yX(z:List Int):Int→Option (Step Int (Out Unit Bool))
  | x2=>(if decide (x2 < (z.length:Int)) then (idx z x2).bind fun x4=>(if x4 != 0 then (idx z x2).bind fun x5=>(gT x5).bind fun x6=>E7 x2 (!x6) else E7 x2 false) else some (.stop (Out.brk ())))
def S6(z:List Int):(Out Unit Bool)→Option Bool
  | .brk ()=>S5 z
  | .ret r=>some r
def EB(z:List Int):Option Bool:=
  (loop (yX z) 0).bind (S6 z)
def aC2:Option Bool:=
  some true
def CT(x4:Int)(x5:Bool):Option (Step Int (Out Unit Bool)):=
  (if x5 then some (.stop (Out.ret false)) else some (.next (aV (x4+1))))
def vF(b:aD)(x2:(List c9)):Int→Option (Step Int (Out Unit Bool))
  | x4=>(if decide (x4 < (x2.length:Int)) then (idx x2 x4).bind fun x6=>(wV b.Mem x6.Handle).bind fun x7=>(if !x7 then CT x4 true else CT x4 (decide (b.aH.aL < x6.aL))) else some (.stop (Out.brk ())))
def aC3:(Out Unit Bool)→Option Bool
  | .brk ()=>aC2
  | .ret r=>some r
def pZ(b:aD)(x1:Bool):Option Bool:=
  (if x1 then some false else (A2 b.aU).bind fun x2=>(loop (vF b x2) 0).bind (aC3))
def KT(b:aD):Option Bool:=
  (I7 b.Mem).bind fun x8=>(if !x8 then pZ b true else (nX b.aH).bind fun x9=>(if !x9 then pZ b true else (ID b.aU).bind fun x10=>(if !x10 then pZ b true else (EB b.mA).bind fun x11=>pZ b (!x11))))
def zW(x1:Bool):Option Bool:=
  some x1
def iI(h:Int):Option Bool:=
  (if h == 0 then zW true else (gT h).bind fun x2=>zW x2)
def ZM:Option Bool:=
  some true
def eP(x5:Int)(x7:Bool):Option (Step Int (Out Unit Bool)):=
  (if x7 then some (.stop (Out.ret false)) else some (.next (aV (x5+1))))
def nE(s:aA):Int→Option (Step Int (Out Unit Bool))
  | x5=>(if decide (x5 < 3) then (idx s.aQ x5).bind fun x6=>(if !x6.fV then (if !(decide (x6=(⟨false,(⟨0,0,0,0⟩:eU),0,0,(⟨0,0,0,0,0,0,0,0,0,false⟩:Sub),0,0,0,0⟩:bR))) then eP x5 true else (if x6.fV then (IP x6.Op).bind fun x8=>(if !x8 then eP x5 true else (iI x6.H).bind fun x9=>(if !x9 then eP x5 true else (iI x6.Old).bind fun x10=>eP x5 (!x10))) else (iI x6.H).bind fun x11=>(if !x11 then eP x5 true else (iI x6.Old).bind fun x12=>eP x5 (!x12)))) else (if x6.fV then (IP x6.Op).bind fun x13=>(if !x13 then eP x5 true else (iI x6.H).bind fun x14=>(if !x14 then eP x5 true else (iI x6.Old).bind fun x15=>eP x5 (!x15))) else (iI x6.H).bind fun x16=>(if !x16 then eP x5 true else (iI x6.Old).bind fun x17=>eP x5 (!x17)))) else some (.stop (Out.brk ())))
def ZN:(Out Unit Bool)→Option Bool
  | .brk ()=>ZM
  | .ret r=>some r
def O6(s:aA):Option Bool:=
  (loop (nE s) 0).bind (ZN)
def nF(s:aA):Int→Option (Step Int (Out Unit Bool))
  | x3=>(if decide (x3 < 2) then (idx s.Cells x3).bind fun x18=>(iI x18).bind fun x19=>(if !x19 then some (.stop (Out.ret false)) else some (.next (aV (x3+1)))) else some (.stop (Out.brk ())))
def O7(s:aA):(Out Unit Bool)→Option Bool
  | .brk ()=>O6 s
  | .ret r=>some r
def lH(s:aA)(x1:Bool):Option Bool:=
  (if x1 then some false else (loop (nF s) 0).bind (O7 s))
def wW(s:aA):Option Bool:=
  (KT s.aD).bind fun x20=>(if !x20 then lH s true else (if (s.Cells.length:Int) != 2 then lH s true else (if (s.aQ.length:Int) != 3 then lH s true else (BR s.cE).bind fun x21=>(if !x21 then lH s true else (bT s.aJ 0 1000000).bind fun x22=>lH s (!x22)))))
def O8(x1:(List Int)×(Int×Int))(x10 x11:Int)(x12:List Queue):Option (fQ×(Int×Int)):=
  some ((⟨x12,x1.1⟩:fQ),(x10,x11))
def O9(x6:Int)(x9:List Queue)(x22 x23:Int)(x24:List eU):Option (Step (Int×Int×Int×(List Queue)) (Int×Int×(List Queue))):=
  need (x9.length+([(⟨x24⟩:Queue)]).length≤1073741824) (some (.next (aV (x6+1),x22,x23,x9++([(⟨x24⟩:Queue)]))))
def GW(x18 x25 x26:Int)(x27:List eU):Option (Step (Int×Int×Int×(List eU)) (Int×Int×(List eU))):=
  some (.next (aV (x18 - 1),x25,x26,x27))
def PA(c:gQ):(Int×Int×Int×(List eU))→Option (Step (Int×Int×Int×(List eU)) (Int×Int×(List eU)))
  | (x18,x19,x20,x21)=>(if decide (0 < x18) then (gY (⟨c.b,x19,x20⟩:gQ) 2).bind fun x28=>(gY (⟨c.b,x28.2.1,x28.2.2⟩:gQ) 24).bind fun x29=>need (x21.length+([(⟨1,x28.1,aV (17+x29.1),x18⟩:eU)]).length≤1073741824)<|GW x18 x29.2.1 x29.2.2 (x21++([(⟨1,x28.1,aV (17+x29.1),x18⟩:eU)])) else some (.stop ((x19,x20,x21))))
def PB(x6:Int)(x9:List Queue):(Int×Int×(List eU))→Option (Step (Int×Int×Int×(List Queue)) (Int×Int×(List Queue)))
  | (x22,x23,x24)=>O9 x6 x9 x22 x23 x24
def PC(c:gQ):(Int×Int×Int×(List Queue))→Option (Step (Int×Int×Int×(List Queue)) (Int×Int×(List Queue)))
  | (x6,x7,x8,x9)=>(if decide (x6 < 3) then (gY (⟨c.b,x7,x8⟩:gQ) 6).bind fun x13=>(loop (PA c) (aV (3+x13.1),x13.2.1,x13.2.2,[])).bind (PB x6 x9) else some (.stop ((x7,x8,x9))))
def PD(x1:(List Int)×(Int×Int)):(Int×Int×(List Queue))→Option (fQ×(Int×Int))
  | (x10,x11,x12)=>O8 x1 x10 x11 x12
def CU(c:gQ)(most:Int):Option (fQ×(Int×Int)):=
  (ES c most).bind fun x1=>(loop (PC c) (0,x1.2.1,x1.2.2,[])).bind (PD x1)
def tU(code:List UInt8):Option fQ:=
  (I2 code).bind fun x1=>(CU (⟨code,x1.1,x1.2⟩:gQ) 120).bind fun x2=>some x2.1
def aFR(x5:List Ev):Option (List Ev):=
  some x5
def E8(x4:Int)(x6:List Ev):Option (Step ((List Ev)×Int) (List Ev)):=
  some (.next (x6,aV (x4+1)))
def yY(s:aA):((List Ev)×Int)→Option (Step ((List Ev)×Int) (List Ev))
  | (x3,x4)=>(if decide (x4 < (s.Log.length:Int)) then (idx s.Log x4).bind fun x7=>(if x7.Kind == 4 then need (x3.length+([x7]).length≤1073741824) (E8 x4 (x3++([x7]))) else E8 x4 x3) else some (.stop (x3)))
def aFS:(List Ev)→Option (List Ev)
  | x5=>aFR x5
def N0(s:aA):Option (List Ev):=
  (loop (yY s) (([]:List Ev),0)).bind (aFS)
def VA(x5:Int):Option Int:=
  some x5
def tV(x4 x6:Int):Option (Step (Int×Int) Int):=
  some (.next (x6,aV (x4+1)))
def nY(h:aE):(Int×Int)→Option (Step (Int×Int) Int)
  | (x3,x4)=>(if decide (x4 < (h.Class.length:Int)) then (idx h.Class x4).bind fun x7=>(if x7 == (-1) then tV x4 (aV (x3+1)) else tV x4 x3) else some (.stop (x3)))
def VB:Int→Option Int
  | x5=>VA x5
def kH(h:aE):Option Int:=
  (loop (nY h) (0,0)).bind (VB)
def XI(x9:List aA):Option (List aA):=
  some x9
def wX(x7:Int)(x10:List aA)(x11:aA):Option (Step ((List aA)×Int×aA) (List aA)):=
  some (.next (x10,aV (x7+1),x11))
def p5(x:fQ):((List aA)×Int×aA)→Option (Step ((List aA)×Int×aA) (List aA))
  | (x6,x7,x8)=>(if decide (x7 < (((x.aY.take ((if 400 < (x.aY.length:Int) then 400 else (x.aY.length:Int)).toNat)).drop 0).length:Int)) then (idx ((x.aY.take ((if 400 < (x.aY.length:Int) then 400 else (x.aY.length:Int)).toNat)).drop 0) x7).bind fun x12=>(eV x12).bind fun x13=>(if x13 then (lF x8 x12).bind fun x14=>(uJ x14).bind fun x15=>need (x6.length+([x15]).length≤1073741824) (wX x7 (x6++([x15])) x14) else wX x7 x6 x8) else some (.stop (x6)))
def XJ:(List aA)→Option (List aA)
  | x9=>XI x9
def E9(x:fQ):Option (List aA):=
  (sZ x.cE).bind fun x1=>(if (x1.aQ.length:Int) == 0 then some ([]) else (uJ x1).bind fun x2=>need (0≤(if 400 < (x.aY.length:Int) then 400 else (x.aY.length:Int):Int)∧(if 400 < (x.aY.length:Int) then 400 else (x.aY.length:Int):Int)≤(x.aY.length:Int)) ((loop (p5 x) ([x2],0,x1)).bind (XJ)))
def fZ(kind a_:Int):Option Sub:=
  some (⟨kind,a_,0,0,0,0,0,0,0,false⟩:Sub)
def dZ(s:aA)(w_:Int)(x2:Queue)(x3:eU)(x4:bR):Option aA:=
  (idx s.aQ w_).bind fun x5=>need (s.Log.length+([(⟨1,w_,aV (s.aJ+1),x3.Cell,0,0,0⟩:Ev)]).length≤1073741824) (some (⟨s.aD,s.Cells,s.aQ.set w_.toNat x4,s.cE.set w_.toNat (⟨(x2.jJ.take x2.jJ.length).drop ((1:Int).toNat)⟩:Queue),s.Log++([(⟨1,w_,aV (s.aJ+1),x3.Cell,0,0,0⟩:Ev)]),aV (s.aJ+1)⟩:aA))
def hC(s:aA)(w_:Int)(x2:Queue)(x3:eU)(x7:Bool):Option aA:=
  (if x7 then (fZ 5 0).bind fun x8=>(idx s.aD.aH.bO w_).bind fun x9=>(if x9.On then dZ s w_ x2 x3 (⟨true,x3,aV (s.aJ+1),9,x8,0,0,0,1⟩:bR) else dZ s w_ x2 x3 (⟨true,x3,aV (s.aJ+1),0,x8,0,0,0,0⟩:bR)) else (if x3.Kind == 4 then (fZ 3 0).bind fun x10=>dZ s w_ x2 x3 (⟨true,x3,aV (s.aJ+1),0,x10,0,0,0,0⟩:bR) else dZ s w_ x2 x3 (⟨true,x3,aV (s.aJ+1),0,(⟨0,0,0,0,0,0,0,0,0,false⟩:Sub),0,0,0,0⟩:bR)))
def p7(s:aA)(w_:Int)(x1:Bool):Option aA:=
  (if x1 then some s else (idx s.cE w_).bind fun x2=>(idx x2.jJ 0).bind fun x3=>need (0≤(1:Int)∧(1:Int)≤(x2.jJ.length:Int)) ((if x3.Kind == 1 then (fZ 1 x3.dU).bind fun x6=>dZ s w_ x2 x3 (⟨true,x3,aV (s.aJ+1),0,x6,0,0,0,0⟩:bR) else (if x3.Kind == 2 then hC s w_ x2 x3 true else hC s w_ x2 x3 (x3.Kind == 5)))))
def tB(s:aA)(w_:Int):Option aA:=
  (idx s.cE w_).bind fun x11=>(if (x11.jJ.length:Int) == 0 then p7 s w_ true else p7 s w_ (s.aJ == 1000000))
def ZO:Option Int:=
  some (-1)
def fC(size:Int):Int→Option (Step Int (Out Unit Int))
  | x2=>(if decide (x2 < 3) then (nW x2).bind fun x3=>(bT size 1 x3).bind fun x4=>(if x4 then some (.stop (Out.ret x2)) else some (.next (aV (x2+1)))) else some (.stop (Out.brk ())))
def ZP:(Out Unit Int)→Option Int
  | .brk ()=>ZO
  | .ret r=>some r
def j6(size:Int):Option Int:=
  (loop (fC size) 0).bind (ZP)
def bK(s:Sub)(code:Int):Option Sub:=
  some ({s with Code:=code,cS:=true}:Sub)
def FA(s:aK)(x1:Int):Option (aK×Int):=
  some ((⟨(s.aM.take ((aV ((s.aM.length:Int) - 1)).toNat)).drop 0⟩:aK),x1)
def oQ(s:aK):Option (aK×Int):=
  (if (s.aM.length:Int) == 0 then some (s,(-1)) else need (0≤(aV ((s.aM.length:Int) - 1):Int)∧(aV ((s.aM.length:Int) - 1):Int)≤(s.aM.length:Int)) ((idx s.aM (aV ((s.aM.length:Int) - 1))).bind fun x2=>FA s x2))
def ZQ(x7:List Int):Option (List Int):=
  some x7
def zX(at_:Int):((List Int)×Int×Int)→Option (Step ((List Int)×Int×Int) (List Int))
  | (x4,x5,x6)=>(if decide (0≤x6) then (idx x4 (aV (at_+x6))).bind fun x8=>some (.next (x4.set ((aV (at_+x6)).toNat) (Int.tmod x5 256),aV (Int.tdiv x5 256),aV (x6 - 1))) else some (.stop (x4)))
def ZR:(List Int)→Option (List Int)
  | x7=>ZQ x7
def rP(b:List Int)(at_ width n:Int):Option (List Int):=
  (loop (zX at_) (b,n,aV (width - 1))).bind (ZR)
def ZS(h:aE):Option (aE×(List Int)):=
  some (h,([]:List Int))
def zY(x2:Int):Option (Step Int (Out Unit (aE×(List Int)))):=
  some (.next (aV (x2+1)))
def ZT(h:aE)(c x2:Int)(x14 x15:List Int):Option (Step Int (Out Unit (aE×(List Int)))):=
  some (.stop (Out.ret ((⟨x15,h.Class.set x2.toNat c⟩:aE),x14)))
def GX(x2:Int)(x11:List Int)(x12:Int)(x17:List Int):Option (Step ((List Int)×Int×(List Int)) ((List Int)×(List Int))):=
  (qY x2 x12).bind fun x18=>need (x11.length+([x18]).length≤1073741824) (some (.next (x11++([x18]),aV (x12+1),x17)))
def zZ(c x2:Int):((List Int)×Int×(List Int))→Option (Step ((List Int)×Int×(List Int)) ((List Int)×(List Int)))
  | (x11,x12,x13)=>(lZ c).bind fun x16=>(if decide (x12 < x16) then (qY x2 x12).bind fun x19=>(uZ x19 c).bind fun x20=>(rP x13 x20 4 1).bind fun x21=>GX x2 x11 x12 x21 else some (.stop ((x11,x13))))
def ZU(h:aE)(c x2:Int):((List Int)×(List Int))→Option (Step Int (Out Unit (aE×(List Int))))
  | (x14,x15)=>ZT h c x2 x14 x15
def eQ(h:aE)(c:Int):Int→Option (Step Int (Out Unit (aE×(List Int))))
  | x2=>(if decide (x2 < 6) then (idx h.Class x2).bind fun x3=>(if x3 != (-1) then zY x2 else (idx h.Bytes (aV (x2 * 64))).bind fun x4=>(idx (h.Bytes.set ((aV (x2 * 64)).toNat) 171) (aV ((aV (x2 * 64))+1))).bind fun x5=>(lZ c).bind fun x6=>(idx ((h.Bytes.set ((aV (x2 * 64)).toNat) 171).set ((aV ((aV (x2 * 64))+1)).toNat) c) (aV ((aV (x2 * 64))+2))).bind fun x7=>(loop (zZ c x2) (([]:List Int),0,((h.Bytes.set ((aV (x2 * 64)).toNat) 171).set ((aV ((aV (x2 * 64))+1)).toNat) c).set ((aV ((aV (x2 * 64))+2)).toNat) x6)).bind (ZU h c x2)) else some (.stop (Out.brk ())))
def ZV(h:aE):(Out Unit (aE×(List Int)))→Option (aE×(List Int))
  | .brk ()=>ZS h
  | .ret r=>some r
def nZ(h:aE)(c:Int):Option (aE×(List Int)):=
  (loop (eQ h c) 0).bind (ZV h)
def z5(m:Mem)(c:Int)(x1:aE×(List Int))(x2:aK)(x3:Int):Option (Mem×Int):=
  some ((⟨x1.1,(⟨m.aB.Global.set c.toNat (⟨x2.aM++((x1.2.take x1.2.length).drop ((1:Int).toNat))⟩:aK),m.aB.Own⟩:aB)⟩:Mem),x3)
def wY(m:Mem)(c:Int):Option (Mem×Int):=
  (nZ m.aE c).bind fun x1=>(if (x1.2.length:Int) == 0 then some ((⟨x1.1,m.aB⟩:Mem),(-1)) else (idx m.aB.Global c).bind fun x2=>need (0≤(1:Int)∧(1:Int)≤(x1.2.length:Int)) (need (x2.aM.length+((x1.2.take x1.2.length).drop ((1:Int).toNat)).length≤1073741824) ((idx x1.2 0).bind fun x4=>z5 m c x1 x2 x4)))
def p8(slot gen:Int)(x1:Bool):Option Int:=
  (if x1 then some 0 else some (aV ((aV (gen * 32))+slot)))
def FB(slot gen:Int):Option Int:=
  (bT slot 0 23).bind fun x2=>(if !x2 then p8 slot gen true else (bT gen 1 6).bind fun x3=>p8 slot gen (!x3))
def tC(m:Mem)(slot:Int):Option Int:=
  (vC m.aE slot).bind fun x1=>(FB slot x1).bind fun x2=>some x2
def IE(b:aD)(s:Sub)(slot pc:Int):Option Sub:=
  (if decide (0≤slot) then (tC b.Mem slot).bind fun x1=>(bK ({s with Out:=x1}:Sub) 0).bind fun x2=>some x2 else some ({s with Pc:=pc}:Sub))
def qA(s:Sub)(x3:Int)(x5:Bool)(x6:aD):Option (aD×Sub):=
  (if x5 then (bK s 3).bind fun x7=>some (x6,x7) else (IE x6 s x3 (aV (s.Pc+1))).bind fun x8=>some (x6,x8))
def hJ(s:Sub)(x3:Int)(x4:aD):Option (aD×Sub):=
  (if decide (x3 < 0) then qA s x3 (s.Pc == 3) x4 else qA s x3 false x4)
def qB(b:aD)(s:Sub)(x1:Int)(x12:Bool):Option (aD×Sub):=
  (if x12 then (idx b.Mem.aB.Global x1).bind fun x13=>(oQ x13).bind fun x14=>hJ s x14.2 ({b with Mem:=(⟨b.Mem.aE,(⟨b.Mem.aB.Global.set x1.toNat x14.1,b.Mem.aB.Own⟩:aB)⟩:Mem)}:aD) else (if s.Pc == 2 then (wY b.Mem x1).bind fun x15=>hJ s x15.2 ({b with Mem:=x15.1}:aD) else (bK s 1).bind fun x16=>some (b,x16)))
def tD(b:aD)(w_:Int)(s:Sub):Option (aD×Sub):=
  (j6 s.A).bind fun x1=>(if decide (x1 < 0) then (bK s 2).bind fun x2=>some (b,x2) else (if s.Pc == 0 then (rO w_ x1).bind fun x9=>(idx b.Mem.aB.Own x9).bind fun x10=>(oQ x10).bind fun x11=>hJ s x11.2 ({b with Mem:=(⟨b.Mem.aE,(⟨b.Mem.aB.Global,b.Mem.aB.Own.set x9.toNat x11.1⟩:aB)⟩:Mem)}:aD) else (if s.Pc == 1 then qB b s x1 true else qB b s x1 (s.Pc == 3))))
def tW(b:aD)(s:Sub)(x5:List aS):Option (aD×Sub):=
  (bK s 0).bind fun x6=>some (({b with aU:=x5}:aD),x6)
def n9(b:aD)(w_:Int)(s:Sub)(x3:Bool):Option (aD×Sub):=
  (if x3 then (bK s 4).bind fun x4=>some (b,x4) else (idx b.aU w_).bind fun x7=>need (x7.Rows.length+([(⟨s.A,s.E⟩:c9)]).length≤1073741824)<|tW b s (b.aU.set w_.toNat (⟨x7.Rows++([(⟨s.A,s.E⟩:c9)])⟩:aS)))
def qC(b:aD)(w_:Int)(s:Sub):Option (aD×Sub):=
  (if s.Pc == 0 then some (b,({s with Pc:=1,E:=b.aH.aL}:Sub)) else (if s.Pc == 1 then (bT s.E 0 b.aH.aL).bind fun x1=>(if !x1 then (bK s 1).bind fun x2=>some (b,x2) else (wV b.Mem s.A).bind fun x8=>(if !x8 then n9 b w_ s true else (fB s.A).bind fun x9=>(IC b.aU x9).bind fun x10=>n9 b w_ s x10)) else (bK s 1).bind fun x11=>some (b,x11)))
def oA(c:aH):Option aH:=
  need (([]:List o5).length+c.bO.length≤1073741824) (some (⟨c.aL,([]:List o5)++c.bO⟩:aH))
def mN(w_:Int)(x1:aH)(x3:o5)(x4:Bool):Option (aH×Bool):=
  (if x4 then some (x1,true) else (if x3.Seen == 2 then (idx x1.bO w_).bind fun x5=>some ((⟨x1.aL,x1.bO.set w_.toNat ({x5 with eW:=true,Seen:=0}:o5)⟩:aH),true) else (idx x1.bO w_).bind fun x6=>some ((⟨x1.aL,x1.bO.set w_.toNat ({x6 with Seen:=aV (x3.Seen+1)}:o5)⟩:aH),false)))
def vG(c:aH)(w_ e_:Int)(x1:aH)(x2:Bool):Option (aH×Bool):=
  (if x2 then some (x1,false) else (idx c.bO w_).bind fun x3=>(if !x3.On then mN w_ x1 x3 true else (if x3.eW then mN w_ x1 x3 true else mN w_ x1 x3 (x3.aL == e_))))
def A3(c:aH)(w_ e_:Int):Option (aH×Bool):=
  (oA c).bind fun x1=>(nX c).bind fun x7=>(if !x7 then vG c w_ e_ x1 true else (bT w_ 0 2).bind fun x8=>vG c w_ e_ x1 (!x8))
def wZ(e_:Int)(x1:aH)(x2:Bool):Option (aH×Bool):=
  (if x2 then some (x1,false) else some ((⟨aV (e_+1),x1.bO⟩:aH),true))
def IS(c:aH)(e_:Int):Option (aH×Bool):=
  (oA c).bind fun x1=>(nX c).bind fun x3=>(if !x3 then wZ e_ x1 true else (if c.aL != e_ then wZ e_ x1 true else wZ e_ x1 (e_ == 100000)))
def mO(b:aD)(s:Sub)(x3:aH×Bool)(x5:Int):Option (aD×Sub):=
  some (({b with aH:=x3.1}:aD),({s with Pc:=x5,B:=aV (s.B+1)}:Sub))
def mP(b:aD)(s:Sub)(x6:aH×Bool)(x7:Int):Option (aD×Sub):=
  (bK ({s with Out:=x7}:Sub) 0).bind fun x8=>some (({b with aH:=x6.1}:aD),x8)
def nG(b:aD)(s:Sub):Option (aD×Sub):=
  (if s.Pc == 0 then some (b,({s with Pc:=1,E:=b.aH.aL,B:=0}:Sub)) else (if s.Pc == 1 then (bT s.B 0 2).bind fun x1=>(if !x1 then (bK s 1).bind fun x2=>some (b,x2) else (A3 b.aH s.B s.E).bind fun x3=>(if !x3.2 then (bK s 8).bind fun x4=>some (({b with aH:=x3.1}:aD),x4) else (if (aV (s.B+1)) == 3 then mO b s x3 2 else mO b s x3 s.Pc))) else (if s.Pc == 2 then (IS b.aH s.E).bind fun x6=>(if x6.2 then mP b s x6 1 else mP b s x6 s.Out) else (bK s 1).bind fun x9=>some (b,x9))))
def CV(x1:Bool):Option Bool:=
  some x1
def EC(r_:c9)(e_:Int):Option Bool:=
  (if decide (2≤e_) then CV (decide (r_.aL≤(aV (e_ - 2)))) else CV false)
def ZW:Option Int:=
  some (-1)
def eC(l:List c9)(e_:Int):Int→Option (Step Int (Out Unit Int))
  | x2=>(if decide (x2 < (l.length:Int)) then (idx l x2).bind fun x3=>(EC x3 e_).bind fun x4=>(if x4 then some (.stop (Out.ret x2)) else some (.next (aV (x2+1)))) else some (.stop (Out.brk ())))
def ZX:(Out Unit Int)→Option Int
  | .brk ()=>ZW
  | .ret r=>some r
def rQ(l:List c9)(from_ e_:Int):Option Int:=
  (loop (eC l e_) (if 0 < from_ then from_ else 0)).bind (ZX)
def CX(x2 x3:List aK):Option aB:=
  some (⟨x2,x3⟩:aB)
def I8(x:aB)(slot x1:Int)(x4:aK):Option aB:=
  CX x.Global (x.Own.set x1.toNat (⟨x4.aM++([slot])⟩:aK))
def I9(x:aB)(x5:List aK):Option aB:=
  CX x5 x.Own
def KU(x:aB)(w_ c slot:Int):Option aB:=
  (rO w_ c).bind fun x1=>(idx x.Own x1).bind fun x4=>(if decide ((x4.aM.length:Int) < 2) then need (x4.aM.length+([slot]).length≤1073741824)<|I8 x slot x1 x4 else (idx x.Global c).bind fun x6=>need (x6.aM.length+([slot]).length≤1073741824)<|I9 x (x.Global.set c.toNat (⟨x6.aM++([slot])⟩:aK)))
def CY(x:Mem)(x3:List Int)(x4 x5:List aK):Option Mem:=
  some (⟨(⟨x3,x.aE.Class⟩:aE),(⟨x4,x5⟩:aB)⟩:Mem)
def CZ(x:Mem)(w_ slot x1 x2:Int)(x3:List Int):Option Mem:=
  (if decide ((aV (x2+1))≤6) then (KU x.aB w_ x1 slot).bind fun x6=>CY x x3 x6.Global x6.Own else CY x x3 x.aB.Global x.aB.Own)
def A4(x:Mem)(w_ slot:Int):Option Mem:=
  (l4 x.aE slot).bind fun x1=>(vC x.aE slot).bind fun x2=>(uZ slot x1).bind fun x7=>(rP x.aE.Bytes x7 4 (aV (x2+1))).bind fun x8=>CZ x w_ slot x1 x2 x8
def mQ(b:aD)(s:Sub)(x8:Int):Option (aD×Sub):=
  some (b,({s with Pc:=x8,B:=aV (s.B+1)}:Sub))
def eF(b:aD)(s:Sub)(x5:Bool):Option (aD×Sub):=
  (if x5 then (bK s 1).bind fun x6=>some (b,x6) else (idx b.mA s.B).bind fun x7=>(if x7 == s.H then some (b,({s with Pc:=1,Row:=aV (s.Row+1)}:Sub)) else (if (aV (s.B+1)) == 3 then mQ b s 3 else mQ b s s.Pc)))
def rR(s:Sub)(x14:aD):Option (aD×Sub):=
  some (x14,({s with Pc:=1,Out:=aV (s.Out+1)}:Sub))
def eG(b:aD)(w_:Int)(s:Sub)(x1:aS)(x12:Bool):Option (aD×Sub):=
  (if x12 then (bK s 1).bind fun x13=>some (b,x13) else need (0≤(s.Row:Int)∧(s.Row:Int)≤(x1.Rows.length:Int)) (need (0≤(aV (s.Row+1):Int)∧(aV (s.Row+1):Int)≤(x1.Rows.length:Int)) (need (s.Row.toNat≤(aV (s.Row+1)).toNat) ((fB s.H).bind fun x15=>(A4 b.Mem w_ x15).bind fun x16=>rR s ({b with Mem:=x16,aU:=b.aU.set w_.toNat (⟨((dE x1.Rows s.Row.toNat (x1.Rows.drop ((aV (s.Row+1)).toNat))).take (s.Row.toNat+(x1.Rows.length - ((aV (s.Row+1)).toNat)))).drop 0⟩:aS)}:aD)))))
def nH(b:aD)(w_:Int)(s:Sub):Option (aD×Sub):=
  (idx b.aU w_).bind fun x1=>(if s.Pc == 0 then some (b,({s with Pc:=1,E:=b.aH.aL,Row:=0}:Sub)) else (if s.Pc == 1 then (rQ x1.Rows s.Row s.E).bind fun x2=>(if decide (x2 < 0) then (bK s 0).bind fun x3=>some (b,x3) else (idx x1.Rows x2).bind fun x4=>some (b,({s with Pc:=2,Row:=x2,B:=0,H:=x4.Handle}:Sub))) else (if s.Pc == 2 then (bT s.B 0 2).bind fun x9=>(if !x9 then eF b s true else (bT s.Row 0 (aV ((x1.Rows.length:Int) - 1))).bind fun x10=>(if !x10 then eF b s true else (idx x1.Rows s.Row).bind fun x11=>eF b s (x11.Handle != s.H))) else (if s.Pc == 3 then (bT s.Row 0 (aV ((x1.Rows.length:Int) - 1))).bind fun x17=>(if !x17 then eG b w_ s x1 true else (idx x1.Rows s.Row).bind fun x18=>(if x18.Handle != s.H then eG b w_ s x1 true else (EC x18 s.E).bind fun x19=>eG b w_ s x1 (!x19))) else (bK s 1).bind fun x20=>some (b,x20)))))
def tE(w_ e_:Int)(x1:aH)(x2:Bool):Option (aH×Bool):=
  (if x2 then some (x1,false) else (idx x1.bO w_).bind fun x3=>some ((⟨x1.aL,x1.bO.set w_.toNat (⟨true,e_,false,0⟩:o5)⟩:aH),true))
def ED(c:aH)(w_ e_:Int):Option (aH×Bool):=
  (oA c).bind fun x1=>(nX c).bind fun x4=>(if !x4 then tE w_ e_ x1 true else (bT w_ 0 2).bind fun x5=>(if !x5 then tE w_ e_ x1 true else (bT e_ 0 c.aL).bind fun x6=>tE w_ e_ x1 (!x6)))
def A5(b:aD)(w_:Int)(s:Sub):Option (aD×Sub):=
  (if s.Pc == 0 then some (b,({s with Pc:=1,E:=b.aH.aL}:Sub)) else (if s.Pc == 1 then (ED b.aH w_ s.E).bind fun x1=>(if !x1.2 then (bK s 1).bind fun x2=>some (({b with aH:=x1.1}:aD),x2) else some (({b with aH:=x1.1}:aD),({s with Pc:=2}:Sub))) else (if s.Pc == 2 then (if b.aH.aL == s.E then (bK s 0).bind fun x3=>some (b,x3) else some (b,({s with Pc:=0}:Sub))) else (bK s 1).bind fun x4=>some (b,x4))))
def rS(b:aD)(w_:Int)(s:Sub):Option (aD×Sub):=
  (if s.cS then some (b,s) else (if s.Kind == 1 then (tD b w_ s).bind fun x1=>some (x1.1,x1.2) else (if s.Kind == 2 then (qC b w_ s).bind fun x2=>some (x2.1,x2.2) else (if s.Kind == 3 then (nG b s).bind fun x3=>some (x3.1,x3.2) else (if s.Kind == 4 then (nH b w_ s).bind fun x4=>some (x4.1,x4.2) else (if s.Kind == 5 then (A5 b w_ s).bind fun x5=>some (x5.1,x5.2) else (bK s 1).bind fun x6=>some (b,x6)))))))
def bC(j:bR)(pc code:Int):Option bR:=
  some ({j with Pc:=pc,Code:=code}:bR)
def l9(b:List Int):Option (List Int):=
  need (([]:List Int).length+b.length≤1073741824) (some (([]:List Int)++b))
def KV(h:aE):Option aE:=
  (l9 h.Bytes).bind fun x1=>(l9 h.Class).bind fun x2=>some (⟨x1,x2⟩:aE)
def aC4(x5:List aK):Option (List aK):=
  some x5
def JA(l:List aK):((List aK)×Int)→Option (Step ((List aK)×Int) (List aK))
  | (x3,x4)=>(if decide (x4 < (l.length:Int)) then (idx l x4).bind fun x6=>(l9 x6.aM).bind fun x7=>need (x3.length+([(⟨x7⟩:aK)]).length≤1073741824) (some (.next (x3++([(⟨x7⟩:aK)]),aV (x4+1)))) else some (.stop (x3)))
def aC5:(List aK)→Option (List aK)
  | x5=>aC4 x5
def F9(l:List aK):Option (List aK):=
  (loop (JA l) (([]:List aK),0)).bind (aC5)
def KW(l:aB):Option aB:=
  (F9 l.Global).bind fun x1=>(F9 l.Own).bind fun x2=>some (⟨x1,x2⟩:aB)
def GA(m:Mem):Option Mem:=
  (KV m.aE).bind fun x1=>(KW m.aB).bind fun x2=>some (⟨x1,x2⟩:Mem)
def C0(slot c:Int):Option Int:=
  (uZ slot c).bind fun x1=>(if decide (x1 < 0) then some (-1) else some (aV (x1+4)))
def vH(at_ x3 x4:Int)(x5:Bool):Option (Int×Int):=
  (if x5 then some (0,2) else (C0 x3 x4).bind fun x6=>some (aV (x6+at_),0))
def vI(m:Mem)(h at_ width:Int)(x1:Bool):Option (Int×Int):=
  (if x1 then some (0,1) else (wV m h).bind fun x2=>(if !x2 then some (0,4) else (fB h).bind fun x3=>(l4 m.aE x3).bind fun x4=>(nW x4).bind fun x7=>(bT at_ 0 (aV (x7 - 1))).bind fun x8=>(if !x8 then vH at_ x3 x4 true else (nW x4).bind fun x9=>vH at_ x3 x4 (decide ((aV (x9 - at_)) < width)))))
def KX(m:Mem)(h at_ width:Int):Option (Int×Int):=
  (I7 m).bind fun x10=>(if !x10 then vI m h at_ width true else (bT width 1 7).bind fun x11=>vI m h at_ width (!x11))
def S7(x8:Int)(x9:List UInt8):Option (List UInt8):=
  (if decide (0 < x8) then some ([]) else some x9)
def FC(width:Int):(Int×(List UInt8)×Int)→Option (Step (Int×(List UInt8)×Int) (Int×(List UInt8)))
  | (x5,x6,x7)=>(if decide (x7 < width) then need (([u8 (Int.tmod x5 256)]).length+x6.length≤9223372036854775807) (some (.next (aV (Int.tdiv x5 256),([u8 (Int.tmod x5 256)])++x6,aV (x7+1)))) else some (.stop ((x5,x6))))
def S8:(Int×(List UInt8))→Option (List UInt8)
  | (x8,x9)=>S7 x8 x9
def FD(n width:Int)(x1:Bool):Option (List UInt8):=
  (if x1 then some ([]) else (loop (FC width) (n,[],0)).bind (S8))
def JB(n width:Int):Option (List UInt8):=
  (bT width 1 7).bind fun x10=>(if !x10 then FD n width true else FD n width (decide (n < 0)))
def xA(m:Mem)(h at_ width n:Int):Option (Mem×Int):=
  (GA m).bind fun x1=>(KX m h at_ width).bind fun x2=>(if x2.2 != 0 then some (x1,x2.2) else (JB n width).bind fun x3=>(if x3 == ([]) then some (x1,1) else (rP x1.aE.Bytes x2.1 width n).bind fun x4=>some ((⟨(⟨x4,x1.aE.Class⟩:aE),x1.aB⟩:Mem),0)))
def A6(s:aA)(w_:Int)(j:bR):Option (aA×bR):=
  (if j.Pc == 0 then (rS s.aD w_ j.Sub).bind fun x1=>(if !x1.2.cS then some (({s with aD:=x1.1}:aA),({j with Sub:=x1.2}:bR)) else (if x1.2.Code != 0 then (bC ({j with Sub:=x1.2}:bR) 9 x1.2.Code).bind fun x2=>some (({s with aD:=x1.1}:aA),x2) else (gT x1.2.Out).bind fun x3=>(if !x3 then (bC ({j with Sub:=x1.2}:bR) 9 1).bind fun x4=>some (({s with aD:=x1.1}:aA),x4) else (bC ({j with Sub:=x1.2,H:=x1.2.Out}:bR) 1 0).bind fun x5=>some (({s with aD:=x1.1}:aA),x5)))) else (if j.Pc == 1 then (xA s.aD.Mem j.H 0 4 j.Op.eH).bind fun x6=>(if x6.2 != 0 then (bC j 9 x6.2).bind fun x7=>some (({s with aD:=(⟨x6.1,s.aD.aH,s.aD.aU,s.aD.mA⟩:aD)}:aA),x7) else (bC j 2 0).bind fun x8=>some (({s with aD:=(⟨x6.1,s.aD.aH,s.aD.aU,s.aD.mA⟩:aD)}:aA),x8)) else (if j.Pc == 2 then (idx s.Cells j.Op.Cell).bind fun x9=>need (s.Log.length+([(⟨2,w_,j.aJ,j.Op.Cell,j.H,j.Op.eH,0⟩:Ev)]).length≤1073741824) ((if x9 == 0 then (bC ({j with Old:=x9}:bR) 9 0).bind fun x10=>some (({s with Cells:=s.Cells.set j.Op.Cell.toNat j.H,Log:=s.Log++([(⟨2,w_,j.aJ,j.Op.Cell,j.H,j.Op.eH,0⟩:Ev)])}:aA),x10) else (fZ 2 x9).bind fun x11=>(bC ({j with Sub:=x11,Old:=x9}:bR) 3 0).bind fun x12=>some (({s with Cells:=s.Cells.set j.Op.Cell.toNat j.H,Log:=s.Log++([(⟨2,w_,j.aJ,j.Op.Cell,j.H,j.Op.eH,0⟩:Ev)])}:aA),x12))) else (if j.Pc == 3 then (rS s.aD w_ j.Sub).bind fun x13=>(if !x13.2.cS then some (({s with aD:=x13.1}:aA),({j with Sub:=x13.2}:bR)) else (bC ({j with Sub:=x13.2}:bR) 9 x13.2.Code).bind fun x14=>some (({s with aD:=x13.1}:aA),x14)) else (bC j 9 1).bind fun x15=>some (s,x15)))))
def iJ(s:aA)(w_:Int)(j:bR):Option aA:=
  need (s.Log.length+([(⟨3,w_,j.aJ,j.Op.Cell,j.H,0,0⟩:Ev)]).length≤1073741824) (some ({s with Log:=s.Log++([(⟨3,w_,j.aJ,j.Op.Cell,j.H,0,0⟩:Ev)])}:aA))
def kI(h:aE)(x at_ width x3:Int)(x4:Bool):Option (Int×Bool):=
  (if x4 then some (0,false) else (fB x).bind fun x5=>(C0 x5 x3).bind fun x6=>(uY h.Bytes (aV (x6+at_)) width).bind fun x7=>some (x7,true))
def vJ(h:aE)(x at_ width:Int)(x1:Bool):Option (Int×Bool):=
  (if x1 then some (0,false) else (fB x).bind fun x2=>(l4 h x2).bind fun x3=>(if decide (x3 < 0) then kI h x at_ width x3 true else (nW x3).bind fun x8=>(bT at_ 0 (aV (x8 - 1))).bind fun x9=>(if !x9 then kI h x at_ width x3 true else (nW x3).bind fun x10=>kI h x at_ width x3 (decide ((aV (x10 - at_)) < width)))))
def GB(h:aE)(x at_ width:Int):Option (Int×Bool):=
  (gT x).bind fun x11=>(if !x11 then vJ h x at_ width true else (bT width 1 7).bind fun x12=>vJ h x at_ width (!x12))
def l5(s:aA)(j:bR):Option Int:=
  (GB s.aD.Mem.aE j.H 0 4).bind fun x1=>some x1.1
def jQ(j:bR)(pc:Int)(x2:Bool):Option bR:=
  (if x2 then (bC j pc 0).bind fun x3=>some x3 else (bC ({j with eH:=0}:bR) pc 6).bind fun x4=>some x4)
def oR(s:aA)(w_:Int)(j:bR)(pc:Int):Option bR:=
  (idx s.aD.aH.bO w_).bind fun x1=>(if x1.On then jQ j pc (!x1.eW) else jQ j pc false)
def tF(w_:Int)(x1:aH)(x2:Bool):Option (aH×Bool):=
  (if x2 then some (x1,false) else (idx x1.bO w_).bind fun x3=>some ((⟨x1.aL,x1.bO.set w_.toNat (⟨false,0,false,0⟩:o5)⟩:aH),true))
def AK(c:aH)(w_:Int):Option (aH×Bool):=
  (oA c).bind fun x1=>(nX c).bind fun x4=>(if !x4 then tF w_ x1 true else (bT w_ 0 2).bind fun x5=>(if !x5 then tF w_ x1 true else (idx c.bO w_).bind fun x6=>tF w_ x1 (!x6.On)))
def A7(s:aA)(w_:Int)(j:bR):Option (aA×bR):=
  (if j.Pc == 0 then (rS s.aD w_ j.Sub).bind fun x1=>(if !x1.2.cS then some (({s with aD:=x1.1}:aA),({j with Sub:=x1.2}:bR)) else (bC ({j with Sub:=x1.2}:bR) 1 0).bind fun x2=>some (({s with aD:=x1.1}:aA),x2)) else (if j.Pc == 1 then (idx s.Cells j.Op.Cell).bind fun x3=>(iJ s w_ ({j with H:=x3}:bR)).bind fun x4=>(if x3 == 0 then (bC ({j with H:=x3}:bR) 4 8).bind fun x5=>some (x4,x5) else (bC ({j with H:=x3}:bR) 2 0).bind fun x6=>some (x4,x6)) else (if j.Pc == 2 then (l5 s j).bind fun x7=>(bC ({j with eH:=x7}:bR) 3 0).bind fun x8=>some (s,x8) else (if j.Pc == 3 then (oR s w_ j 4).bind fun x9=>some (s,x9) else (if j.Pc == 4 then (AK s.aD.aH w_).bind fun x10=>(bC j 9 j.Code).bind fun x11=>some (({s with aD:=(⟨s.aD.Mem,x10.1,s.aD.aU,s.aD.mA⟩:aD)}:aA),x11) else (bC j 9 1).bind fun x12=>some (s,x12))))))
def nI(w_ h:Int)(x1:(List Int))(x2:Bool):Option ((List Int)×Bool):=
  (if x2 then some (x1,false) else (idx x1 w_).bind fun x3=>some (x1.set w_.toNat h,true))
def xB(z:List Int)(w_ h:Int):Option ((List Int)×Bool):=
  (l9 z).bind fun x1=>(EB z).bind fun x4=>(if !x4 then nI w_ h x1 true else (bT w_ 0 2).bind fun x5=>(if !x5 then nI w_ h x1 true else (gT h).bind fun x6=>nI w_ h x1 (!x6)))
def tG(w_:Int)(x1:(List Int))(x2:Bool):Option ((List Int)×Bool):=
  (if x2 then some (x1,false) else (idx x1 w_).bind fun x3=>some (x1.set w_.toNat 0,true))
def EE(z:List Int)(w_:Int):Option ((List Int)×Bool):=
  (l9 z).bind fun x1=>(EB z).bind fun x4=>(if !x4 then tG w_ x1 true else (bT w_ 0 2).bind fun x5=>(if !x5 then tG w_ x1 true else (idx z w_).bind fun x6=>tG w_ x1 (x6 == 0)))
def A8(s:aA)(w_:Int)(j:bR):Option (aA×bR):=
  (if j.Pc == 0 then (idx s.Cells j.Op.Cell).bind fun x1=>(if x1 == 0 then (iJ s w_ ({j with H:=x1}:bR)).bind fun x2=>(bC ({j with H:=x1}:bR) 4 8).bind fun x3=>some (x2,x3) else (bC ({j with H:=x1}:bR) 1 0).bind fun x4=>some (s,x4)) else (if j.Pc == 1 then (xB s.aD.mA w_ j.H).bind fun x5=>(bC j 2 0).bind fun x6=>some (({s with aD:=(⟨s.aD.Mem,s.aD.aH,s.aD.aU,x5.1⟩:aD)}:aA),x6) else (if j.Pc == 2 then (idx s.Cells j.Op.Cell).bind fun x7=>(if x7 != j.H then (bC j 0 0).bind fun x8=>some (s,x8) else (iJ s w_ j).bind fun x9=>(bC j 3 0).bind fun x10=>some (x9,x10)) else (if j.Pc == 3 then (l5 s j).bind fun x11=>(bC ({j with eH:=x11}:bR) 4 0).bind fun x12=>some (s,x12) else (if j.Pc == 4 then (EE s.aD.mA w_).bind fun x13=>(bC j 9 j.Code).bind fun x14=>some (({s with aD:=(⟨s.aD.Mem,s.aD.aH,s.aD.aU,x13.1⟩:aD)}:aA),x14) else (bC j 9 1).bind fun x15=>some (s,x15))))))
def xC(s:aA)(w_:Int)(j:bR):Option (aA×bR):=
  (idx s.aD.aH.bO w_).bind fun x1=>(if j.Pc == 0 then (if !x1.On then (bC j 9 5).bind fun x2=>some (s,x2) else (if x1.eW then (bC j 9 6).bind fun x3=>some (s,x3) else (idx s.Cells j.Op.Cell).bind fun x4=>(iJ s w_ ({j with H:=x4}:bR)).bind fun x5=>(if x4 == 0 then (bC ({j with H:=x4}:bR) 9 8).bind fun x6=>some (x5,x6) else (bC ({j with H:=x4}:bR) 1 0).bind fun x7=>some (x5,x7)))) else (if j.Pc == 1 then (l5 s j).bind fun x8=>(bC ({j with eH:=x8}:bR) 2 0).bind fun x9=>some (s,x9) else (if j.Pc == 2 then (oR s w_ j 9).bind fun x10=>some (s,x10) else (bC j 9 1).bind fun x11=>some (s,x11))))
def fW(s:aA)(w_:Int)(j:bR)(x5:Bool):Option (aA×bR):=
  (if x5 then (bC j 9 1).bind fun x6=>some (s,x6) else (rS s.aD w_ j.Sub).bind fun x7=>(if !x7.2.cS then some (({s with aD:=x7.1}:aA),({j with Sub:=x7.2}:bR)) else (if j.Op.Kind == 5 then (bC ({j with Sub:=x7.2}:bR) 9 x7.2.Code).bind fun x8=>some (({s with aD:=x7.1}:aA),x8) else (if j.Pc == 0 then (fZ 4 0).bind fun x9=>(bC ({j with Sub:=x9}:bR) 1 0).bind fun x10=>some (({s with aD:=x7.1}:aA),x10) else (bC ({j with Sub:=x7.2,eH:=x7.2.Out}:bR) 9 x7.2.Code).bind fun x11=>some (({s with aD:=x7.1}:aA),x11)))))
def qD(s:aA)(w_:Int)(j:bR)(x1:Bool):Option (aA×bR):=
  (if x1 then (AK s.aD.aH w_).bind fun x2=>(if !x2.2 then (bC j 9 5).bind fun x3=>some (({s with aD:=(⟨s.aD.Mem,x2.1,s.aD.aU,s.aD.mA⟩:aD)}:aA),x3) else (bC j 9 0).bind fun x4=>some (({s with aD:=(⟨s.aD.Mem,x2.1,s.aD.aU,s.aD.mA⟩:aD)}:aA),x4)) else (if j.Op.Kind == 6 then fW s w_ j true else (if j.Pc != 0 then (if j.Pc != 1 then fW s w_ j true else fW s w_ j (j.Op.Kind == 5)) else fW s w_ j false)))
def tH(s:aA)(w_:Int)(j:bR):Option (aA×bR):=
  (if j.Op.Kind == 6 then qD s w_ j (j.Pc == 0) else qD s w_ j false)
def cN(w_:Int)(x3:aA)(x4:bR):Option aA:=
  (idx x3.aQ w_).bind fun x5=>some ({x3 with aQ:=x3.aQ.set w_.toNat x4}:aA)
def vK(s:aA)(w_:Int):Option aA:=
  (idx s.aQ w_).bind fun x1=>(if !x1.fV then (tB s w_).bind fun x2=>some x2 else (if x1.Pc == 9 then need (s.Log.length+([(⟨4,w_,x1.aJ,x1.Op.Cell,x1.H,x1.eH,x1.Code⟩:Ev)]).length≤1073741824) (some ({s with aQ:=s.aQ.set w_.toNat (⟨false,(⟨0,0,0,0⟩:eU),0,0,(⟨0,0,0,0,0,0,0,0,0,false⟩:Sub),0,0,0,0⟩:bR),Log:=s.Log++([(⟨4,w_,x1.aJ,x1.Op.Cell,x1.H,x1.eH,x1.Code⟩:Ev)])}:aA)) else (if x1.Op.Kind == 1 then (A6 s w_ x1).bind fun x6=>cN w_ x6.1 x6.2 else (if x1.Op.Kind == 2 then (A7 s w_ x1).bind fun x7=>cN w_ x7.1 x7.2 else (if x1.Op.Kind == 3 then (A8 s w_ x1).bind fun x8=>cN w_ x8.1 x8.2 else (if x1.Op.Kind == 7 then (xC s w_ x1).bind fun x9=>cN w_ x9.1 x9.2 else (tH s w_ x1).bind fun x10=>cN w_ x10.1 x10.2))))))
def ZY(x5:List aS):Option (List aS):=
  some x5
def GY(l:List aS):((List aS)×Int)→Option (Step ((List aS)×Int) (List aS))
  | (x3,x4)=>(if decide (x4 < (l.length:Int)) then (idx l x4).bind fun x6=>need (([]:List c9).length+x6.Rows.length≤1073741824) (need (x3.length+([(⟨([]:List c9)++x6.Rows⟩:aS)]).length≤1073741824) (some (.next (x3++([(⟨([]:List c9)++x6.Rows⟩:aS)]),aV (x4+1))))) else some (.stop (x3)))
def ZZ:(List aS)→Option (List aS)
  | x5=>ZY x5
def IF(l:List aS):Option (List aS):=
  (loop (GY l) (([]:List aS),0)).bind (ZZ)
def IG(b:aD):Option aD:=
  (GA b.Mem).bind fun x1=>(oA b.aH).bind fun x2=>(IF b.aU).bind fun x3=>(l9 b.mA).bind fun x4=>some (⟨x1,x2,x3,x4⟩:aD)
def GZ(x1:aA):Option aA:=
  some x1
def C1(s:aA):Option aA:=
  (IG s.aD).bind fun x2=>(l9 s.Cells).bind fun x3=>need (([]:List bR).length+s.aQ.length≤1073741824)<|(uI s.cE).bind fun x4=>need (([]:List Ev).length+s.Log.length≤1073741824)<|GZ (⟨x2,x3,([]:List bR)++s.aQ,x4,([]:List Ev)++s.Log,s.aJ⟩:aA)
def XL(x9:List aA):Option (List aA):=
  some x9
def xD(x7:Int)(x12:List aA)(x13:aA):Option (Step ((List aA)×Int×aA) (List aA)):=
  some (.next (x12,aV (x7+1),x13))
def qE(x:fQ)(x6:List aA)(x7:Int)(x10:Bool)(x11:aA):Option (Step ((List aA)×Int×aA) (List aA)):=
  (if x10 then (idx x.aY x7).bind fun x14=>(bT x14 0 2).bind fun x15=>(if x15 then (idx x.aY x7).bind fun x16=>(vK x11 x16).bind fun x17=>(C1 x17).bind fun x18=>need (x6.length+([x18]).length≤1073741824) (xD x7 (x6++([x18])) x17) else xD x7 x6 x11) else some (.stop (x6)))
def qF(x:fQ):((List aA)×Int×aA)→Option (Step ((List aA)×Int×aA) (List aA))
  | (x6,x7,x8)=>(if decide (x7 < (x.aY.length:Int)) then qE x x6 x7 (decide (x7 < 400)) x8 else qE x x6 x7 false x8)
def XM:(List aA)→Option (List aA)
  | x9=>XL x9
def FE(x:fQ):Option (List aA):=
  (sT x.cE).bind fun x1=>(if (x1.aQ.length:Int) == 0 then some ([]:List aA) else (C1 x1).bind fun x2=>need (([]:List aA).length+([x2]).length≤1073741824) ((loop (qF x) (([]:List aA)++([x2]),0,x1)).bind (XM)))
def EF(x7:List aA):Option (List aA):=
  some x7
def XN(x13:List aA):Option (List aA):=
  EF x13
def xE(x12:Int)(x15:List aA):Option (Step ((List aA)×Int) (List aA)):=
  some (.next (x15,aV (x12+1)))
def mI(x6:Int×(Int×Int))(x11:List aA)(x12:Int)(x14:Bool):Option (Step ((List aA)×Int) (List aA)):=
  (if x14 then (idx x11 x12).bind fun x16=>(idx x16.aQ x6.1).bind fun x17=>(if x17.fV then xE x12 (x11.set x12.toNat ({x16 with aQ:=x16.aQ.set x6.1.toNat ({x17 with Code:=3}:bR)}:aA)) else xE x12 x11) else some (.stop (x11)))
def M0(x5 x6:Int×(Int×Int)):((List aA)×Int)→Option (Step ((List aA)×Int) (List aA))
  | (x11,x12)=>(if decide (x12 < (x11.length:Int)) then (idx x11 x12).bind fun x18=>(idx x18.aQ x6.1).bind fun x19=>(idx x11 x5.1).bind fun x20=>(idx x20.aQ x6.1).bind fun x21=>mI x6 x11 x12 (x19.aJ == x21.aJ) else mI x6 x11 x12 false)
def XO:(List aA)→Option (List aA)
  | x13=>XN x13
def EG(x5:Int×(Int×Int))(x22:List aA):Option (List aA):=
  need (0≤(x5.1:Int)∧(x5.1:Int)≤(x22.length:Int)) (some ((x22.take x22.length).drop x5.1.toNat))
def qG(code:List UInt8)(x2:fQ×(Int×Int))(x4:List aA):Option (List aA):=
  (gY (⟨code,x2.2.1,x2.2.2⟩:gQ) (x4.length:Int)).bind fun x5=>(gY (⟨code,x5.2.1,x5.2.2⟩:gQ) 3).bind fun x6=>(gY (⟨code,x6.2.1,x6.2.2⟩:gQ) 4).bind fun x8=>(if x8.1 == 0 then (loop (M0 x5 x6) (x4,x5.1)).bind (XO) else (if x8.1 == 1 then (QE (⟨code,x8.2.1,x8.2.2⟩:gQ) 4).bind fun x23=>(if x23.1 then (idx x4 x5.1).bind fun x24=>EG x5 (x4.set x5.1.toNat ({x24 with aJ:=(-1)}:aA)) else EG x5 x4) else EF x4))
def FF(code:List UInt8):Option (List aA):=
  (I2 code).bind fun x1=>(CU (⟨code,x1.1,x1.2⟩:gQ) 60).bind fun x2=>(FE x2.1).bind fun x3=>(if decide (40 < (x3.length:Int)) then need (0≤(aV ((x3.length:Int) - 40):Int)∧(aV ((x3.length:Int) - 40):Int)≤(x3.length:Int)) (qG code x2 ((x3.take x3.length).drop ((aV ((x3.length:Int) - 40)).toNat))) else qG code x2 x3)
def lI(x1:Bool):Option Bool:=
  some x1
def oC(s:aA)(w_ c:Int):Option Bool:=
  (idx s.aD.Mem.aB.Global c).bind fun x2=>(if (x2.aM.length:Int) == 0 then (rO w_ c).bind fun x3=>(idx s.aD.Mem.aB.Own x3).bind fun x4=>(if (x4.aM.length:Int) == 0 then (kH s.aD.Mem.aE).bind fun x5=>lI (x5 == 0) else lI false) else lI false)
def aIF:Option Bool:=
  some true
def VC(x4:Int)(x11:List Bool):Option (Step ((List Bool)×Int) (Out Unit Bool)):=
  some (.next (x11,aV (x4+1)))
def xF(x10:Int)(x12:List Bool):Option (Step ((List Bool)×Int) (Out (List Bool) Bool)):=
  some (.next (x12,aV (x10+1)))
def IH(x10:Int)(x18:List Bool)(x19:Bool):Option (Step ((List Bool)×Int) (Out (List Bool) Bool)):=
  (if x19 then some (.stop (Out.ret false)) else xF x10 x18)
def xG(x10:Int)(x14:bR)(x18:List Bool):Option (Step ((List Bool)×Int) (Out (List Bool) Bool)):=
  (if x14.Code == 3 then (idx x18 x10).bind fun x20=>IH x10 x18 (!x20) else IH x10 x18 false)
def xH(l:List aA)(x4 x10:Int)(x14:bR)(x15:Int)(x16:List Bool)(x17:Bool):Option (Step ((List Bool)×Int) (Out (List Bool) Bool)):=
  (if x17 then xF x10 x16 else (idx x16 x10).bind fun x21=>(if x21 then xG x10 x14 (x16.set x10.toNat true) else (idx l x4).bind fun x22=>(oC x22 x10 x15).bind fun x23=>xG x10 x14 (x16.set x10.toNat x23)))
def oD(l:List aA)(x4 x10:Int)(x14:bR)(x15:Int)(x16:List Bool):Option (Step ((List Bool)×Int) (Out (List Bool) Bool)):=
  (if !x14.fV then xH l x4 x10 x14 x15 x16 true else (if x14.Op.Kind != 1 then xH l x4 x10 x14 x15 x16 true else xH l x4 x10 x14 x15 x16 (decide (x15 < 0))))
def C2(l:List aA)(x4:Int)(x9:List Bool)(x10:Int)(x14:bR)(x15:Int)(x24:Bool):Option (Step ((List Bool)×Int) (Out (List Bool) Bool)):=
  (if x24 then (idx x9 x10).bind fun x25=>oD l x4 x10 x14 x15 (x9.set x10.toNat false) else oD l x4 x10 x14 x15 x9)
def rT(l:List aA)(x4:Int):((List Bool)×Int)→Option (Step ((List Bool)×Int) (Out (List Bool) Bool))
  | (x9,x10)=>(if decide (x10 < 3) then (idx l x4).bind fun x13=>(idx x13.aQ x10).bind fun x14=>(j6 x14.Op.dU).bind fun x15=>(if x4 == 0 then C2 l x4 x9 x10 x14 x15 true else (if !x14.fV then C2 l x4 x9 x10 x14 x15 true else (idx l (aV (x4 - 1))).bind fun x26=>(idx x26.aQ x10).bind fun x27=>C2 l x4 x9 x10 x14 x15 (x27.aJ != x14.aJ))) else some (.stop (Out.brk x9)))
def VD(x4:Int):(Out (List Bool) Bool)→Option (Step ((List Bool)×Int) (Out Unit Bool))
  | .brk x11=>VC x4 x11
  | .ret r=>some (.stop (Out.ret r))
def oE(l:List aA):((List Bool)×Int)→Option (Step ((List Bool)×Int) (Out Unit Bool))
  | (x3,x4)=>(if decide (x4 < (l.length:Int)) then (idx l x4).bind fun x5=>(wW x5).bind fun x6=>(if !x6 then some (.stop (Out.ret false)) else (loop (rT l x4) (x3,0)).bind (VD x4)) else some (.stop (Out.brk ())))
def aIG:(Out Unit Bool)→Option Bool
  | .brk ()=>aIF
  | .ret r=>some r
def M1(l:List aA):Option Bool:=
  need (0≤(3:Int)∧(3:Int)≤4294967296) ((loop (oE l) (List.replicate ((3:Int).toNat) false,0)).bind (aIG))
def oT(x1:Bool):Option Bool:=
  some x1
def rU(j:bR):Option Bool:=
  (if j.fV then (if j.Op.Kind == 1 then (wL j.Op.dU).bind fun x2=>oT (decide (0≤x2)) else oT false) else oT false)
def VE(x5:Int):Option Int:=
  some x5
def C3(x4 x6:Int):Option (Step (Int×Int) Int):=
  some (.next (x6,aV (x4+1)))
def VF(h:aE):(Int×Int)→Option (Step (Int×Int) Int)
  | (x3,x4)=>(if decide (x4 < (h.Class.length:Int)) then (idx h.Class x4).bind fun x7=>(if x7 == (-1) then C3 x4 (aV (x3+1)) else C3 x4 x3) else some (.stop (x3)))
def VG:Int→Option Int
  | x5=>VE x5
def JC(h:aE):Option Int:=
  (loop (VF h) (0,0)).bind (VG)
def oF(x4:Bool):Option Bool:=
  some x4
def kJ(s:aA)(w_:Int):Option Bool:=
  (idx s.aQ w_).bind fun x1=>(rU x1).bind fun x2=>(if !x2 then some false else (wL x1.Op.dU).bind fun x3=>(idx s.aD.Mem.aB.Global x3).bind fun x5=>(if (x5.aM.length:Int) == 0 then (D8 w_ x3).bind fun x6=>(idx s.aD.Mem.aB.Own x6).bind fun x7=>(if (x7.aM.length:Int) == 0 then (JC s.aD.Mem.aE).bind fun x8=>oF (x8 == 0) else oF false) else oF false))
def QV:Option Bool:=
  some false
def iS(l:List aA)(w_ x4:Int)(x5:Bool):Option (Step Int (Out Unit Bool)):=
  (if x5 then (idx l x4).bind fun x6=>(kJ x6 w_).bind fun x7=>(if x7 then some (.stop (Out.ret true)) else some (.next (aV (x4 - 1)))) else some (.stop (Out.brk ())))
def kK(l:List aA)(w_:Int)(x2:bR):Int→Option (Step Int (Out Unit Bool))
  | x4=>(if decide (0≤x4) then (idx l x4).bind fun x8=>(idx x8.aQ w_).bind fun x9=>(if x9.fV then (idx l x4).bind fun x10=>(idx x10.aQ w_).bind fun x11=>iS l w_ x4 (x11.aJ == x2.aJ) else iS l w_ x4 false) else iS l w_ x4 false)
def QW:(Out Unit Bool)→Option Bool
  | .brk ()=>QV
  | .ret r=>some r
def tX(l:List aA)(w_:Int):Option Bool:=
  (idx l (aV ((l.length:Int) - 1))).bind fun x1=>(idx x1.aQ w_).bind fun x2=>(loop (kK l w_ x2) (aV ((l.length:Int) - 1))).bind (QW)
def aIH:Option Bool:=
  some true
def VH(x2:Int):Option (Step Int (Out Unit Bool)):=
  some (.next (aV (x2+1)))
def C4(x6:Int)(x8:Bool):Option (Step Int (Out Unit Bool)):=
  (if x8 then some (.stop (Out.ret false)) else some (.next (aV (x6+1))))
def rV(l:List aA)(x2:Int)(x3:aA):Int→Option (Step Int (Out Unit Bool))
  | x6=>(if decide (x6 < (x3.aQ.length:Int)) then (idx x3.aQ x6).bind fun x7=>(rU x7).bind fun x9=>(if x9 then (if x7.Code == 3 then need (0≤(aV (x2+1):Int)∧(aV (x2+1):Int)≤(l.length:Int)) ((tX ((l.take ((aV (x2+1)).toNat)).drop 0) x6).bind fun x10=>C4 x6 (!x10)) else C4 x6 false) else C4 x6 false) else some (.stop (Out.brk ())))
def VI(x2:Int):(Out Unit Bool)→Option (Step Int (Out Unit Bool))
  | .brk ()=>VH x2
  | .ret r=>some (.stop (Out.ret r))
def oG(l:List aA):Int→Option (Step Int (Out Unit Bool))
  | x2=>(if decide (x2 < (l.length:Int)) then (idx l x2).bind fun x3=>(wI x3).bind fun x4=>(if !x4 then some (.stop (Out.ret false)) else (loop (rV l x2 x3) 0).bind (VI x2)) else some (.stop (Out.brk ())))
def aII:(Out Unit Bool)→Option Bool
  | .brk ()=>aIH
  | .ret r=>some r
def M3(l:List aA):Option Bool:=
  (loop (oG l) 0).bind (aII)
def VJ:Option Bool:=
  some true
def C5(a_ b:List Int):Int→Option (Step Int (Out Unit Bool))
  | x2=>(if decide (x2 < (a_.length:Int)) then (idx a_ x2).bind fun x3=>(idx b x2).bind fun x4=>(if x3 != x4 then some (.stop (Out.ret false)) else some (.next (aV (x2+1)))) else some (.stop (Out.brk ())))
def VK:(Out Unit Bool)→Option Bool
  | .brk ()=>VJ
  | .ret r=>some r
def kL(a_ b:List Int):Option Bool:=
  (if (a_.length:Int) != (b.length:Int) then some false else (loop (C5 a_ b) 0).bind (VK))
def EH(x1:Bool):Option Bool:=
  some x1
def LR(a_ b:aE):Option Bool:=
  (kL a_.Bytes b.Bytes).bind fun x2=>(if x2 then (kL a_.Class b.Class).bind fun x3=>EH x3 else EH false)
def aC6:Option Bool:=
  some true
def JD(a_ b:List aK):Int→Option (Step Int (Out Unit Bool))
  | x2=>(if decide (x2 < (a_.length:Int)) then (idx a_ x2).bind fun x3=>(idx b x2).bind fun x4=>(kL x3.aM x4.aM).bind fun x5=>(if !x5 then some (.stop (Out.ret false)) else some (.next (aV (x2+1)))) else some (.stop (Out.brk ())))
def aC7:(Out Unit Bool)→Option Bool
  | .brk ()=>aC6
  | .ret r=>some r
def GC(a_ b:List aK):Option Bool:=
  (if (a_.length:Int) != (b.length:Int) then some false else (loop (JD a_ b) 0).bind (aC7))
def C6(x1:Bool):Option Bool:=
  some x1
def JE(a_ b:aB):Option Bool:=
  (GC a_.Global b.Global).bind fun x2=>(if x2 then (GC a_.Own b.Own).bind fun x3=>C6 x3 else C6 false)
def G0(x1:Bool):Option Bool:=
  some x1
def II(a_ b:Mem):Option Bool:=
  (LR a_.aE b.aE).bind fun x2=>(if x2 then (JE a_.aB b.aB).bind fun x3=>G0 x3 else G0 false)
def VL:Option Bool:=
  some true
def C7(a_ b:aH):Int→Option (Step Int (Out Unit Bool))
  | x3=>(if decide (x3 < (a_.bO.length:Int)) then (idx a_.bO x3).bind fun x4=>(idx b.bO x3).bind fun x5=>(if !(decide (x4=x5)) then some (.stop (Out.ret false)) else some (.next (aV (x3+1)))) else some (.stop (Out.brk ())))
def VM:(Out Unit Bool)→Option Bool
  | .brk ()=>VL
  | .ret r=>some r
def tY(a_ b:aH)(x1:Bool):Option Bool:=
  (if x1 then some false else (loop (C7 a_ b) 0).bind (VM))
def C8(a_ b:aH):Option Bool:=
  (if a_.aL != b.aL then tY a_ b true else tY a_ b ((a_.bO.length:Int) != (b.bO.length:Int)))
def VN:Option Bool:=
  some true
def KY(x2:Int):Option (Step Int (Out Unit Bool)):=
  some (.next (aV (x2+1)))
def tZ(a_ b:List aS)(x2:Int):Int→Option (Step Int (Out Unit Bool))
  | x6=>(idx a_ x2).bind fun x7=>(if decide (x6 < (x7.Rows.length:Int)) then (idx a_ x2).bind fun x8=>(idx x8.Rows x6).bind fun x9=>(idx b x2).bind fun x10=>(idx x10.Rows x6).bind fun x11=>(if !(decide (x9=x11)) then some (.stop (Out.ret false)) else some (.next (aV (x6+1)))) else some (.stop (Out.brk ())))
def KZ(x2:Int):(Out Unit Bool)→Option (Step Int (Out Unit Bool))
  | .brk ()=>KY x2
  | .ret r=>some (.stop (Out.ret r))
def C9(a_ b:List aS):Int→Option (Step Int (Out Unit Bool))
  | x2=>(if decide (x2 < (a_.length:Int)) then (idx a_ x2).bind fun x3=>(idx b x2).bind fun x4=>(if (x3.Rows.length:Int) != (x4.Rows.length:Int) then some (.stop (Out.ret false)) else (loop (tZ a_ b x2) 0).bind (KZ x2)) else some (.stop (Out.brk ())))
def VO:(Out Unit Bool)→Option Bool
  | .brk ()=>VN
  | .ret r=>some r
def DA(a_ b:List aS):Option Bool:=
  (if (a_.length:Int) != (b.length:Int) then some false else (loop (C9 a_ b) 0).bind (VO))
def qH(x1:Bool):Option Bool:=
  some x1
def FG(a_ b:aD):Option Bool:=
  (II a_.Mem b.Mem).bind fun x2=>(if x2 then (C8 a_.aH b.aH).bind fun x3=>(if x3 then (DA a_.aU b.aU).bind fun x4=>(if x4 then (kL a_.mA b.mA).bind fun x5=>qH x5 else qH false) else qH false) else qH false)
def VQ:Option Bool:=
  some true
def DB(a_ b:aA):Int→Option (Step Int (Out Unit Bool))
  | x7=>(if decide (x7 < (a_.Log.length:Int)) then (idx a_.Log x7).bind fun x8=>(idx b.Log x7).bind fun x9=>(if !(decide (x8=x9)) then some (.stop (Out.ret false)) else some (.next (aV (x7+1)))) else some (.stop (Out.brk ())))
def VR:(Out Unit Bool)→Option Bool
  | .brk ()=>VQ
  | .ret r=>some r
def K0(a_ b:aA):Option Bool:=
  (loop (DB a_ b) 0).bind (VR)
def K1(x5:Int):Option (Step Int (Out Unit Bool)):=
  some (.next (aV (x5+1)))
def uA(a_ b:aA)(x5:Int):Int→Option (Step Int (Out Unit Bool))
  | x13=>(idx a_.cE x5).bind fun x14=>(if decide (x13 < (x14.jJ.length:Int)) then (idx a_.cE x5).bind fun x15=>(idx x15.jJ x13).bind fun x16=>(idx b.cE x5).bind fun x17=>(idx x17.jJ x13).bind fun x18=>(if !(decide (x16=x18)) then some (.stop (Out.ret false)) else some (.next (aV (x13+1)))) else some (.stop (Out.brk ())))
def K2(x5:Int):(Out Unit Bool)→Option (Step Int (Out Unit Bool))
  | .brk ()=>K1 x5
  | .ret r=>some (.stop (Out.ret r))
def DC(a_ b:aA):Int→Option (Step Int (Out Unit Bool))
  | x5=>(if decide (x5 < (a_.cE.length:Int)) then (idx a_.cE x5).bind fun x10=>(idx b.cE x5).bind fun x11=>(if (x10.jJ.length:Int) != (x11.jJ.length:Int) then some (.stop (Out.ret false)) else (loop (uA a_ b x5) 0).bind (K2 x5)) else some (.stop (Out.brk ())))
def K3(a_ b:aA):(Out Unit Bool)→Option Bool
  | .brk ()=>K0 a_ b
  | .ret r=>some r
def K4(a_ b:aA):Option Bool:=
  (loop (DC a_ b) 0).bind (K3 a_ b)
def DD(a_ b:aA):Int→Option (Step Int (Out Unit Bool))
  | x3=>(if decide (x3 < (a_.aQ.length:Int)) then (idx a_.aQ x3).bind fun x19=>(idx b.aQ x3).bind fun x20=>(if !(decide (x19=x20)) then some (.stop (Out.ret false)) else some (.next (aV (x3+1)))) else some (.stop (Out.brk ())))
def K5(a_ b:aA):(Out Unit Bool)→Option Bool
  | .brk ()=>K4 a_ b
  | .ret r=>some r
def iC(a_ b:aA)(x1:Bool):Option Bool:=
  (if x1 then some false else (loop (DD a_ b) 0).bind (K5 a_ b))
def vL(a_ b:aA):Option Bool:=
  (FG a_.aD b.aD).bind fun x21=>(if !x21 then iC a_ b true else (kL a_.Cells b.Cells).bind fun x22=>(if !x22 then iC a_ b true else (if (a_.aQ.length:Int) != (b.aQ.length:Int) then iC a_ b true else (if (a_.cE.length:Int) != (b.cE.length:Int) then iC a_ b true else (if (a_.Log.length:Int) != (b.Log.length:Int) then iC a_ b true else iC a_ b (a_.aJ != b.aJ))))))
def VT(x6:aA):Option aA:=
  some x6
def uB(x4:Int)(x9:aA):Option (Step (Int×aA) aA):=
  some (.next (aV (x4+1),x9))
def oH(x:fQ)(x4:Int)(x7:Bool)(x8:aA):Option (Step (Int×aA) aA):=
  (if x7 then (idx x.aY x4).bind fun x10=>(bT x10 0 2).bind fun x11=>(if x11 then (idx x.aY x4).bind fun x12=>(vK x8 x12).bind fun x13=>uB x4 x13 else uB x4 x8) else some (.stop (x8)))
def oJ(x:fQ):(Int×aA)→Option (Step (Int×aA) aA)
  | (x4,x5)=>(if decide (x4 < (x.aY.length:Int)) then oH x x4 (decide (x4 < 400)) x5 else oH x x4 false x5)
def VU:aA→Option aA
  | x6=>VT x6
def vM(x:fQ):Option aA:=
  (sT x.cE).bind fun x1=>(if (x1.aQ.length:Int) == 0 then some x1 else (loop (oJ x) (0,x1)).bind (VU))
def mR(x12:Bool):Option Bool:=
  some x12
def JF(code:List UInt8)(x2:fQ)(x9:aA):Option Bool:=
  need (0≤(if 60 < (x2.aY.length:Int) then 60 else (x2.aY.length:Int):Int)∧(if 60 < (x2.aY.length:Int) then 60 else (x2.aY.length:Int):Int)≤(x2.aY.length:Int)) ((E9 (⟨x2.cE,(x2.aY.take ((if 60 < (x2.aY.length:Int) then 60 else (x2.aY.length:Int)).toNat)).drop 0⟩:fQ)).bind fun x10=>(FF code).bind fun x11=>(if (x10.length:Int) == (aV ((((x2.aY.take ((if 60 < (x2.aY.length:Int) then 60 else (x2.aY.length:Int)).toNat)).drop 0).length:Int)+1)) then (M1 x10).bind fun x13=>(if x13 then (M3 x10).bind fun x14=>(if x14 then (M3 x11).bind fun x15=>(M1 x11).bind fun x16=>(if x15 == x16 then (vM x2).bind fun x17=>(vL x9 x17).bind fun x18=>(if x18 then (idx x10 (aV ((x10.length:Int) - 1))).bind fun x19=>(vM (⟨x2.cE,(x2.aY.take ((if 60 < (x2.aY.length:Int) then 60 else (x2.aY.length:Int)).toNat)).drop 0⟩:fQ)).bind fun x20=>(vL x19 x20).bind fun x21=>mR x21 else mR false) else mR false) else mR false) else mR false) else mR false))
def vN(x7:Int)(x22:Bool)(x23:aA):Option (Step (Int×aA) (Out aA Bool)):=
  (if x22 then some (.stop (Out.ret false)) else some (.next (aV (x7+1),x23)))
def mS(x4:(List Ev)):(Int×aA)→Option (Step (Int×aA) (Out aA Bool))
  | (x7,x8)=>(if decide (x7 < (x4.length:Int)) then (idx x4 x7).bind fun x24=>(if x24.Code == 3 then (kH x8.aD.Mem.aE).bind fun x25=>vN x7 (x25 != 0) x8 else vN x7 false x8) else some (.stop (Out.brk x8)))
def QX(code:List UInt8)(x2:fQ):(Out aA Bool)→Option Bool
  | .brk x9=>JF code x2 x9
  | .ret r=>some r
def QY(code:List UInt8):Option Bool:=
  (aCN code).bind fun x1=>(if x1 then some true else (tU code).bind fun x2=>(CR x2).bind fun x3=>(N0 x3).bind fun x4=>(loop (mS x4) (0,x3)).bind (QX code x2))
end
end Go.Gv
end
