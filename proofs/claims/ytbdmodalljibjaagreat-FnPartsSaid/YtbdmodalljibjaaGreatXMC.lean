import Derived.Test.YtbdmodalljibjaaGreatXMB
import Derived.Test.YtbdmodalljibjaaGreatProg
set_option linter.unusedVariables false
set_option linter.unusedSimpArgs false
set_option linter.unusedSectionVars false
set_option linter.constructorNameAsVariable false
set_option linter.unnecessarySimpa false
noncomputable section
set_option linter.unusedVariables false
namespace Go.Gv
universe u
theorem Q{α:Sort u}{a:α}:a=a:=Eq.refl a
def W{ρ:Type}(C:Prop)(r:ρ)(F:Option ρ):Prop:=F=some r→C
theorem wm{ρ:Type}{C:Prop}{r:ρ}{F F':Option ρ}(h:F'=F)(k:W C r F):W C r F':=h ▸ k
theorem wi{ρ:Type}{C:Prop}{r:ρ}{F:Option ρ}(h:F=some r)(k:W C r F):C:=k h
def VS(P:Program)(c:Ctx)(f:FuncId){ρ ex:Type}(F:Option ρ)(xs:List SV)(B0:Bl)(L0:List Ch)(sv:ρ→ex→SV)(Lf:ρ→ex→List Ch):Prop:=∀r,F=some r→FnS P f c xs B0 L0 sv Lf r
abbrev V0(P:Program)(c:Ctx)(f:FuncId){ρ:Type}(F:Option ρ)(xs:List SV)(sv:ρ→SV):Prop:=VS P c f F xs [] [] (fun r (_:Unit)=>sv r) (fun _ _=>[])
theorem VS.r{P:Program}{c:Ctx}{f:FuncId}{ρ ex:Type}{F:Option ρ}{xs:List SV}{B0:Bl}{L0:List Ch}{sv:ρ→ex→SV}{Lf:ρ→ex→List Ch}(h:VS P c f F xs B0 L0 sv Lf){r:ρ}(hF:F=some r):FnS P f c xs B0 L0 sv Lf r:=h r hF
def QR(P:Program)(fn:Func){rs:List ResultVar}(_:fn.results=rs.toArray)(c:Ctx)(B0:Bl){ρ ex:Type}(sv:ρ→ex→SV)(Lf:ρ→ex→List Ch)(r:ρ):Act→World→Prop:=QS P fn c B0 sv Lf r
def aL7(T:TT)(rs:List ResultVar)(is:List Nat)(b0:Nat)(L2:List Ch):Stop→Option (SV×List Ch)
  | .ret m e L => match aA8 T e L rs with
    | some x => match CI b0 (nbS x) with
      | true => match NQ b0 m e L is b0 [] L2 with
        | some ([],L3)=>some (nbS x,L3)
        | _=>none
      | false=>none
    | none=>none
  | _=>none
def aIS(is:List Nat)(b0 mj:Nat)(ej:SE)(Lj:List Ch):Stop→Option (SE×List Ch)
  | .fin m e L=>NQ b0 m e L is mj ej Lj
  | _=>none
def exQ(is:List Nat)(id b0 mj:Nat)(ej:SE)(Lj:List Ch):Stop→Option (SE×List Ch)
  | .ex i m e L => match Nat.beq i id with
    | true=>NQ b0 m e L is mj ej Lj
    | false=>none
  | _=>none
def aS5:Stop→Stop
  | .fin m e L=>.ret m e L
  | _=>.stuck
def ixT(T:TT)(t n:Nat):Bool:=match wZ T t with
  | some ⟨.sl el, _, _, _⟩ => match wZ T el with
    | some ⟨_,_,sz,_⟩=>Nat.beq n sz
    | none=>false
  | _=>false
noncomputable section
variable {P:Program} {T:TT} {hT:CJ P T} {n:Nat} {c:Ctx} {B0:Bl} {N:Act→World→Prop} {X:Nat→Act→World→Prop} {Q:Act→World→Prop} {K K':List Fr} {m m':Nat} {e e':SE} {L L' Lv:List Ch} {cf cf' cf1 cf2:tH} {o:Oper}
theorem cY(hT:CJ P T){f:FuncId}{fn:Func}{cd:Code}{xs:List SV}{L0:List Ch}{ρ ex:Type}{sv:ρ→ex→SV}{Lf:ρ→ex→List Ch}{F:Option ρ}{rs:List ResultVar}(hc:∀args w,(callFunc f args).run P w=.ok (.enter f args) w)(hf:P.funcs[f]?=some fn)(hr:fn.results=rs.toArray)(hb:fn.body=some cd)(hm:fn.ntmps=n)
    (k:∀{r},W (G (.mk P T hT n c B0 (QR P fn hr c B0 sv Lf r) (fun _ _ _=>False) (QR P fn hr c B0 sv Lf r)) [] B0.length (aAB 0 xs) L0 (.c cd)) r F) (hl:Nat.ble xs.length n=true:=by exact rfl):VS P c f F xs B0 L0 sv Lf:=
  fun _ hF=>en n hc hf hT hb hm hl (k hF)
theorem aH1{rs:List ResultVar}{is:List Nat}{b0:Nat}{L2 L3:List Ch}{s:SV}{st:Stop}(h:aL7 T rs is b0 L2 st=some (s,L3)):∃m' e' L' x,st=.ret m' e' L'∧aA8 T e' L' rs=some x∧nbS x=s∧CI b0 s=true∧NQ b0 m' e' L' is b0 [] L2=some ([],L3):=by
  unfold aL7 at h
  split at h
  · split at h
    · rename_i h1
      split at h
      · rename_i h2
        split at h
        · rename_i h3
          cases h
          exact⟨_,_,_,_,rfl,h1,rfl,h2,h3⟩
        · cases h
      · cases h
    · cases h
  · cases h
theorem mT{fn:Func}{ρ ex:Type}{sv:ρ→ex→SV}{Lf:ρ→ex→List Ch}{r r':ρ}{rs:List ResultVar}{hr:fn.results=rs.toArray}{zz:Option ρ}(y:ex)(is:List Nat)(hz:zz=some r')(h:aL7 T rs is B0.length (Lf r' y) (iZ T n K cf m e L)=some (sv r' y,Lf r' y)):W (G (.mk P T hT n c B0 N X (QR P fn hr c B0 sv Lf r)) K m e L cf) r zz:=fun hF=>by
  obtain⟨_,_,_,_,h1,h2,h3,h4,h5⟩:=aH1 h
  exact rt y is hF hz h1 hr h2 h3 h4 h5
theorem cN{fn:Func}{ρ:Type}{sv:ρ→Unit→SV}{Lf:ρ→Unit→List Ch}{r r':ρ}{rs:List ResultVar}{hr:fn.results=rs.toArray}{zz:Option ρ}(hz:zz=some r')(h:aL7 T rs [] B0.length (Lf r' ()) (iZ T n K cf m e L)=some (sv r' (),Lf r' ())):W (G (.mk P T hT n c B0 N X (QR P fn hr c B0 sv Lf r)) K m e L cf) r zz:=mT () [] hz h
theorem HA{fn:Func}{ρ ex:Type}{sv:ρ→ex→SV}{Lf:ρ→ex→List Ch}{r r':ρ}{rs:List ResultVar}{hr:fn.results=rs.toArray}{zz:Option ρ}(y:ex)(is:List Nat)(hz:zz=some r')(h:aL7 T rs is B0.length (Lf r' y) (aS5 (iZ T n K cf m e L))=some (sv r' y,Lf r' y)):W (G (.mk P T hT n c B0 (QR P fn hr c B0 sv Lf r) X Q) K m e L cf) r zz:=fun hF=>by
  obtain⟨m',e',L',_,h1,h2,h3,h4,h5⟩:=aH1 h
  refine rf y is hF hz (m':=m') (e':=e') (L':=L') ?_ hr h2 h3 h4 h5
  unfold aS5 at h1
  split at h1
  · rename_i h0;rw [h0];cases h1;rfl
  · cases h1
theorem aH2{is:List Nat}{b0 mj:Nat}{ej e3:SE}{Lj L3:List Ch}{st:Stop}(h:aIS is b0 mj ej Lj st=some (e3,L3)):∃m' e' L',st=.fin m' e' L'∧NQ b0 m' e' L' is mj ej Lj=some (e3,L3):=by
  unfold aIS at h
  split at h
  · exact⟨_,_,_,rfl,h⟩
  · cases h
theorem rT{π υ α:Type}{eq:π→Prop}{mj:Nat}{ej:π→υ→SE}{Lj:π→υ→List Ch}{p:π}{q:α}{zz:Option α}(u:υ)(is:List Nat)(hz:(zz=some q)=eq p)(h:aIS is B0.length mj (ej p u) (Lj p u) (iZ T n K cf m e L)=some (ej p u,Lj p u)):W (G (.mk P T hT n c B0 (JP n c B0 eq mj ej Lj) X Q) K m e L cf) q zz:=fun hF=>by
  obtain⟨_,_,_,h1,h2⟩:=aH2 h
  exact jn u is (hz ▸ hF) h1 h2
theorem cA{π α:Type}{eq:π→Prop}{mj:Nat}{ej:π→Unit→SE}{Lj:π→Unit→List Ch}{p:π}{q:α}{zz:Option α}(is:List Nat)(hz:(zz=some q)=eq p)(h:aIS is B0.length mj (ej p ()) (Lj p ()) (iZ T n K cf m e L)=some (ej p (),Lj p ())):W (G (.mk P T hT n c B0 (JP n c B0 eq mj ej Lj) X Q) K m e L cf) q zz:=rT () is hz h
theorem nxW{σ ρ υ:Type}{o:Step σ ρ}{mj:Nat}{el:σ→υ→SE}{Ll:σ→υ→List Ch}{s:σ}(u:υ)(is:List Nat)(h:aIS is B0.length mj (el s u) (Ll s u) (iZ T n K cf m e L)=some (el s u,Ll s u)):W (G (.mk P T hT n c B0 (NxP n c B0 o mj el Ll) X Q) K m e L cf) o (some (Step.next s)):=fun hF=>by
  obtain⟨_,_,_,h1,h2⟩:=aH2 h
  exact nx u is hF h1 h2
theorem E9{σ ρ:Type}{o:Step σ ρ}{mj:Nat}{el:σ→Unit→SE}{Ll:σ→Unit→List Ch}{s:σ}(is:List Nat)(h:aIS is B0.length mj (el s ()) (Ll s ()) (iZ T n K cf m e L)=some (el s (),Ll s ())):W (G (.mk P T hT n c B0 (NxP n c B0 o mj el Ll) X Q) K m e L cf) o (some (Step.next s)):=nxW () is h
def BkR(n:Nat)(c:Ctx)(B0:Bl){β ρ σ υ:Type}{o:Step σ ρ}{ro:ρ}(_:∀p,o=.stop p→p=ro)(enc:β→ρ)(m:Nat)(ej:β→υ→SE)(Lj:β→υ→List Ch)(id:Nat)(X:Nat→Act→World→Prop):Nat→Act→World→Prop:=BkP n c B0 ro enc m ej Lj id X
theorem bkW{σ ρ β υ:Type}{o:Step σ ρ}{ro:ρ}{enc:β→ρ}{mj id:Nat}{ej:β→υ→SE}{Lj:β→υ→List Ch}{b:β}{hr:∀p,o=.stop p→p=ro}(u:υ)(is:List Nat)(h:exQ is id B0.length mj (ej b u) (Lj b u) (iZ T n K cf m e L)=some (ej b u,Lj b u)):W (G (.mk P T hT n c B0 N (BkR n c B0 hr enc mj ej Lj id X) Q) K m e L cf) o (some (Step.stop (enc b))):=fun hF=>by
  unfold exQ at h
  split at h
  · rename_i h0
    split at h
    · rename_i hb
      rw [Nat.eq_of_beq_eq_true hb] at h0
      exact bk u is hF hr h0 h
    · cases h
  · cases h
theorem CK{σ ρ β:Type}{o:Step σ ρ}{ro:ρ}{enc:β→ρ}{mj id:Nat}{ej:β→Unit→SE}{Lj:β→Unit→List Ch}{b:β}{hr:∀p,o=.stop p→p=ro}(is:List Nat)(h:exQ is id B0.length mj (ej b ()) (Lj b ()) (iZ T n K cf m e L)=some (ej b (),Lj b ())):W (G (.mk P T hT n c B0 N (BkR n c B0 hr enc mj ej Lj id X) Q) K m e L cf) o (some (Step.stop (enc b))):=bkW () is h
theorem IM{σ ρ α:Type}{o:Step σ ρ}{p ro:ρ}{F:ρ→Option α}{q:α}{C:Prop}(hr:∀p,o=.stop p→p=ro)(hF:F ro=some q)(k:W C q (F p)):W C o (some (Step.stop p)):=fun h=>k (re h rfl hr hF)
noncomputable section
variable {b:Bool} {α:Type} {A B':Option α} {q:α}
theorem bU{o:Operand}{x y:Code}(ss:List Nat)(hs:iZ T n K cf m e L=.cond o b x y K' m' e' L')(ho:aW (zL e') ss=some (ss.map fun _=>SV.b b))
    (k1:W (G (.mk P T hT n c B0 N X Q) K' m' (YM true e' ss) L' (.c x)) q A) (k2:W (G (.mk P T hT n c B0 N X Q) K' m' (YM false e' ss) L' (.c y)) q B'):W (G (.mk P T hT n c B0 N X Q) K m e L cf) q (if b=true then A else B'):=fun hF=>cs ss hs ho hF k1 k2
theorem aDV{o:Operand}{x y:Code}(ss:List Nat)(hs:iZ T n K cf m e L=.cond o b x y K' m' e' L')(ho:aW (zL e') ss=some (ss.map fun _=>SV.b b))
    (k1:b=true→W (G (.mk P T hT n c B0 N X Q) K' m' (YM true e' ss) L' (.c x)) q A) (k2:b=false→W (G (.mk P T hT n c B0 N X Q) K' m' (YM false e' ss) L' (.c y)) q B'):W (G (.mk P T hT n c B0 N X Q) K m e L cf) q (if b=true then A else B'):=fun hF=>csK ss hs ho hF k1 k2
theorem eP(ss:List Nat)(hs:iZ T n K cf m e L=.case b cf' K' m' e' L')(ho:aW (zL e') ss=some (ss.map fun _=>SV.b b))
    (k1:W (G (.mk P T hT n c B0 N X Q) K' m' (YM true e' ss) L' cf') q A) (k2:W (G (.mk P T hT n c B0 N X Q) K' m' (YM false e' ss) L' cf') q B'):W (G (.mk P T hT n c B0 N X Q) K m e L cf) q (if b=true then A else B'):=fun hF=>ca ss hs ho hF k1 k2
theorem aDW(ss:List Nat)(hs:iZ T n K cf m e L=.case b cf' K' m' e' L')(ho:aW (zL e') ss=some (ss.map fun _=>SV.b b))
    (k1:b=true→W (G (.mk P T hT n c B0 N X Q) K' m' (YM true e' ss) L' cf') q A) (k2:b=false→W (G (.mk P T hT n c B0 N X Q) K' m' (YM false e' ss) L' cf') q B'):W (G (.mk P T hT n c B0 N X Q) K m e L cf) q (if b=true then A else B'):=fun hF=>caK ss hs ho hF k1 k2
end
noncomputable section
variable {α β:Type} {fo:Option α} {kf:α→Option β} {q:β} {d:Nat} {f:FuncId} {xs:List SV}
theorem c0{sv:α→SV}(hs:iZ T n K cf m e L=.call o (some d) f xs cf1 cf2 K' m' e' L')
    (hc:∀{w},HS c w L'→V0 P (cD w) f fo xs sv) (k:∀x,W (G (.mk P T hT n c B0 N X Q) K' m' ((d,sv x) :: e') L' cf2) q (kf x)):W (G (.mk P T hT n c B0 N X Q) K m e L cf) q (fo.bind kf):=fun hF=>cl0 hs (fun h _ hx=>hc h _ hx) hF fun x _ h=>k x h
theorem c1{ex:Type}{sv:α→ex→SV}{Lf:α→ex→List Ch}(hs:iZ T n K cf m e L=.call o (some d) f xs cf1 cf2 K' m' e' L')
    (hc:∀{w},HS c w L'→VS P (cD w) f fo xs [] [] sv Lf) (k:∀x,∀y:ex,W (G (.mk P T hT n c B0 N X Q) K' m' ((d,sv x y) :: e') (L'++Lf x y) cf2) q (kf x)) (hn:∀x y,noF (Lf x y)=true:=by exact fun _ _=>rfl):W (G (.mk P T hT n c B0 N X Q) K m e L cf) q (fo.bind kf):=fun hF=>cl hs hn (fun h _ hx=>hc h _ hx) hF fun x _ h y=>k x y h
theorem IN{β:Type}{kf:α→Option β}{q:β}{iR:aI α}(C:G9 α){d t:Nat}{s:AC}{i:Int}{ls:List α}(hs:iZ T n K cf m e L=.idx o d t s ls.length i Lv cf1 cf2 K' m' e' L')(h1:bS c s ls)(ht:ixT T t (aI.n α)=true)
    (k:∀x,∀y:C.ex,C.sub c.S0 c.w0 x y→W (G (.mk P T hT n c B0 N X Q) K' (m'+1) ((d,.p m' 0) :: e') (L' ++ [.ro m' (C.cs x y)]) (cf2.ext [.ro m' (C.cs x y)])) q (kf x)):W (G (.mk P T hT n c B0 N X Q) K m e L cf) q ((idx ls i).bind kf):=fun hF=>by
  unfold ixT at ht
  split at ht
  · rename_i h2
    split at ht
    · rename_i h3
      exact ix C hs h1 hF h2 h3 (Nat.eq_of_beq_eq_true ht) fun x _ h y hy=>k x y hy h
    · cases ht
  · cases ht
theorem NC{β:Type}{kf:Int→Option β}{q:β}{d t:Nat}{s:AC}{i:Int}{ls:List Int}(hs:iZ T n K cf m e L=.idx o d t s ls.length i Lv cf1 cf2 K' m' e' L')(h1:bS c s ls)(ht:ixT T t 1=true)
    (k:∀x,W (G (.mk P T hT n c B0 N X Q) K' (m'+1) ((d,.p m' 0) :: e') (L' ++ [.ro m' [.i .i64 x]]) (cf2.ext [.ro m' [.i .i64 x]])) q (kf x)):W (G (.mk P T hT n c B0 N X Q) K m e L cf) q ((idx ls i).bind kf):=IN cI hs h1 ht fun x _ _=>k x
theorem nO(hm:P.follows .mixedOrders=true){id:Nat}{ops:Array Oper}{zz:Option β}(is:List Nat)(hs:iZ T n K cf m e L=.rgn id ops K' m' e' L')
    (k:∀{B1},W (G (.mk P T hT n c B0 N X Q) K' m' e' L' (.d B1 ops (List.replicate ops.size false) is (kl L' is) (kl L' is))) q zz) (hf:(aDC ops && (okL m' (kl L' is) && (cZ is && is.all fun j=>Nat.blt j L'.length)))=true:=by kernel_rfl):W (G (.mk P T hT n c B0 N X Q) K m e L cf) q zz:=fun hF=>dr is hs hm hf fun _=>k hF
theorem jR{π υ:Type}{zz:Option β}(j mj:Nat)(Fj:π→Option β)(ks:List Nat)(ej:π→υ→SE)(is:List Nat)(Lj:π→υ→List Ch)(hs:OO (iZ T n K cf m e L)=some (K',cf',m',e',L'))
    (k1:W (G (.mk P T hT n c B0 (JP n c B0 (fun p=>Fj p=some q) mj (fun p u=>ej p u++kp e' ks) (fun p u=>Lj p u++kl L' is)) (XK (.mk P T hT n c B0 N X Q) (K'.drop j)) Q) (K'.take j) m' e' L' cf') q zz)
    (k2:∀p u,W (G (.mk P T hT n c B0 N X Q) (K'.drop j) mj (ej p u++kp e' ks) (Lj p u++kl L' is) .n) q (Fj p)):W (G (.mk P T hT n c B0 N X Q) K m e L cf) q zz:=fun hF=>cut j mj (fun p=>Fj p=some q) ks ej is Lj hs (k1 hF) fun p u h=>k2 p u h
theorem dK{zz:Option β}(j mj:Nat)(Fj:Bool→Option β)(ks:List Nat)(v:Nat)(is:List Nat)(hs:OO (iZ T n K cf m e L)=some (K',cf',m',e',L'))
    (k1:W (G (.mk P T hT n c B0 (JP n c B0 (fun p=>Fj p=some q) mj (fun p (_:Unit)=>[(v,.b p)]++kp e' ks) (fun _ _=>[]++kl L' is)) (XK (.mk P T hT n c B0 N X Q) (K'.drop j)) Q) (K'.take j) m' e' L' cf') q zz)
    (k2:∀p,W (G (.mk P T hT n c B0 N X Q) (K'.drop j) mj ([(v,.b p)]++kp e' ks) ([]++kl L' is) .n) q (Fj p)):W (G (.mk P T hT n c B0 N X Q) K m e L cf) q zz:=jR j mj Fj ks (fun p (_:Unit)=>[(v,.b p)]) is (fun _ _=>[]) hs k1 fun p _=>k2 p
theorem ND{σ ρ υ γ ω:Type}{id:Nat}{y:Code}{fb:σ→Option (Step σ ρ)}{s0:σ}{gk:ρ→Option β}(u0:υ)(ks:List Nat)(el:σ→υ→SE)(is0 is:List Nat)(Ll:σ→υ→List Ch)(enc:γ→ρ)(kb:List Nat)(ej:γ→ω→SE)(ib:List Nat)(Lj:γ→ω→List Ch)
    (hs:iZ T n K cf m e L=.loop id y K' m' e' L')
    (h0:NQ B0.length m' e' L' is0 m' (el s0 u0++kp e' ks) (Ll s0 u0++kl L' is)=some (el s0 u0++kp e' ks,Ll s0 u0++kl L' is))
    (k1:∀{ro o},gk ro=some q→∀s u,(hr:∀p,o=.stop p→p=ro)→W (G (.mk P T hT n c B0 (NxP n c B0 o m' (fun s u=>el s u++kp e' ks) (fun s u=>Ll s u++kl L' is)) (BkR n c B0 hr enc m' (fun b u=>ej b u++kp e' kb) (fun b u=>Lj b u++kl L' ib) id (XK (.mk P T hT n c B0 N X Q) K')) Q) [] m' (el s u++kp e' ks) (Ll s u++kl L' is) (.c y)) o (fb s))
    (k2:∀b u,W (G (.mk P T hT n c B0 N X Q) K' m' (ej b u++kp e' kb) (Lj b u++kl L' ib) .n) q (gk (enc b))):W (G (.mk P T hT n c B0 N X Q) K m e L cf) q ((loop fb s0).bind gk):=fun hF=>
  lp u0 ks el is0 is Ll enc kb ej ib Lj hs hF h0 (fun ro h1 s u o h2 h3=>k1 h1 s u h3 h2) fun b u h=>k2 b u h
theorem K8{ρ:Type}{id:Nat}{y:Code}{fb:Int→Option (Step Int ρ)}{s0:Int}{gk:ρ→Option β}(v:Nat)(ks:List Nat)(is:List Nat)(enc:Unit→ρ)(kb:List Nat)(ib:List Nat)
    (hs:iZ T n K cf m e L=.loop id y K' m' e' L')
    (h0:NQ B0.length m' e' L' is m' ([(v,.i .i64 s0)]++kp e' ks) ([]++kl L' is)=some ([(v,.i .i64 s0)]++kp e' ks,[]++kl L' is))
    (k1:∀{ro o},gk ro=some q→∀s,(hr:∀p,o=.stop p→p=ro)→W (G (.mk P T hT n c B0 (NxP n c B0 o m' (fun s (_:Unit)=>[(v,.i .i64 s)]++kp e' ks) (fun _ _=>[]++kl L' is)) (BkR n c B0 hr enc m' (fun _ (_:Unit)=>[]++kp e' kb) (fun _ _=>[]++kl L' ib) id (XK (.mk P T hT n c B0 N X Q) K')) Q) [] m' ([(v,.i .i64 s)]++kp e' ks) ([]++kl L' is) (.c y)) o (fb s))
    (k2:W (G (.mk P T hT n c B0 N X Q) K' m' ([]++kp e' kb) ([]++kl L' ib) .n) q (gk (enc ()))):W (G (.mk P T hT n c B0 N X Q) K m e L cf) q ((loop fb s0).bind gk):=
  ND () ks (fun s (_:Unit)=>[(v,.i .i64 s)]) is is (fun _ _=>[]) enc kb (fun _ (_:Unit)=>[]) ib (fun _ _=>[]) hs h0 (fun h s _ hr=>k1 h s hr) fun _ _=>k2
theorem v9{β:Type}{kf:α→Option β}{q:β}[aI α](E:CO α)(j:Nat){t:TypeId}{s:AC}{i:Int}{ls:List α}(hs:iZ T n K cf m e L=.idx o d t s ls.length i Lv cf1 cf2 K' m' e' L')(hj:L'[j]?=some (ow s ls))(hz:fD j cf1.w4=true)
    (k:∀x,idx ls i=some x→∀y:E.ex,Shp s ls.length→W (G (.mk P T hT n c B0 N X Q) K' (m'+1) e' (L'.set j .no++([.o (tC (s.v ls.length) ls i.toNat),.box m' (E.cs x y),wOf α m' s ls.length i.toNat]++E.Lx x y)) (cf1.ext [wOf α m' s ls.length i.toNat])) q (kf x)):W (G (.mk P T hT n c B0 N X Q) K m e L cf) q ((idx ls i).bind kf):=fun hF=>oe E j hs hj hz hF fun x h1 h2 y h3=>k x h1 y h3 h2
end
noncomputable section
variable {α β ex:Type} {fo:Option α} {kf:α→Option β} {q:β} {d:Option Nat} {f:FuncId} {xs xs0:List SV} {M:List Ch} {sv:α→ex→SV} {Lr:α→ex→List Ch}
theorem YO(is:List Nat)
    (hs:cpS (iZ T n K cf m e L)=some (o,d,f,xs,cf1,cf2,K',m',e',L')) (hi:aW (fun i=>L'[i]?) is=some M) (hx:aW (rnP [] 0) xs=some xs0)
    (hk:(LG M && (cZ is && is.all fun j=>fD j cf1.w4))=true)
    (hc:∀{κ:Ctx},HG c κ L' is→VS P κ f fo xs0 [] M sv Lr)
    (k:∀x,∀y:ex,W (G (.mk P T hT n c B0 N X Q) K' m' (dse d (sv x y) e') (LF L' is++Lr x y) cf2) q (kf x)) (hn:∀x y,(LG (Lr x y) && CI 0 (sv x y))=true:=by exact fun _ _=>rfl):W (G (.mk P T hT n c B0 N X Q) K m e L cf) q (fo.bind kf):=fun hF=>
  cw0 is hs hi hx hk hn (fun h _ hx=>hc h _ hx) hF fun x _ h y=>k x y h
theorem c9{c1:List SV}{a1:α→ex→List SV}(i1 n1 o1 k1:Nat)(is:List Nat)
    (hs:cpS (iZ T n K cf m e L)=some (o,d,f,xs,cf1,cf2,K',m',e',L')) (hb:aDO L' [(i1,n1,o1,k1)]=some [c1]) (hi:aW (fun i=>L'[i]?) is=some M) (hx:aW (rnP [(i1,n1,o1,k1)] 0) xs=some xs0)
    (hk:(LG M && ([c1].all (CI.okC 0) && (cZ (i1 :: is) && (i1 :: is).all fun j=>fD j cf1.w4)))=true)
    (hc:∀{κ:Ctx},HG c κ L' (i1 :: is)→∀{b1:Nat×Nat},VS P κ f fo xs0 [b1] (.box 0 c1 :: M) sv (fun x y=>.box 0 (a1 x y) :: Lr x y))
    (k:∀x,∀y:ex,W (G (.mk P T hT n c B0 N X Q) K' m' (dse d (sv x y) e') (IV L' (LF L' (i1 :: is)++Lr x y) [(i1,n1,o1,k1)] [a1 x y]) cf2) q (kf x)) (hn:∀x y,(VY [(i1,n1,o1,k1)] [a1 x y] && ([a1 x y].all (CI.okC 0) && (LG (Lr x y) && CI 0 (sv x y))))=true:=by exact fun _ _=>rfl):W (G (.mk P T hT n c B0 N X Q) K m e L cf) q (fo.bind kf):=fun hF=>
  cw1 i1 n1 o1 k1 is hs hb hi hx hk hn (fun h _ _ hx=>hc h _ hx) hF fun x _ h y=>k x y h
theorem SU{c1 c2:List SV}{a1 a2:α→ex→List SV}(i1 n1 o1 k1:Nat)(i2 n2 o2 k2:Nat)(is:List Nat)
    (hs:cpS (iZ T n K cf m e L)=some (o,d,f,xs,cf1,cf2,K',m',e',L')) (hb:aDO L' [(i1,n1,o1,k1),(i2,n2,o2,k2)]=some [c1,c2]) (hi:aW (fun i=>L'[i]?) is=some M) (hx:aW (rnP [(i1,n1,o1,k1),(i2,n2,o2,k2)] 0) xs=some xs0)
    (hk:(LG M && ([c1,c2].all (CI.okC 0) && (cZ (i1 :: i2 :: is) && (i1 :: i2 :: is).all fun j=>fD j cf1.w4)))=true)
    (hc:∀{κ:Ctx},HG c κ L' (i1 :: i2 :: is)→∀{b1 b2:Nat×Nat},VS P κ f fo xs0 [b1,b2] (.box 0 c1 :: .box 1 c2 :: M) sv (fun x y=>.box 0 (a1 x y) :: .box 1 (a2 x y) :: Lr x y))
    (k:∀x,∀y:ex,W (G (.mk P T hT n c B0 N X Q) K' m' (dse d (sv x y) e') (IV L' (LF L' (i1 :: i2 :: is)++Lr x y) [(i1,n1,o1,k1),(i2,n2,o2,k2)] [a1 x y,a2 x y]) cf2) q (kf x)) (hn:∀x y,(VY [(i1,n1,o1,k1),(i2,n2,o2,k2)] [a1 x y,a2 x y] && ([a1 x y,a2 x y].all (CI.okC 0) && (LG (Lr x y) && CI 0 (sv x y))))=true:=by exact fun _ _=>rfl):W (G (.mk P T hT n c B0 N X Q) K m e L cf) q (fo.bind kf):=fun hF=>
  cw2 i1 n1 o1 k1 i2 n2 o2 k2 is hs hb hi hx hk hn (fun h _ _ _ hx=>hc h _ hx) hF fun x _ h y=>k x y h
end
theorem aDX{α β:Type}{iR:aI α}{C:G9 α}{sr:β→SV}{g:FuncId}{w:World}{p:α→Option β}(hc:∀args w,(callFunc g args).run P w=.ok (.enter g args) w)(hn:∀{κ:Ctx} {x y},C.sub κ.S0 κ.w0 x y→V0 P κ g (p x) [C.sv x y] sr):VV P (cD w) C sr g [] p:=fu1 hc (by intro κ x y h q hq;exact hn h _ hq)
theorem aFY{α β:Type}{iR:aI α}{C:G9 α}{sr:β→SV}{g:FuncId}{w:World}{Bs:Bl}{cs:List (Nat×List SV)}{p:α→Option β}(hc:∀args w,(callFunc g args).run P w=.ok (.enter g args) w)(hB:∀w1,eY F0 w w1→kZ (cD w1) w1 Bs (roL 0 cs))(hl:aW (eS Bs) (aLP 0 cs)=some (VW Bs))(hn:∀{w1 x y},eY F0 w w1→C.sub (KZ w1) w1 x y→VS P (cD w1) g (p x) (C.sv x y :: aLP 0 cs) Bs (roL 0 cs) (fun r (_:Unit)=>sr r) (fun _ _=>[]))(hz:∀q,CI 0 (sr q)=true:=by exact fun _=>rfl):VV P (cD w) C sr g (VW Bs) p:=fk1 hc hB hl hz (by intro w1 x y h h' q hq;exact hn h h' _ hq)
noncomputable section
variable {α β:Type} {fo:Option α} {kf:α→Option β} {q:β} {d:Nat} {f g:FuncId} {xs:List SV} {sv:α→SV}
theorem aFZ{n1:Nat}{c1:List SV}(is:List Nat)(hs:iZ T n K cf m e L=.callp o (some d) f xs cf1 cf2 K' m' e' L')(hk:kl L' is=[.ro n1 c1])(ho:(aDK [(n1,c1)] && okA xs.dropLast)=true)(hx:xs=xs.dropLast ++ [.f g [n1]])
    (hc:∀{w},HS c w L'→∀{b1:Nat×Nat},(∀w1,eY F0 w w1→kZ (cD w1) w1 [b1] [.ro 0 c1])→V0 P (cD w) f fo (xs.dropLast ++ [.k (.func (.func g) #[] (VW [b1]).toArray)]) sv)
    (k:∀x,W (G (.mk P T hT n c B0 N X Q) K' m' ((d,sv x) :: e') L' cf2) q (kf x)):W (G (.mk P T hT n c B0 N X Q) K m e L cf) q (fo.bind kf):=fun hF=>
  aT2 is hs hk ho hx (fun h _ h2 _ hx=>hc h h2 _ hx) hF fun x _ h=>k x h
end
end
end Go.Gv
end
noncomputable section
set_option linter.unusedVariables false
set_option linter.unusedSimpArgs false
namespace Go.Gv
def pV(y:Nat×Nat):Value:=.pointer (some ⟨y.1,y.2,none⟩)
noncomputable section
variable {P:Program} {T:TT} {hT:CJ P T} {n:Nat} {c:Ctx} {B0:Bl} {N:Act→World→Prop} {X:Nat→Act→World→Prop} {Q:Act→World→Prop} {K K':List Fr} {m m':Nat} {e e':SE} {L L':List Ch} {cf cf1 cf2:tH} {o:Oper}
abbrev VP(P:Program)(c:Ctx)(f:FuncId){ρ:Type}(F:Option ρ)(xs:List SV)(cs:ρ→List SV):Prop:=VS P c f F xs [] [] (fun _ (y:Nat×Nat)=>.k (pV y)) (fun r y=>[.o (K1 [y] 0 (cs r))])
theorem rtP{fn:Func}{ρ:Type}{r r':ρ}{t:Nat}{hr:fn.results=[ResultVar.tmp t].toArray}{zz:Option ρ}{cs:ρ→List SV}(is:List Nat)(hz:zz=some r')(hs:iZ T n K cf m e L=.ret m' e' L')(hL:NQ 0 m' e' L' is 1 [(t,.p 0 0)] [.box 0 (cs r')]=some ([(t,.p 0 0)],[.box 0 (cs r')]))(ho:CI.okC 0 (cs r')=true):W (G (.mk P T hT n c [] N X (QR P fn hr c [] (fun _ (y:Nat×Nat)=>.k (pV y)) (fun r y=>[.o (K1 [y] 0 (cs r))]) r)) K m e L cf) r zz:=fun hF=>by
  subst hz;cases hF
  refine fE (g:=.mk P T hT n c [] N X _) ?_
  rw [hs]
  intro a w hr'
  obtain⟨B,hm,hA,hS⟩:=nN.NQ hr' is hL
  have hB:∃y,B=[y]:=by
    cases B with
    | nil=>simp at hm
    | cons y B => cases B with
      | nil=>exact⟨y,rfl⟩
      | cons z B=>simp at hm
  obtain⟨y,rfl⟩:=hB
  have hS:kZ c w [y] [.box 0 (cs r)]:=hS
  have hA:eU n [y] [(t,.p 0 0)] a:=hA
  have hv:aA8 T [(t,.p 0 0)] [.box 0 (cs r)] [ResultVar.tmp t]=some (.p 0 0):=by simp [aA8,aKX,zL]
  obtain⟨v,h1,h2⟩:=UZ hr hT hA hS hv
  have hv':v=pV y:=by
    simp only [eS,gV,bK,List.getElem?_cons_zero] at h1
    cases h1;rfl
  subst hv'
  refine⟨hA.d,_,h2,y,by simp [eS,gV,bK,pV,Value.oneCell'],?_⟩
  obtain⟨⟨R,s1,s2⟩,s0⟩:=hS
  exact⟨⟨R,s1.imp (.cons (fun F h=>h) .nil),fun x hx=>by rcases List.mem_cons.1 hx with rfl | hx <;> first | trivial | simp at hx⟩,s0⟩
theorem cP{α β:Type}{fo:Option α}{kf:α→Option β}{q:β}{d:Nat}{f:FuncId}{xs:List SV}{cs:α→List SV}(hs:iZ T n K cf m e L=.call o (some d) f xs cf1 cf2 K' m' e' L')
    (hc:∀{w},HS c w L'→VP P (cD w) f fo xs cs) (k:∀x,W (G (.mk P T hT n c B0 N X Q) K' (m'+1) ((d,.p m' 0) :: e') (L' ++ [.box m' (cs x)]) cf2) q (kf x)) (hk:∀x,CI.okC 0 (cs x)=true:=by exact fun _=>rfl):W (G (.mk P T hT n c B0 N X Q) K m e L cf) q (fo.bind kf):=fun hF=>by
  refine fE (g:=.mk P T hT n c B0 N X Q) ?_
  rw [hs]
  intro fo' args ats ho hd hf ⟨ys,hys,hxs⟩ hA0 hdn hE
  subst hxs
  cases hfo:fo with
  | none=>rw [hfo] at hF;cases hF
  | some x =>
    rw [hfo] at hF
    refine hE Unit (fun _=>m'+1) (fun _=>(d,.p m' 0) :: e') (fun _=>L' ++ [.box m' (cs x)]) (fun _=>uY _) (fun B a w next Q' hm hA hS hnext=>?_) (fun _=>k x hF)
    obtain⟨hcall,hrun⟩:=hc ⟨_,hS⟩ x hfo
    obtain⟨vs,h1,h2⟩:=SJ hA hys
    obtain⟨v,h3,h4⟩:=dU hA hf
    simp [eS,aW] at h3
    subst h3
    have h5:=hrun vs (U0 hA0 (by rw [M7];exact h1)) (aIP w)
    have h6:=PL (w:=w) hcall ho h4 h2
    unfold Oper.wp
    rw [h6 _ a hA.env,Oper.upon_enter]
    refine Calls.mono h5 fun en w' ⟨v,hv,y,g1,g2⟩=>?_
    subst hv
    rw [hd]
    have hv':v=pV y:=by simpa [eS,gV,bK,pV,Value.oneCell'] using g1.symm
    subst hv'
    have hb:∀{F:cB},(K1 [y] 0 (cs x)).P w' F→(K1 ((PD (.mk P T hT n c B0 N X Q) cf1++B) ++ [y]) m' (cs x)).P w' F:=fun⟨b,z,us,k1,k2,k3⟩=>by
      simp only [List.getElem?_cons_zero,Option.some.injEq] at k1
      refine⟨y.1,y.2,us,?_,?_,by rw [k1];exact k3⟩
      · rw [List.getElem?_append_right (by omega),hm];simp
      · simpa using eF (fun x v h=>by simpa using eZ (B:=[]) (PD (.mk P T hT n c B0 N X Q) cf1++B ++ [y]) h) (CN (hk x) k2)
    have g3:eS ((PD (.mk P T hT n c B0 N X Q) cf1++B) ++ [y]) (.p m' 0)=some (pV y):=by
      simp only [eS,gV,bK]
      rw [List.getElem?_append_right (by omega),hm]
      simp [pV]
    refine hnext () _ _ ⟨[y],by simp only [List.length_append,List.length_cons,List.length_nil] at hm ⊢;omega,hA.ext g3 (hA.env.put (by simpa [oN,Nat.blt_eq] using hdn) _),?_⟩
    obtain⟨⟨R,s1,s2⟩,s0⟩:=(hS.after (L2:=[.o (K1 [y] 0 (cs x))]) rfl g2).app [y]
    refine⟨⟨R,s1.imp ?_,fun z hz=>?_⟩,s0⟩
    · rw [List.map_append,List.map_append]
      exact hC.append (hC.refl _) (.cons (fun F h=>hb h) .nil)
    · rcases List.mem_append.1 hz with hz | hz
      · exact s2 z (List.mem_append_left _ hz)
      · rcases List.mem_cons.1 hz with rfl | hz <;> first | trivial | simp at hz
def aRG(b:Bool)(off sz:Nat)(cs:List SV):Option SV:=match b with
  | true=>some (.g ((cs.drop off).take sz))
  | false => match cs[off]? with
    | some x => match x with
      | .g _=>none
      | .t _=>none
      | .f _ _=>none
      | .u=>none
      | y=>some y
    | none=>none
theorem aUC{α:Type}{F0:Option α}{q:α}{t ix sz d:Nat}{b:Bool}{k:TK}{z cs:List SV}{Fs:Array Field}{F:Field}{x:Operand}{r:SV}{Lv:List Ch}(hu:P.underlying t=some (.struct Fs))(hf:Fs[ix]?=some F)(hl:wZ T F.type=some ⟨k,b,sz,z⟩)(hs:VM (iZ T n K cf m e L)=some (o,Lv,cf1,cf2,K',m',e',L'))(ho:(o.op,o.dst)=(.field t x ix,some d))(hx:gN e' x=some (.g cs))(hr:aRG b F.offset sz cs=some r)(hz:(!b || Nat.ble (F.offset+sz) cs.length)=true)
    (kk:W (G (.mk P T hT n c B0 N X Q) K' m' ((d,r) :: e') L' cf2) q F0):W (G (.mk P T hT n c B0 N X Q) K m e L cf) q F0:=fun hF=>
  pu hs (congrArg Prod.snd ho) (fun B a w hA _=>by
    obtain⟨v,h1,h2⟩:=dU hA hx
    simp only [eS,gV] at h1
    split at h1
    case h_2=>cases h1
    rename_i vs hv
    cases h1
    have hlen:=jQ hv
    have h0:o.op=.field t x ix:=congrArg Prod.fst ho
    have hag:=hT.agg _ _ hl
    have hsz:=hT.size _ _ hl
    cases b with
    | true =>
      have hz':=Nat.le_of_ble_eq_true (by simpa using hz)
      simp only [aRG] at hr;cases hr
      refine⟨.agg ((vs.drop F.offset).take sz).toArray,by simp only [eS,gV,HL sz (HK F.offset hv)],fun _ a hA=>?_⟩
      have e:vs.toArray.extract F.offset (F.offset+sz)=((vs.drop F.offset).take sz).toArray:=by
        apply Array.ext'
        simp [List.extract_eq_take_drop]
      simp [execOp,h0,hA.eval h2,Instr.field,run_underlying hu,hf,part,asAgg,hag,hsz,e]
    | false =>
      simp only [aRG] at hr
      split at hr
      case h_2=>cases hr
      rename_i y hy
      obtain⟨u,h4,h5⟩:=HJ hv hy
      have hr':r=y:=by cases y <;> simp at hr <;> exact hr.symm
      subst hr'
      refine⟨u,aG9 h4,fun _ a hA=>?_⟩
      simp [execOp,h0,hA.eval h2,Instr.field,run_underlying hu,hf,part,asAgg,hag,h5]) (kk hF)
end
end Go.Gv
end
noncomputable section
namespace Go.Gv
structure aC where
  Bytes:List Int
  Class:List Int
  deriving DecidableEq,Inhabited
instance:aI aC:=aI.via (fun d=>(d.Bytes,d.Class))
instance:Fits aC:=Fits.via (fun d=>(d.Bytes,d.Class))
structure aH where
  aP:List Int
  deriving DecidableEq,Inhabited
instance:aI aH:=aI.via (fun d=>(d.aP))
instance:Fits aH:=Fits.via (fun d=>(d.aP))
theorem aDY{S:cB}{w:World}{cs:List Value}{d:aH}(h:aI.rd S w cs d):∃v0:Value,cs=[v0]∧aI.rd S w [v0] d.aP:=by
  obtain⟨u0,q0⟩:=E6 h
  rw [q0] at h
  exact⟨u0,q0,h⟩
theorem w5(d:aH){v0:Value}:OP [v0] d [eV [v0] d.aP]:=(show OP (α:=(List Int)) _ (d.aP) _ from aFF)
theorem _root_.Go.Gv.St.aL8{c:Ctx}{L:List Chunk}{R:List Fact}{w:World}{s:Value}{l:List aH}{i:Nat}{x:aH}(h:St c w L R)(j:Nat)(hj:R[j]?=some (wY [s] l))(hi:l[i]?=some x):∃v0:Value,bP w (K7 s) (K0 1 i s) [v0]∧St c w L (R ++ [wY [v0] x.aP]):=by
  obtain⟨S,hS,hk⟩:=h.aJ1 hj
  obtain⟨ec,h1,h2⟩:=aC2 hS hi
  obtain⟨v0,q,q0⟩:=aDY h2
  rw [q] at h1
  exact⟨v0,h1,hk _ (by intro f hf;simp only [List.mem_cons,List.not_mem_nil,or_false] at hf;subst hf;exact q0)⟩
structure aB where
  Global:List aH
  aX:List aH
  deriving DecidableEq,Inhabited
instance:aI aB:=aI.via (fun d=>(d.Global,d.aX))
instance:Fits aB:=Fits.via (fun d=>(d.Global,d.aX))
structure Mem where
  aC:aC
  aB:aB
  deriving DecidableEq,Inhabited
instance:aI Mem:=aI.via (fun d=>(d.aC,d.aB))
instance:Fits Mem:=Fits.via (fun d=>(d.aC,d.aB))
structure gR where
  On:Bool
  aG:Int
  cR:Bool
  Seen:Int
  deriving DecidableEq,Inhabited
instance:aI gR:=aI.via (fun d=>(d.On,d.aG,d.cR,d.Seen))
instance:Fits gR:=Fits.via (fun d=>(d.On,d.aG,d.cR,d.Seen))
theorem aRH{S:cB}{w:World}{cs:List Value}{d:gR}(h:aI.rd S w cs d):cs=[.bool (d.On),.int .i64 (d.aG),.bool (d.cR),.int .i64 (d.Seen)]:=by
  obtain⟨c0,r0,e0,h0,n0⟩:=h
  have q0:c0=[_]:=h0
  obtain⟨c1,r1,e1,h1,n1⟩:=n0
  have q1:c1=[_]:=h1
  obtain⟨c2,r2,e2,h2,n2⟩:=n1
  have q2:c2=[_]:=h2
  have q3:r2=[_]:=n2
  exact by rw [e0,e1,e2,q0,q1,q2,q3];rfl
theorem aL9{S:cB}{w:World}(d:gR):aI.rd S w [.bool (d.On),.int .i64 (d.aG),.bool (d.cR),.int .i64 (d.Seen)] d:=⟨[.bool (d.On)],[.int .i64 (d.aG),.bool (d.cR),.int .i64 (d.Seen)],rfl,rfl,⟨[.int .i64 (d.aG)],[.bool (d.cR),.int .i64 (d.Seen)],rfl,rfl,⟨[.bool (d.cR)],[.int .i64 (d.Seen)],rfl,rfl,rfl⟩⟩⟩
instance:Flat gR:=⟨fun h=>Flat.own_of (α:=Bool×Int×Bool×Int) h,fun h=>Flat.no (α:=Bool×Int×Bool×Int) h⟩
theorem aRI(d:gR):OP [.bool (d.On),.int .i64 (d.aG),.bool (d.cR),.int .i64 (d.Seen)] d []:=(show OP (α:=Bool×Int×Bool×Int) _ (d.On,d.aG,d.cR,d.Seen) _ from (iL (c1:=[.bool (d.On)]) (c2:=[.int .i64 (d.aG),.bool (d.cR),.int .i64 (d.Seen)]) (A:=[]) (B:=[]) (fB rfl) (iL (c1:=[.int .i64 (d.aG)]) (c2:=[.bool (d.cR),.int .i64 (d.Seen)]) (A:=[]) (B:=[]) (fB rfl) (iL (c1:=[.bool (d.cR)]) (c2:=[.int .i64 (d.Seen)]) (A:=[]) (B:=[]) (fB rfl) (fB rfl) rfl) rfl) rfl))
structure aD where
  aG:Int
  aQ:List gR
  deriving DecidableEq,Inhabited
instance:aI aD:=aI.via (fun d=>(d.aG,d.aQ))
instance:Fits aD:=Fits.via (fun d=>(d.aG,d.aQ))
structure cT where
  Handle:Int
  aG:Int
  deriving DecidableEq,Inhabited
instance:aI cT:=aI.via (fun d=>(d.Handle,d.aG))
instance:Fits cT:=Fits.via (fun d=>(d.Handle,d.aG))
theorem aH3{S:cB}{w:World}{cs:List Value}{d:cT}(h:aI.rd S w cs d):cs=[.int .i64 (d.Handle),.int .i64 (d.aG)]:=by
  obtain⟨c0,r0,e0,h0,n0⟩:=h
  have q0:c0=[_]:=h0
  have q1:r0=[_]:=n0
  exact by rw [e0,q0,q1];rfl
theorem aOY{S:cB}{w:World}(d:cT):aI.rd S w [.int .i64 (d.Handle),.int .i64 (d.aG)] d:=⟨[.int .i64 (d.Handle)],[.int .i64 (d.aG)],rfl,rfl,rfl⟩
instance:Flat cT:=⟨fun h=>Flat.own_of (α:=Int×Int) h,fun h=>Flat.no (α:=Int×Int) h⟩
theorem aOZ(d:cT):OP [.int .i64 (d.Handle),.int .i64 (d.aG)] d []:=(show OP (α:=Int×Int) _ (d.Handle,d.aG) _ from (iL (c1:=[.int .i64 (d.Handle)]) (c2:=[.int .i64 (d.aG)]) (A:=[]) (B:=[]) (fB rfl) (fB rfl) rfl))
theorem aO0{S:cB}{w:World}{s:Value}{l:List cT}{i:Nat}{x:cT}(h:aI.rd S w [s] l)(hi:l[i]?=some x):bP w (K7 s) (K0 2 i s) [.int .i64 (x.Handle),.int .i64 (x.aG)]:=by
  obtain⟨ec,h1,h2⟩:=aC2 h hi
  rw [aH3 h2] at h1;exact h1
structure aR where
  Rows:List cT
  deriving DecidableEq,Inhabited
instance:aI aR:=aI.via (fun d=>(d.Rows))
instance:Fits aR:=Fits.via (fun d=>(d.Rows))
theorem aDZ{S:cB}{w:World}{cs:List Value}{d:aR}(h:aI.rd S w cs d):∃v0:Value,cs=[v0]∧aI.rd S w [v0] d.Rows:=by
  obtain⟨u0,q0⟩:=E6 h
  rw [q0] at h
  exact⟨u0,q0,h⟩
theorem V4(d:aR){v0:Value}:OP [v0] d [eV [v0] d.Rows]:=(show OP (α:=(List cT)) _ (d.Rows) _ from aFF)
theorem _root_.Go.Gv.St.aD0{c:Ctx}{L:List Chunk}{R:List Fact}{w:World}{s:Value}{l:List aR}{i:Nat}{x:aR}(h:St c w L R)(j:Nat)(hj:R[j]?=some (wY [s] l))(hi:l[i]?=some x):∃v0:Value,bP w (K7 s) (K0 1 i s) [v0]∧St c w L (R ++ [wY [v0] x.Rows]):=by
  obtain⟨S,hS,hk⟩:=h.aJ1 hj
  obtain⟨ec,h1,h2⟩:=aC2 hS hi
  obtain⟨v0,q,q0⟩:=aDZ h2
  rw [q] at h1
  exact⟨v0,h1,hk _ (by intro f hf;simp only [List.mem_cons,List.not_mem_nil,or_false] at hf;subst hf;exact q0)⟩
structure aA where
  Mem:Mem
  aD:aD
  aJ:List aR
  dI:List Int
  deriving DecidableEq,Inhabited
instance:aI aA:=aI.via (fun d=>(d.Mem,d.aD,d.aJ,d.dI))
instance:Fits aA:=Fits.via (fun d=>(d.Mem,d.aD,d.aJ,d.dI))
structure dN where
  Kind:Int
  Cell:Int
  fT:Int
  fG:Int
  deriving DecidableEq,Inhabited
instance:aI dN:=aI.via (fun d=>(d.Kind,d.Cell,d.fT,d.fG))
instance:Fits dN:=Fits.via (fun d=>(d.Kind,d.Cell,d.fT,d.fG))
theorem aMA{S:cB}{w:World}{cs:List Value}{d:dN}(h:aI.rd S w cs d):cs=[.int .i64 (d.Kind),.int .i64 (d.Cell),.int .i64 (d.fT),.int .i64 (d.fG)]:=by
  obtain⟨c0,r0,e0,h0,n0⟩:=h
  have q0:c0=[_]:=h0
  obtain⟨c1,r1,e1,h1,n1⟩:=n0
  have q1:c1=[_]:=h1
  obtain⟨c2,r2,e2,h2,n2⟩:=n1
  have q2:c2=[_]:=h2
  have q3:r2=[_]:=n2
  exact by rw [e0,e1,e2,q0,q1,q2,q3];rfl
theorem aF0{S:cB}{w:World}(d:dN):aI.rd S w [.int .i64 (d.Kind),.int .i64 (d.Cell),.int .i64 (d.fT),.int .i64 (d.fG)] d:=⟨[.int .i64 (d.Kind)],[.int .i64 (d.Cell),.int .i64 (d.fT),.int .i64 (d.fG)],rfl,rfl,⟨[.int .i64 (d.Cell)],[.int .i64 (d.fT),.int .i64 (d.fG)],rfl,rfl,⟨[.int .i64 (d.fT)],[.int .i64 (d.fG)],rfl,rfl,rfl⟩⟩⟩
instance:Flat dN:=⟨fun h=>Flat.own_of (α:=Int×Int×Int×Int) h,fun h=>Flat.no (α:=Int×Int×Int×Int) h⟩
theorem aRJ(d:dN):OP [.int .i64 (d.Kind),.int .i64 (d.Cell),.int .i64 (d.fT),.int .i64 (d.fG)] d []:=(show OP (α:=Int×Int×Int×Int) _ (d.Kind,d.Cell,d.fT,d.fG) _ from (iL (c1:=[.int .i64 (d.Kind)]) (c2:=[.int .i64 (d.Cell),.int .i64 (d.fT),.int .i64 (d.fG)]) (A:=[]) (B:=[]) (fB rfl) (iL (c1:=[.int .i64 (d.Cell)]) (c2:=[.int .i64 (d.fT),.int .i64 (d.fG)]) (A:=[]) (B:=[]) (fB rfl) (iL (c1:=[.int .i64 (d.fT)]) (c2:=[.int .i64 (d.fG)]) (A:=[]) (B:=[]) (fB rfl) (fB rfl) rfl) rfl) rfl))
structure Sub where
  Kind:Int
  A:Int
  Pc:Int
  E:Int
  Row:Int
  B:Int
  H:Int
  Out:Int
  Code:Int
  dB:Bool
  deriving DecidableEq,Inhabited
instance:aI Sub:=aI.via (fun d=>(d.Kind,d.A,d.Pc,d.E,d.Row,d.B,d.H,d.Out,d.Code,d.dB))
instance:Fits Sub:=Fits.via (fun d=>(d.Kind,d.A,d.Pc,d.E,d.Row,d.B,d.H,d.Out,d.Code,d.dB))
theorem aRK{S:cB}{w:World}{cs:List Value}{d:Sub}(h:aI.rd S w cs d):cs=[.int .i64 (d.Kind),.int .i64 (d.A),.int .i64 (d.Pc),.int .i64 (d.E),.int .i64 (d.Row),.int .i64 (d.B),.int .i64 (d.H),.int .i64 (d.Out),.int .i64 (d.Code),.bool (d.dB)]:=by
  obtain⟨c0,r0,e0,h0,n0⟩:=h
  have q0:c0=[_]:=h0
  obtain⟨c1,r1,e1,h1,n1⟩:=n0
  have q1:c1=[_]:=h1
  obtain⟨c2,r2,e2,h2,n2⟩:=n1
  have q2:c2=[_]:=h2
  obtain⟨c3,r3,e3,h3,n3⟩:=n2
  have q3:c3=[_]:=h3
  obtain⟨c4,r4,e4,h4,n4⟩:=n3
  have q4:c4=[_]:=h4
  obtain⟨c5,r5,e5,h5,n5⟩:=n4
  have q5:c5=[_]:=h5
  obtain⟨c6,r6,e6,h6,n6⟩:=n5
  have q6:c6=[_]:=h6
  obtain⟨c7,r7,e7,h7,n7⟩:=n6
  have q7:c7=[_]:=h7
  obtain⟨c8,r8,e8,h8,n8⟩:=n7
  have q8:c8=[_]:=h8
  have q9:r8=[_]:=n8
  exact by rw [e0,e1,e2,e3,e4,e5,e6,e7,e8,q0,q1,q2,q3,q4,q5,q6,q7,q8,q9];rfl
theorem aMB{S:cB}{w:World}(d:Sub):aI.rd S w [.int .i64 (d.Kind),.int .i64 (d.A),.int .i64 (d.Pc),.int .i64 (d.E),.int .i64 (d.Row),.int .i64 (d.B),.int .i64 (d.H),.int .i64 (d.Out),.int .i64 (d.Code),.bool (d.dB)] d:=⟨[.int .i64 (d.Kind)],[.int .i64 (d.A),.int .i64 (d.Pc),.int .i64 (d.E),.int .i64 (d.Row),.int .i64 (d.B),.int .i64 (d.H),.int .i64 (d.Out),.int .i64 (d.Code),.bool (d.dB)],rfl,rfl,⟨[.int .i64 (d.A)],[.int .i64 (d.Pc),.int .i64 (d.E),.int .i64 (d.Row),.int .i64 (d.B),.int .i64 (d.H),.int .i64 (d.Out),.int .i64 (d.Code),.bool (d.dB)],rfl,rfl,⟨[.int .i64 (d.Pc)],[.int .i64 (d.E),.int .i64 (d.Row),.int .i64 (d.B),.int .i64 (d.H),.int .i64 (d.Out),.int .i64 (d.Code),.bool (d.dB)],rfl,rfl,⟨[.int .i64 (d.E)],[.int .i64 (d.Row),.int .i64 (d.B),.int .i64 (d.H),.int .i64 (d.Out),.int .i64 (d.Code),.bool (d.dB)],rfl,rfl,⟨[.int .i64 (d.Row)],[.int .i64 (d.B),.int .i64 (d.H),.int .i64 (d.Out),.int .i64 (d.Code),.bool (d.dB)],rfl,rfl,⟨[.int .i64 (d.B)],[.int .i64 (d.H),.int .i64 (d.Out),.int .i64 (d.Code),.bool (d.dB)],rfl,rfl,⟨[.int .i64 (d.H)],[.int .i64 (d.Out),.int .i64 (d.Code),.bool (d.dB)],rfl,rfl,⟨[.int .i64 (d.Out)],[.int .i64 (d.Code),.bool (d.dB)],rfl,rfl,⟨[.int .i64 (d.Code)],[.bool (d.dB)],rfl,rfl,rfl⟩⟩⟩⟩⟩⟩⟩⟩⟩
instance:Flat Sub:=⟨fun h=>Flat.own_of (α:=Int×Int×Int×Int×Int×Int×Int×Int×Int×Bool) h,fun h=>Flat.no (α:=Int×Int×Int×Int×Int×Int×Int×Int×Int×Bool) h⟩
structure bJ where
  kU:Bool
  Op:dN
  aN:Int
  Pc:Int
  Sub:Sub
  H:Int
  Old:Int
  fG:Int
  Code:Int
  deriving DecidableEq,Inhabited
instance:aI bJ:=aI.via (fun d=>(d.kU,d.Op,d.aN,d.Pc,d.Sub,d.H,d.Old,d.fG,d.Code))
instance:Fits bJ:=Fits.via (fun d=>(d.kU,d.Op,d.aN,d.Pc,d.Sub,d.H,d.Old,d.fG,d.Code))
theorem aRL{S:cB}{w:World}{cs:List Value}{d:bJ}(h:aI.rd S w cs d):cs=[.bool (d.kU),.int .i64 (d.Op.Kind),.int .i64 (d.Op.Cell),.int .i64 (d.Op.fT),.int .i64 (d.Op.fG),.int .i64 (d.aN),.int .i64 (d.Pc),.int .i64 (d.Sub.Kind),.int .i64 (d.Sub.A),.int .i64 (d.Sub.Pc),.int .i64 (d.Sub.E),.int .i64 (d.Sub.Row),.int .i64 (d.Sub.B),.int .i64 (d.Sub.H),.int .i64 (d.Sub.Out),.int .i64 (d.Sub.Code),.bool (d.Sub.dB),.int .i64 (d.H),.int .i64 (d.Old),.int .i64 (d.fG),.int .i64 (d.Code)]:=by
  obtain⟨c0,r0,e0,h0,n0⟩:=h
  have q0:c0=[_]:=h0
  obtain⟨c1,r1,e1,h1,n1⟩:=n0
  have q1:=aMA h1
  obtain⟨c2,r2,e2,h2,n2⟩:=n1
  have q2:c2=[_]:=h2
  obtain⟨c3,r3,e3,h3,n3⟩:=n2
  have q3:c3=[_]:=h3
  obtain⟨c4,r4,e4,h4,n4⟩:=n3
  have q4:=aRK h4
  obtain⟨c5,r5,e5,h5,n5⟩:=n4
  have q5:c5=[_]:=h5
  obtain⟨c6,r6,e6,h6,n6⟩:=n5
  have q6:c6=[_]:=h6
  obtain⟨c7,r7,e7,h7,n7⟩:=n6
  have q7:c7=[_]:=h7
  have q8:r7=[_]:=n7
  exact by rw [e0,e1,e2,e3,e4,e5,e6,e7,q0,q1,q2,q3,q4,q5,q6,q7,q8];rfl
theorem pR{S:cB}{w:World}(d:bJ):aI.rd S w [.bool (d.kU),.int .i64 (d.Op.Kind),.int .i64 (d.Op.Cell),.int .i64 (d.Op.fT),.int .i64 (d.Op.fG),.int .i64 (d.aN),.int .i64 (d.Pc),.int .i64 (d.Sub.Kind),.int .i64 (d.Sub.A),.int .i64 (d.Sub.Pc),.int .i64 (d.Sub.E),.int .i64 (d.Sub.Row),.int .i64 (d.Sub.B),.int .i64 (d.Sub.H),.int .i64 (d.Sub.Out),.int .i64 (d.Sub.Code),.bool (d.Sub.dB),.int .i64 (d.H),.int .i64 (d.Old),.int .i64 (d.fG),.int .i64 (d.Code)] d:=⟨[.bool (d.kU)],[.int .i64 (d.Op.Kind),.int .i64 (d.Op.Cell),.int .i64 (d.Op.fT),.int .i64 (d.Op.fG),.int .i64 (d.aN),.int .i64 (d.Pc),.int .i64 (d.Sub.Kind),.int .i64 (d.Sub.A),.int .i64 (d.Sub.Pc),.int .i64 (d.Sub.E),.int .i64 (d.Sub.Row),.int .i64 (d.Sub.B),.int .i64 (d.Sub.H),.int .i64 (d.Sub.Out),.int .i64 (d.Sub.Code),.bool (d.Sub.dB),.int .i64 (d.H),.int .i64 (d.Old),.int .i64 (d.fG),.int .i64 (d.Code)],rfl,rfl,⟨[.int .i64 (d.Op.Kind),.int .i64 (d.Op.Cell),.int .i64 (d.Op.fT),.int .i64 (d.Op.fG)],[.int .i64 (d.aN),.int .i64 (d.Pc),.int .i64 (d.Sub.Kind),.int .i64 (d.Sub.A),.int .i64 (d.Sub.Pc),.int .i64 (d.Sub.E),.int .i64 (d.Sub.Row),.int .i64 (d.Sub.B),.int .i64 (d.Sub.H),.int .i64 (d.Sub.Out),.int .i64 (d.Sub.Code),.bool (d.Sub.dB),.int .i64 (d.H),.int .i64 (d.Old),.int .i64 (d.fG),.int .i64 (d.Code)],rfl,(aF0 _),⟨[.int .i64 (d.aN)],[.int .i64 (d.Pc),.int .i64 (d.Sub.Kind),.int .i64 (d.Sub.A),.int .i64 (d.Sub.Pc),.int .i64 (d.Sub.E),.int .i64 (d.Sub.Row),.int .i64 (d.Sub.B),.int .i64 (d.Sub.H),.int .i64 (d.Sub.Out),.int .i64 (d.Sub.Code),.bool (d.Sub.dB),.int .i64 (d.H),.int .i64 (d.Old),.int .i64 (d.fG),.int .i64 (d.Code)],rfl,rfl,⟨[.int .i64 (d.Pc)],[.int .i64 (d.Sub.Kind),.int .i64 (d.Sub.A),.int .i64 (d.Sub.Pc),.int .i64 (d.Sub.E),.int .i64 (d.Sub.Row),.int .i64 (d.Sub.B),.int .i64 (d.Sub.H),.int .i64 (d.Sub.Out),.int .i64 (d.Sub.Code),.bool (d.Sub.dB),.int .i64 (d.H),.int .i64 (d.Old),.int .i64 (d.fG),.int .i64 (d.Code)],rfl,rfl,⟨[.int .i64 (d.Sub.Kind),.int .i64 (d.Sub.A),.int .i64 (d.Sub.Pc),.int .i64 (d.Sub.E),.int .i64 (d.Sub.Row),.int .i64 (d.Sub.B),.int .i64 (d.Sub.H),.int .i64 (d.Sub.Out),.int .i64 (d.Sub.Code),.bool (d.Sub.dB)],[.int .i64 (d.H),.int .i64 (d.Old),.int .i64 (d.fG),.int .i64 (d.Code)],rfl,(aMB _),⟨[.int .i64 (d.H)],[.int .i64 (d.Old),.int .i64 (d.fG),.int .i64 (d.Code)],rfl,rfl,⟨[.int .i64 (d.Old)],[.int .i64 (d.fG),.int .i64 (d.Code)],rfl,rfl,⟨[.int .i64 (d.fG)],[.int .i64 (d.Code)],rfl,rfl,rfl⟩⟩⟩⟩⟩⟩⟩⟩
instance:Flat bJ:=⟨fun h=>Flat.own_of (α:=Bool×dN×Int×Int×Sub×Int×Int×Int×Int) h,fun h=>Flat.no (α:=Bool×dN×Int×Int×Sub×Int×Int×Int×Int) h⟩
theorem aRM(d:bJ):OP [.bool (d.kU),.int .i64 (d.Op.Kind),.int .i64 (d.Op.Cell),.int .i64 (d.Op.fT),.int .i64 (d.Op.fG),.int .i64 (d.aN),.int .i64 (d.Pc),.int .i64 (d.Sub.Kind),.int .i64 (d.Sub.A),.int .i64 (d.Sub.Pc),.int .i64 (d.Sub.E),.int .i64 (d.Sub.Row),.int .i64 (d.Sub.B),.int .i64 (d.Sub.H),.int .i64 (d.Sub.Out),.int .i64 (d.Sub.Code),.bool (d.Sub.dB),.int .i64 (d.H),.int .i64 (d.Old),.int .i64 (d.fG),.int .i64 (d.Code)] d []:=(show OP (α:=Bool×dN×Int×Int×Sub×Int×Int×Int×Int) _ (d.kU,d.Op,d.aN,d.Pc,d.Sub,d.H,d.Old,d.fG,d.Code) _ from (iL (c1:=[.bool (d.kU)]) (c2:=[.int .i64 (d.Op.Kind),.int .i64 (d.Op.Cell),.int .i64 (d.Op.fT),.int .i64 (d.Op.fG),.int .i64 (d.aN),.int .i64 (d.Pc),.int .i64 (d.Sub.Kind),.int .i64 (d.Sub.A),.int .i64 (d.Sub.Pc),.int .i64 (d.Sub.E),.int .i64 (d.Sub.Row),.int .i64 (d.Sub.B),.int .i64 (d.Sub.H),.int .i64 (d.Sub.Out),.int .i64 (d.Sub.Code),.bool (d.Sub.dB),.int .i64 (d.H),.int .i64 (d.Old),.int .i64 (d.fG),.int .i64 (d.Code)]) (A:=[]) (B:=[]) (fB rfl) (iL (c1:=[.int .i64 (d.Op.Kind),.int .i64 (d.Op.Cell),.int .i64 (d.Op.fT),.int .i64 (d.Op.fG)]) (c2:=[.int .i64 (d.aN),.int .i64 (d.Pc),.int .i64 (d.Sub.Kind),.int .i64 (d.Sub.A),.int .i64 (d.Sub.Pc),.int .i64 (d.Sub.E),.int .i64 (d.Sub.Row),.int .i64 (d.Sub.B),.int .i64 (d.Sub.H),.int .i64 (d.Sub.Out),.int .i64 (d.Sub.Code),.bool (d.Sub.dB),.int .i64 (d.H),.int .i64 (d.Old),.int .i64 (d.fG),.int .i64 (d.Code)]) (A:=[]) (B:=[]) (fB (aF0 _)) (iL (c1:=[.int .i64 (d.aN)]) (c2:=[.int .i64 (d.Pc),.int .i64 (d.Sub.Kind),.int .i64 (d.Sub.A),.int .i64 (d.Sub.Pc),.int .i64 (d.Sub.E),.int .i64 (d.Sub.Row),.int .i64 (d.Sub.B),.int .i64 (d.Sub.H),.int .i64 (d.Sub.Out),.int .i64 (d.Sub.Code),.bool (d.Sub.dB),.int .i64 (d.H),.int .i64 (d.Old),.int .i64 (d.fG),.int .i64 (d.Code)]) (A:=[]) (B:=[]) (fB rfl) (iL (c1:=[.int .i64 (d.Pc)]) (c2:=[.int .i64 (d.Sub.Kind),.int .i64 (d.Sub.A),.int .i64 (d.Sub.Pc),.int .i64 (d.Sub.E),.int .i64 (d.Sub.Row),.int .i64 (d.Sub.B),.int .i64 (d.Sub.H),.int .i64 (d.Sub.Out),.int .i64 (d.Sub.Code),.bool (d.Sub.dB),.int .i64 (d.H),.int .i64 (d.Old),.int .i64 (d.fG),.int .i64 (d.Code)]) (A:=[]) (B:=[]) (fB rfl) (iL (c1:=[.int .i64 (d.Sub.Kind),.int .i64 (d.Sub.A),.int .i64 (d.Sub.Pc),.int .i64 (d.Sub.E),.int .i64 (d.Sub.Row),.int .i64 (d.Sub.B),.int .i64 (d.Sub.H),.int .i64 (d.Sub.Out),.int .i64 (d.Sub.Code),.bool (d.Sub.dB)]) (c2:=[.int .i64 (d.H),.int .i64 (d.Old),.int .i64 (d.fG),.int .i64 (d.Code)]) (A:=[]) (B:=[]) (fB (aMB _)) (iL (c1:=[.int .i64 (d.H)]) (c2:=[.int .i64 (d.Old),.int .i64 (d.fG),.int .i64 (d.Code)]) (A:=[]) (B:=[]) (fB rfl) (iL (c1:=[.int .i64 (d.Old)]) (c2:=[.int .i64 (d.fG),.int .i64 (d.Code)]) (A:=[]) (B:=[]) (fB rfl) (iL (c1:=[.int .i64 (d.fG)]) (c2:=[.int .i64 (d.Code)]) (A:=[]) (B:=[]) (fB rfl) (fB rfl) rfl) rfl) rfl) rfl) rfl) rfl) rfl) rfl))
structure Queue where
  gO:List dN
  deriving DecidableEq,Inhabited
instance:aI Queue:=aI.via (fun d=>(d.gO))
instance:Fits Queue:=Fits.via (fun d=>(d.gO))
theorem aMC{S:cB}{w:World}{cs:List Value}{d:Queue}(h:aI.rd S w cs d):∃v0:Value,cs=[v0]∧aI.rd S w [v0] d.gO:=by
  obtain⟨u0,q0⟩:=E6 h
  rw [q0] at h
  exact⟨u0,q0,h⟩
theorem aMD(d:Queue){v0:Value}:OP [v0] d [eV [v0] d.gO]:=(show OP (α:=(List dN)) _ (d.gO) _ from aFF)
structure Ev where
  Kind:Int
  Who:Int
  aN:Int
  Cell:Int
  Handle:Int
  fG:Int
  Code:Int
  deriving DecidableEq,Inhabited
instance:aI Ev:=aI.via (fun d=>(d.Kind,d.Who,d.aN,d.Cell,d.Handle,d.fG,d.Code))
instance:Fits Ev:=Fits.via (fun d=>(d.Kind,d.Who,d.aN,d.Cell,d.Handle,d.fG,d.Code))
theorem aS6{S:cB}{w:World}{cs:List Value}{d:Ev}(h:aI.rd S w cs d):cs=[.int .i64 (d.Kind),.int .i64 (d.Who),.int .i64 (d.aN),.int .i64 (d.Cell),.int .i64 (d.Handle),.int .i64 (d.fG),.int .i64 (d.Code)]:=by
  obtain⟨c0,r0,e0,h0,n0⟩:=h
  have q0:c0=[_]:=h0
  obtain⟨c1,r1,e1,h1,n1⟩:=n0
  have q1:c1=[_]:=h1
  obtain⟨c2,r2,e2,h2,n2⟩:=n1
  have q2:c2=[_]:=h2
  obtain⟨c3,r3,e3,h3,n3⟩:=n2
  have q3:c3=[_]:=h3
  obtain⟨c4,r4,e4,h4,n4⟩:=n3
  have q4:c4=[_]:=h4
  obtain⟨c5,r5,e5,h5,n5⟩:=n4
  have q5:c5=[_]:=h5
  have q6:r5=[_]:=n5
  exact by rw [e0,e1,e2,e3,e4,e5,q0,q1,q2,q3,q4,q5,q6];rfl
instance:Flat Ev:=⟨fun h=>Flat.own_of (α:=Int×Int×Int×Int×Int×Int×Int) h,fun h=>Flat.no (α:=Int×Int×Int×Int×Int×Int×Int) h⟩
theorem aS7(d:Ev):OP [.int .i64 (d.Kind),.int .i64 (d.Who),.int .i64 (d.aN),.int .i64 (d.Cell),.int .i64 (d.Handle),.int .i64 (d.fG),.int .i64 (d.Code)] d []:=(show OP (α:=Int×Int×Int×Int×Int×Int×Int) _ (d.Kind,d.Who,d.aN,d.Cell,d.Handle,d.fG,d.Code) _ from (iL (c1:=[.int .i64 (d.Kind)]) (c2:=[.int .i64 (d.Who),.int .i64 (d.aN),.int .i64 (d.Cell),.int .i64 (d.Handle),.int .i64 (d.fG),.int .i64 (d.Code)]) (A:=[]) (B:=[]) (fB rfl) (iL (c1:=[.int .i64 (d.Who)]) (c2:=[.int .i64 (d.aN),.int .i64 (d.Cell),.int .i64 (d.Handle),.int .i64 (d.fG),.int .i64 (d.Code)]) (A:=[]) (B:=[]) (fB rfl) (iL (c1:=[.int .i64 (d.aN)]) (c2:=[.int .i64 (d.Cell),.int .i64 (d.Handle),.int .i64 (d.fG),.int .i64 (d.Code)]) (A:=[]) (B:=[]) (fB rfl) (iL (c1:=[.int .i64 (d.Cell)]) (c2:=[.int .i64 (d.Handle),.int .i64 (d.fG),.int .i64 (d.Code)]) (A:=[]) (B:=[]) (fB rfl) (iL (c1:=[.int .i64 (d.Handle)]) (c2:=[.int .i64 (d.fG),.int .i64 (d.Code)]) (A:=[]) (B:=[]) (fB rfl) (iL (c1:=[.int .i64 (d.fG)]) (c2:=[.int .i64 (d.Code)]) (A:=[]) (B:=[]) (fB rfl) (fB rfl) rfl) rfl) rfl) rfl) rfl) rfl))
structure aE where
  aA:aA
  Cells:List Int
  aM:List bJ
  bL:List Queue
  Log:List Ev
  aN:Int
  deriving DecidableEq,Inhabited
instance:aI aE:=aI.via (fun d=>(d.aA,d.Cells,d.aM,d.bL,d.Log,d.aN))
instance:Fits aE:=Fits.via (fun d=>(d.aA,d.Cells,d.aM,d.bL,d.Log,d.aN))
structure Span where
  aME:Int
  To:Int
  deriving DecidableEq,Inhabited
instance:aI Span:=aI.via (fun d=>(d.aME,d.To))
instance:Fits Span:=Fits.via (fun d=>(d.aME,d.To))
instance:Flat Span:=⟨fun h=>Flat.own_of (α:=Int×Int) h,fun h=>Flat.no (α:=Int×Int) h⟩
structure dD where
  b:List UInt8
  i:Int
  h:Int
  deriving DecidableEq,Inhabited
instance:aI dD:=aI.via (fun d=>(d.b,d.i,d.h))
instance:Fits dD:=Fits.via (fun d=>(d.b,d.i,d.h))
structure BY where
  bL:List Queue
  p8:List Int
  deriving DecidableEq,Inhabited
instance:aI BY:=aI.via (fun d=>(d.bL,d.p8))
instance:Fits BY:=Fits.via (fun d=>(d.bL,d.p8))
end Go.Gv
end
noncomputable section
set_option linter.unusedVariables false
namespace Go.Gv
noncomputable section
def CQ(x1:Bool):Option Bool:=
  some x1
def bI(x low high:Int):Option Bool:=
  (if decide (low≤x) then CQ (decide (x≤high)) else CQ false)
def J1:Option Bool:=
  some true
def jG(x3:Int)(x5:Bool):Option (Step Int (Out Unit Bool)):=
  (if x5 then some (.stop (Out.ret false)) else some (.next (aZ (x3+1))))
def oP(c:aD):Int→Option (Step Int (Out Unit Bool))
  | x3=>(if decide (x3 < 3) then (idx c.aQ x3).bind fun x4=>(if !x4.On then (if !(decide (x4=(⟨false,0,false,0⟩:gR))) then jG x3 true else (bI x4.aG 0 c.aG).bind fun x6=>(if !x6 then jG x3 true else (bI x4.Seen 0 2).bind fun x7=>jG x3 (!x7))) else (bI x4.aG 0 c.aG).bind fun x8=>(if !x8 then jG x3 true else (bI x4.Seen 0 2).bind fun x9=>jG x3 (!x9))) else some (.stop (Out.brk ())))
def BZ:(Out Unit Bool)→Option Bool
  | .brk ()=>J1
  | .ret r=>some r
def lE(c:aD)(x1:Bool):Option Bool:=
  (if x1 then some false else (loop (oP c) 0).bind (BZ))
def jU(c:aD):Option Bool:=
  (bI c.aG 0 100000).bind fun x10=>(if !x10 then lE c true else lE c ((c.aQ.length:Int) != 3))
def J2(b:List Int):Option Bool:=
  some (decide ((b.length:Int)≤1000))
def lF(b:List Int):Int→Option (Step Int (Out Unit Bool))
  | x2=>(if decide (x2 < (b.length:Int)) then (idx b x2).bind fun x3=>(bI x3 0 255).bind fun x4=>(if !x4 then some (.stop (Out.ret false)) else some (.next (aZ (x2+1)))) else some (.stop (Out.brk ())))
def B4(b:List Int):(Out Unit Bool)→Option Bool
  | .brk ()=>J2 b
  | .ret r=>some r
def CR(b:List Int):Option Bool:=
  (loop (lF b) 0).bind (B4 b)
def SW:Option Bool:=
  some true
def lG(h:aC):Int→Option (Step Int (Out Unit Bool))
  | x3=>(if decide (x3 < 6) then (idx h.Class x3).bind fun x4=>(bI x4 (-1) 2).bind fun x5=>(if !x5 then some (.stop (Out.ret false)) else some (.next (aZ (x3+1)))) else some (.stop (Out.brk ())))
def SX:(Out Unit Bool)→Option Bool
  | .brk ()=>SW
  | .ret r=>some r
def oQ(h:aC)(x1:Bool):Option Bool:=
  (if x1 then some false else (loop (lG h) 0).bind (SX))
def CS(h:aC):Option Bool:=
  (if (h.Bytes.length:Int) != 384 then oQ h true else (if (h.Class.length:Int) != 6 then oQ h true else (CR h.Bytes).bind fun x6=>oQ h (!x6)))
def V5(x5:Int):Option Int:=
  some x5
def qG(b:List Int)(at_ width:Int):(Int×Int)→Option (Step (Int×Int) Int)
  | (x3,x4)=>(if decide (x4 < width) then (idx b (aZ (at_+x4))).bind fun x6=>some (.next (aZ ((aZ (x3 * 256))+x6),aZ (x4+1))) else some (.stop (x3)))
def V6:Int→Option Int
  | x5=>V5 x5
def qH(b:List Int)(at_ width:Int):Option Int:=
  (loop (qG b at_ width) (0,0)).bind (V6)
def lV(c:Int):Option Int:=
  (if c == 0 then some 8 else (if c == 1 then some 16 else (if c == 2 then some 40 else some 0)))
def tO(c:Int):Option Int:=
  (bI c 0 2).bind fun x1=>(if !x1 then some 0 else (lV c).bind fun x2=>some (aZ (4+x2)))
def jV(c:Int):Option Int:=
  (bI c 0 2).bind fun x1=>(if !x1 then some 0 else (tO c).bind fun x2=>need (x2≠0) (some (aZ (Int.tdiv 56 x2))))
def wP(slot:Int):Option Int:=
  (bI slot 0 23).bind fun x1=>(if !x1 then some (-1) else some (aZ (Int.tdiv slot 4)))
def rX(slot:Int):Option Int:=
  (bI slot 0 23).bind fun x1=>(if !x1 then some (-1) else some (Int.tmod slot 4))
def AA(slot c:Int)(x1:Bool):Option Int:=
  (if x1 then some (-1) else (wP slot).bind fun x2=>(rX slot).bind fun x3=>(tO c).bind fun x4=>some (aZ ((aZ ((aZ (x2 * 64))+8))+(aZ (x3 * x4)))))
def qI(slot c:Int):Option Int:=
  (wP slot).bind fun x5=>(if decide (x5 < 0) then AA slot c true else (rX slot).bind fun x6=>(jV c).bind fun x7=>(bI x6 0 (aZ (x7 - 1))).bind fun x8=>AA slot c (!x8))
def qJ(page index:Int)(x1:Bool):Option Int:=
  (if x1 then some (-1) else some (aZ ((aZ (page * 4))+index)))
def nQ(page index:Int):Option Int:=
  (bI page 0 5).bind fun x2=>(if !x2 then qJ page index true else (bI index 0 3).bind fun x3=>qJ page index (!x3))
def V7:Option Bool:=
  some true
def mU(h:aC)(p:Int):Int→Option (Step Int (Out Unit Bool))
  | x3=>(if decide (x3 < (aZ ((aZ (p * 64))+64))) then (idx h.Bytes x3).bind fun x4=>(if x4 != 0 then some (.stop (Out.ret false)) else some (.next (aZ (x3+1)))) else some (.stop (Out.brk ())))
def V8:(Out Unit Bool)→Option Bool
  | .brk ()=>V7
  | .ret r=>some r
def V9:Option Bool:=
  some true
def mV(h:aC)(p x1:Int):Int→Option (Step Int (Out Unit Bool))
  | x9=>(jV x1).bind fun x10=>(if decide (x9 < x10) then (nQ p x9).bind fun x11=>(qI x11 x1).bind fun x12=>(qH h.Bytes x12 4).bind fun x13=>(bI x13 1 7).bind fun x14=>(if !x14 then some (.stop (Out.ret false)) else some (.next (aZ (x9+1)))) else some (.stop (Out.brk ())))
def WA:(Out Unit Bool)→Option Bool
  | .brk ()=>V9
  | .ret r=>some r
def LH(h:aC)(p x1:Int):Option Bool:=
  (loop (mV h p x1) 0).bind (WA)
def mW(h:aC)(p:Int):Int→Option (Step Int (Out Unit Bool))
  | x7=>(if decide (x7 < (aZ ((aZ (p * 64))+8))) then (idx h.Bytes x7).bind fun x15=>(if x15 != 0 then some (.stop (Out.ret false)) else some (.next (aZ (x7+1)))) else some (.stop (Out.brk ())))
def LI(h:aC)(p x1:Int):(Out Unit Bool)→Option Bool
  | .brk ()=>LH h p x1
  | .ret r=>some r
def iT(h:aC)(p x1:Int)(x5:Bool):Option Bool:=
  (if x5 then some false else (loop (mW h p) (aZ ((aZ (p * 64))+3))).bind (LI h p x1))
def FA(h:aC)(p:Int):Option Bool:=
  (idx h.Class p).bind fun x1=>(if decide (x1 < 0) then (loop (mU h p) (aZ (p * 64))).bind (V8) else (idx h.Bytes (aZ (p * 64))).bind fun x16=>(if x16 != 171 then iT h p x1 true else (idx h.Bytes (aZ ((aZ (p * 64))+1))).bind fun x17=>(if x17 != x1 then iT h p x1 true else (idx h.Bytes (aZ ((aZ (p * 64))+2))).bind fun x18=>(jV x1).bind fun x19=>iT h p x1 (x18 != x19))))
def WB:Option Bool:=
  some true
def qK(h:aC):Int→Option (Step Int (Out Unit Bool))
  | x3=>(if decide (x3 < 6) then (FA h x3).bind fun x4=>(if !x4 then some (.stop (Out.ret false)) else some (.next (aZ (x3+1)))) else some (.stop (Out.brk ())))
def WC:(Out Unit Bool)→Option Bool
  | .brk ()=>WB
  | .ret r=>some r
def FB(h:aC):Option Bool:=
  (CS h).bind fun x1=>(if !x1 then some false else (loop (qK h) 0).bind (WC))
def YP:Option Bool:=
  some false
def pJ(l:List Int)(x:Int):Int→Option (Step Int (Out Unit Bool))
  | x2=>(if decide (x2 < (l.length:Int)) then (idx l x2).bind fun x3=>(if x3 == x then some (.stop (Out.ret true)) else some (.next (aZ (x2+1)))) else some (.stop (Out.brk ())))
def YQ:(Out Unit Bool)→Option Bool
  | .brk ()=>YP
  | .ret r=>some r
def zR(l:List Int)(x:Int):Option Bool:=
  (loop (pJ l x) 0).bind (YQ)
def YR(x10:List Int):Option (List Int):=
  some x10
def tP(l:aB):((List Int)×Int)→Option (Step ((List Int)×Int) (List Int))
  | (x8,x9)=>(if decide (x9 < (l.aX.length:Int)) then (idx l.aX x9).bind fun x11=>need (x8.length+x11.aP.length≤1073741824) (some (.next (x8++x11.aP,aZ (x9+1)))) else some (.stop (x8)))
def YS:(List Int)→Option (List Int)
  | x10=>YR x10
def NR(l:aB)(x5:List Int):Option (List Int):=
  (loop (tP l) (x5,0)).bind (YS)
def tQ(l:aB):((List Int)×Int)→Option (Step ((List Int)×Int) (List Int))
  | (x3,x4)=>(if decide (x4 < (l.Global.length:Int)) then (idx l.Global x4).bind fun x12=>need (x3.length+x12.aP.length≤1073741824) (some (.next (x3++x12.aP,aZ (x4+1)))) else some (.stop (x3)))
def NS(l:aB):(List Int)→Option (List Int)
  | x5=>NR l x5
def DY(l:aB):Option (List Int):=
  (loop (tQ l) (([]:List Int),0)).bind (NS l)
def SY:Option Bool:=
  some true
def uZ(x6:Int)(x7:Bool):Option (Step Int (Out Unit Bool)):=
  (if x7 then some (.stop (Out.ret false)) else some (.next (aZ (x6+1))))
def lH(x4:(List Int)):Int→Option (Step Int (Out Unit Bool))
  | x6=>(if decide (x6 < (x4.length:Int)) then (idx x4 x6).bind fun x8=>(bI x8 0 23).bind fun x9=>(if !x9 then uZ x6 true else need (0≤(x6:Int)∧(x6:Int)≤(x4.length:Int)) ((idx x4 x6).bind fun x10=>(zR ((x4.take x6.toNat).drop 0) x10).bind fun x11=>uZ x6 x11)) else some (.stop (Out.brk ())))
def SZ:(Out Unit Bool)→Option Bool
  | .brk ()=>SY
  | .ret r=>some r
def J3(l:aB):Option Bool:=
  (DY l).bind fun x4=>(loop (lH x4) 0).bind (SZ)
def lI(l:aB):Int→Option (Step Int (Out Unit Bool))
  | x3=>(if decide (x3 < (l.aX.length:Int)) then (idx l.aX x3).bind fun x12=>(if decide (2 < (x12.aP.length:Int)) then some (.stop (Out.ret false)) else some (.next (aZ (x3+1)))) else some (.stop (Out.brk ())))
def J4(l:aB):(Out Unit Bool)→Option Bool
  | .brk ()=>J3 l
  | .ret r=>some r
def vA(l:aB)(x1:Bool):Option Bool:=
  (if x1 then some false else (loop (lI l) 0).bind (J4 l))
def CT(l:aB):Option Bool:=
  (if (l.Global.length:Int) != 3 then vA l true else vA l ((l.aX.length:Int) != 9))
def oR(h:aC)(x1:Int)(x2:Bool):Option Int:=
  (if x2 then some (-1) else (idx h.Class x1).bind fun x3=>some x3)
def jW(h:aC)(slot:Int):Option Int:=
  (wP slot).bind fun x1=>(if decide (x1 < 0) then oR h x1 true else (idx h.Class x1).bind fun x4=>(if decide (x4 < 0) then oR h x1 true else (idx h.Class x1).bind fun x5=>(rX slot).bind fun x6=>(jV x5).bind fun x7=>oR h x1 (decide (x7≤x6))))
def qL(h:aC)(slot:Int):Option Int:=
  (jW h slot).bind fun x1=>(qI slot x1).bind fun x2=>(qH h.Bytes x2 4).bind fun x3=>some x3
def RH:Option Bool:=
  some true
def rY(x2:Int)(x3:Bool):Option (Step Int (Out Unit Bool)):=
  (if x3 then some (.stop (Out.ret false)) else some (.next (aZ (x2+1))))
def kI(h:aC)(l:List Int)(c:Int):Int→Option (Step Int (Out Unit Bool))
  | x2=>(if decide (x2 < (l.length:Int)) then (idx l x2).bind fun x4=>(jW h x4).bind fun x5=>(if x5 != c then rY x2 true else (idx l x2).bind fun x6=>(qL h x6).bind fun x7=>rY x2 (decide (6 < x7))) else some (.stop (Out.brk ())))
def RI:(Out Unit Bool)→Option Bool
  | .brk ()=>RH
  | .ret r=>some r
def tR(h:aC)(l:List Int)(c:Int):Option Bool:=
  (loop (kI h l c) 0).bind (RI)
def tS(w_ c:Int)(x1:Bool):Option Int:=
  (if x1 then some (-1) else some (aZ ((aZ (w_ * 3))+c)))
def qM(w_ c:Int):Option Int:=
  (bI w_ 0 2).bind fun x2=>(if !x2 then tS w_ c true else (bI c 0 2).bind fun x3=>tS w_ c (!x3))
def YT:Option Bool:=
  some true
def NT(x3:Int):Option (Step Int (Out Unit Bool)):=
  some (.next (aZ (x3+1)))
def tT(m:Mem)(x3:Int):Int→Option (Step Int (Out Unit Bool))
  | x7=>(if decide (x7 < 3) then (qM x7 x3).bind fun x8=>(idx m.aB.aX x8).bind fun x9=>(tR m.aC x9.aP x3).bind fun x10=>(if !x10 then some (.stop (Out.ret false)) else some (.next (aZ (x7+1)))) else some (.stop (Out.brk ())))
def NU(x3:Int):(Out Unit Bool)→Option (Step Int (Out Unit Bool))
  | .brk ()=>NT x3
  | .ret r=>some (.stop (Out.ret r))
def tU(m:Mem):Int→Option (Step Int (Out Unit Bool))
  | x3=>(if decide (x3 < 3) then (idx m.aB.Global x3).bind fun x4=>(tR m.aC x4.aP x3).bind fun x5=>(if !x5 then some (.stop (Out.ret false)) else (loop (tT m x3) 0).bind (NU x3)) else some (.stop (Out.brk ())))
def YU:(Out Unit Bool)→Option Bool
  | .brk ()=>YT
  | .ret r=>some r
def AB(m:Mem)(x1:Bool):Option Bool:=
  (if x1 then some false else (loop (tU m) 0).bind (YU))
def DZ(m:Mem):Option Bool:=
  (FB m.aC).bind fun x11=>(if !x11 then AB m true else (CT m.aB).bind fun x12=>AB m (!x12))
def WD(x5:List cT):Option (List cT):=
  some x5
def qN(l:List aR):((List cT)×Int)→Option (Step ((List cT)×Int) (List cT))
  | (x3,x4)=>(if decide (x4 < (l.length:Int)) then (idx l x4).bind fun x6=>need (x3.length+x6.Rows.length≤1073741824) (some (.next (x3++x6.Rows,aZ (x4+1)))) else some (.stop (x3)))
def WE:(List cT)→Option (List cT)
  | x5=>WD x5
def wQ(l:List aR):Option (List cT):=
  (loop (qN l) (([]:List cT),0)).bind (WE)
def rZ(x1:Bool):Option Bool:=
  some x1
def fI(h:Int):Option Bool:=
  (bI h 32 223).bind fun x2=>(if x2 then rZ (decide ((Int.tmod h 32) < 24)) else rZ false)
def d9(h:Int):Option Int:=
  (fI h).bind fun x1=>(if !x1 then some (-1) else some (Int.tmod h 32))
def NV(z:List Int):Option Bool:=
  some ((z.length:Int) == 3)
def AD(x2:Int)(x3:Bool):Option (Step Int (Out Unit Bool)):=
  (if x3 then some (.stop (Out.ret false)) else some (.next (aZ (x2+1))))
def tV(z:List Int):Int→Option (Step Int (Out Unit Bool))
  | x2=>(if decide (x2 < (z.length:Int)) then (idx z x2).bind fun x4=>(if x4 != 0 then (idx z x2).bind fun x5=>(fI x5).bind fun x6=>AD x2 (!x6) else AD x2 false) else some (.stop (Out.brk ())))
def NW(z:List Int):(Out Unit Bool)→Option Bool
  | .brk ()=>NV z
  | .ret r=>some r
def zS(z:List Int):Option Bool:=
  (loop (tV z) 0).bind (NW z)
def FC(l:aB)(slot:Int):Option Bool:=
  (DY l).bind fun x1=>(zR x1 slot).bind fun x2=>some x2
def CU(m:Mem)(slot:Int):Option Int:=
  (jW m.aC slot).bind fun x1=>(if decide (x1 < 0) then some 0 else (FC m.aB slot).bind fun x2=>(if x2 then some 1 else (qL m.aC slot).bind fun x3=>(if decide (6 < x3) then some 2 else some 3)))
def w6(h:Int):Option Int:=
  (fI h).bind fun x1=>(if !x1 then some 0 else some (aZ (Int.tdiv h 32)))
def oS(x1:Bool):Option Bool:=
  some x1
def r9(m:Mem)(h:Int):Option Bool:=
  (fI h).bind fun x2=>(if x2 then (d9 h).bind fun x3=>(CU m x3).bind fun x4=>(if x4 == 3 then (d9 h).bind fun x5=>(qL m.aC x5).bind fun x6=>(w6 h).bind fun x7=>oS (x6 == x7) else oS false) else oS false)
def i6(x1:Bool):Option Bool:=
  some x1
def qO(kind:Int):Option Bool:=
  (if kind == 1 then i6 true else (if kind == 2 then i6 true else (if kind == 3 then i6 true else i6 (kind == 7))))
def CV(x3:Bool):Option Bool:=
  some x3
def CX(x4:Bool):Option Bool:=
  some x4
def w7(o_:dN)(x2:Bool):Option Bool:=
  (if x2 then some false else (if o_.Kind != 1 then (if o_.fT == 0 then CV (o_.fG == 0) else CV false) else (bI o_.fT 0 100).bind fun x5=>(if x5 then (bI o_.fG 0 65535).bind fun x6=>CX x6 else CX false)))
def DN(o_:dN):Option Bool:=
  (bI o_.Kind 1 7).bind fun x1=>(if !x1 then some false else (qO o_.Kind).bind fun x7=>(if !x7 then (if o_.Cell != 0 then w7 o_ true else (bI o_.Cell 0 1).bind fun x8=>w7 o_ (!x8)) else (bI o_.Cell 0 1).bind fun x9=>w7 o_ (!x9)))
def J5(todo:List Queue):Option Bool:=
  some ((todo.length:Int) == 3)
def J6(x2:Int):Option (Step Int (Out Unit Bool)):=
  some (.next (aZ (x2+1)))
def lJ(todo:List Queue)(x2:Int):Int→Option (Step Int (Out Unit Bool))
  | x5=>(idx todo x2).bind fun x6=>(if decide (x5 < (x6.gO.length:Int)) then (idx todo x2).bind fun x7=>(idx x7.gO x5).bind fun x8=>(DN x8).bind fun x9=>(if !x9 then some (.stop (Out.ret false)) else some (.next (aZ (x5+1)))) else some (.stop (Out.brk ())))
def J7(x2:Int):(Out Unit Bool)→Option (Step Int (Out Unit Bool))
  | .brk ()=>J6 x2
  | .ret r=>some (.stop (Out.ret r))
def lK(todo:List Queue):Int→Option (Step Int (Out Unit Bool))
  | x2=>(if decide (x2 < (todo.length:Int)) then (idx todo x2).bind fun x3=>(if decide (12 < (x3.gO.length:Int)) then some (.stop (Out.ret false)) else (loop (lJ todo x2) 0).bind (J7 x2)) else some (.stop (Out.brk ())))
def J8(todo:List Queue):(Out Unit Bool)→Option Bool
  | .brk ()=>J5 todo
  | .ret r=>some r
def w8(todo:List Queue):Option Bool:=
  (loop (lK todo) 0).bind (J8 todo)
def qP(b:List Int):Option (List Int):=
  need (([]:List Int).length+b.length≤1073741824) (some (([]:List Int)++b))
def LJ(h:aC):Option aC:=
  (qP h.Bytes).bind fun x1=>(qP h.Class).bind fun x2=>some (⟨x1,x2⟩:aC)
def WG(x5:List aH):Option (List aH):=
  some x5
def D0(l:List aH):((List aH)×Int)→Option (Step ((List aH)×Int) (List aH))
  | (x3,x4)=>(if decide (x4 < (l.length:Int)) then (idx l x4).bind fun x6=>(qP x6.aP).bind fun x7=>need (x3.length+([(⟨x7⟩:aH)]).length≤1073741824) (some (.next (x3++([(⟨x7⟩:aH)]),aZ (x4+1)))) else some (.stop (x3)))
def WH:(List aH)→Option (List aH)
  | x5=>WG x5
def FD(l:List aH):Option (List aH):=
  (loop (D0 l) (([]:List aH),0)).bind (WH)
def LK(l:aB):Option aB:=
  (FD l.Global).bind fun x1=>(FD l.aX).bind fun x2=>some (⟨x1,x2⟩:aB)
def LL(m:Mem):Option Mem:=
  (LJ m.aC).bind fun x1=>(LK m.aB).bind fun x2=>some (⟨x1,x2⟩:Mem)
def sA(c:aD):Option aD:=
  need (([]:List gR).length+c.aQ.length≤1073741824) (some (⟨c.aG,([]:List gR)++c.aQ⟩:aD))
def PR(x5:List Queue):Option (List Queue):=
  some x5
def w9(l:List Queue):((List Queue)×Int)→Option (Step ((List Queue)×Int) (List Queue))
  | (x3,x4)=>(if decide (x4 < (l.length:Int)) then (idx l x4).bind fun x6=>need (([]:List dN).length+x6.gO.length≤1073741824) (need (x3.length+([(⟨([]:List dN)++x6.gO⟩:Queue)]).length≤1073741824) (some (.next (x3++([(⟨([]:List dN)++x6.gO⟩:Queue)]),aZ (x4+1))))) else some (.stop (x3)))
def PT:(List Queue)→Option (List Queue)
  | x5=>PR x5
def xA(l:List Queue):Option (List Queue):=
  (loop (w9 l) (([]:List Queue),0)).bind (PT)
def fF(kind a_:Int):Option Sub:=
  some (⟨kind,a_,0,0,0,0,0,0,0,false⟩:Sub)
def dV(s:aE)(w_:Int)(x2:Queue)(x3:dN)(x4:bJ):Option aE:=
  (idx s.aM w_).bind fun x5=>need (s.Log.length+([(⟨1,w_,aZ (s.aN+1),x3.Cell,0,0,0⟩:Ev)]).length≤1073741824) (some (⟨s.aA,s.Cells,s.aM.set w_.toNat x4,s.bL.set w_.toNat (⟨(x2.gO.take x2.gO.length).drop ((1:Int).toNat)⟩:Queue),s.Log++([(⟨1,w_,aZ (s.aN+1),x3.Cell,0,0,0⟩:Ev)]),aZ (s.aN+1)⟩:aE))
def gH(s:aE)(w_:Int)(x2:Queue)(x3:dN)(x7:Bool):Option aE:=
  (if x7 then (fF 5 0).bind fun x8=>(idx s.aA.aD.aQ w_).bind fun x9=>(if x9.On then dV s w_ x2 x3 (⟨true,x3,aZ (s.aN+1),9,x8,0,0,0,1⟩:bJ) else dV s w_ x2 x3 (⟨true,x3,aZ (s.aN+1),0,x8,0,0,0,0⟩:bJ)) else (if x3.Kind == 4 then (fF 3 0).bind fun x10=>dV s w_ x2 x3 (⟨true,x3,aZ (s.aN+1),0,x10,0,0,0,0⟩:bJ) else dV s w_ x2 x3 (⟨true,x3,aZ (s.aN+1),0,(⟨0,0,0,0,0,0,0,0,0,false⟩:Sub),0,0,0,0⟩:bJ)))
def sB(s:aE)(w_:Int)(x1:Bool):Option aE:=
  (if x1 then some s else (idx s.bL w_).bind fun x2=>(idx x2.gO 0).bind fun x3=>need (0≤(1:Int)∧(1:Int)≤(x2.gO.length:Int)) ((if x3.Kind == 1 then (fF 1 x3.fT).bind fun x6=>dV s w_ x2 x3 (⟨true,x3,aZ (s.aN+1),0,x6,0,0,0,0⟩:bJ) else (if x3.Kind == 2 then gH s w_ x2 x3 true else gH s w_ x2 x3 (x3.Kind == 5)))))
def tW(s:aE)(w_:Int):Option aE:=
  (idx s.bL w_).bind fun x11=>(if (x11.gO.length:Int) == 0 then sB s w_ true else sB s w_ (s.aN == 1000000))
def S1:Option Int:=
  some (-1)
def eA(size:Int):Int→Option (Step Int (Out Unit Int))
  | x2=>(if decide (x2 < 3) then (lV x2).bind fun x3=>(bI size 1 x3).bind fun x4=>(if x4 then some (.stop (Out.ret x2)) else some (.next (aZ (x2+1)))) else some (.stop (Out.brk ())))
def S2:(Out Unit Int)→Option Int
  | .brk ()=>S1
  | .ret r=>some r
def xB(size:Int):Option Int:=
  (loop (eA size) 0).bind (S2)
def S3(x7:List Int):Option (List Int):=
  some x7
def vB(at_:Int):((List Int)×Int×Int)→Option (Step ((List Int)×Int×Int) (List Int))
  | (x4,x5,x6)=>(if decide (0≤x6) then (idx x4 (aZ (at_+x6))).bind fun x8=>some (.next (x4.set ((aZ (at_+x6)).toNat) (Int.tmod x5 256),aZ (Int.tdiv x5 256),aZ (x6 - 1))) else some (.stop (x4)))
def S4:(List Int)→Option (List Int)
  | x7=>S3 x7
def sC(b:List Int)(at_ width n:Int):Option (List Int):=
  (loop (vB at_) (b,n,aZ (width - 1))).bind (S4)
def S5(h:aC):Option (aC×(List Int)):=
  some (h,([]:List Int))
def B5(x2:Int):Option (Step Int (Out Unit (aC×(List Int)))):=
  some (.next (aZ (x2+1)))
def S6(h:aC)(c x2:Int)(x14 x15:List Int):Option (Step Int (Out Unit (aC×(List Int)))):=
  some (.stop (Out.ret ((⟨x15,h.Class.set x2.toNat c⟩:aC),x14)))
def J9(x2:Int)(x11:List Int)(x12:Int)(x17:List Int):Option (Step ((List Int)×Int×(List Int)) ((List Int)×(List Int))):=
  (nQ x2 x12).bind fun x18=>need (x11.length+([x18]).length≤1073741824) (some (.next (x11++([x18]),aZ (x12+1),x17)))
def vC(c x2:Int):((List Int)×Int×(List Int))→Option (Step ((List Int)×Int×(List Int)) ((List Int)×(List Int)))
  | (x11,x12,x13)=>(jV c).bind fun x16=>(if decide (x12 < x16) then (nQ x2 x12).bind fun x19=>(qI x19 c).bind fun x20=>(sC x13 x20 4 1).bind fun x21=>J9 x2 x11 x12 x21 else some (.stop ((x11,x13))))
def S7(h:aC)(c x2:Int):((List Int)×(List Int))→Option (Step Int (Out Unit (aC×(List Int))))
  | (x14,x15)=>S6 h c x2 x14 x15
def dW(h:aC)(c:Int):Int→Option (Step Int (Out Unit (aC×(List Int))))
  | x2=>(if decide (x2 < 6) then (idx h.Class x2).bind fun x3=>(if x3 != (-1) then B5 x2 else (idx h.Bytes (aZ (x2 * 64))).bind fun x4=>(idx (h.Bytes.set ((aZ (x2 * 64)).toNat) 171) (aZ ((aZ (x2 * 64))+1))).bind fun x5=>(jV c).bind fun x6=>(idx ((h.Bytes.set ((aZ (x2 * 64)).toNat) 171).set ((aZ ((aZ (x2 * 64))+1)).toNat) c) (aZ ((aZ (x2 * 64))+2))).bind fun x7=>(loop (vC c x2) (([]:List Int),0,((h.Bytes.set ((aZ (x2 * 64)).toNat) 171).set ((aZ ((aZ (x2 * 64))+1)).toNat) c).set ((aZ ((aZ (x2 * 64))+2)).toNat) x6)).bind (S7 h c x2)) else some (.stop (Out.brk ())))
def S8(h:aC):(Out Unit (aC×(List Int)))→Option (aC×(List Int))
  | .brk ()=>S5 h
  | .ret r=>some r
def nT(h:aC)(c:Int):Option (aC×(List Int)):=
  (loop (dW h c) 0).bind (S8 h)
def B6(m:Mem)(c:Int)(x1:aC×(List Int))(x2:aH)(x3:Int):Option (Mem×Int):=
  some ((⟨x1.1,(⟨m.aB.Global.set c.toNat (⟨x2.aP++((x1.2.take x1.2.length).drop ((1:Int).toNat))⟩:aH),m.aB.aX⟩:aB)⟩:Mem),x3)
def xC(m:Mem)(c:Int):Option (Mem×Int):=
  (nT m.aC c).bind fun x1=>(if (x1.2.length:Int) == 0 then some ((⟨x1.1,m.aB⟩:Mem),(-1)) else (idx m.aB.Global c).bind fun x2=>need (0≤(1:Int)∧(1:Int)≤(x1.2.length:Int)) (need (x2.aP.length+((x1.2.take x1.2.length).drop ((1:Int).toNat)).length≤1073741824) ((idx x1.2 0).bind fun x4=>B6 m c x1 x2 x4)))
def F8(s:aH)(x1:Int):Option (aH×Int):=
  some ((⟨(s.aP.take ((aZ ((s.aP.length:Int) - 1)).toNat)).drop 0⟩:aH),x1)
def nU(s:aH):Option (aH×Int):=
  (if (s.aP.length:Int) == 0 then some (s,(-1)) else need (0≤(aZ ((s.aP.length:Int) - 1):Int)∧(aZ ((s.aP.length:Int) - 1):Int)≤(s.aP.length:Int)) ((idx s.aP (aZ ((s.aP.length:Int) - 1))).bind fun x2=>F8 s x2))
def bC(s:Sub)(code:Int):Option Sub:=
  some ({s with Code:=code,dB:=true}:Sub)
def sD(slot gen:Int)(x1:Bool):Option Int:=
  (if x1 then some 0 else some (aZ ((aZ (gen * 32))+slot)))
def F9(slot gen:Int):Option Int:=
  (bI slot 0 23).bind fun x2=>(if !x2 then sD slot gen true else (bI gen 1 6).bind fun x3=>sD slot gen (!x3))
def tX(m:Mem)(slot:Int):Option Int:=
  (qL m.aC slot).bind fun x1=>(F9 slot x1).bind fun x2=>some x2
def IW(b:aA)(s:Sub)(slot pc:Int):Option Sub:=
  (if decide (0≤slot) then (tX b.Mem slot).bind fun x1=>(bC ({s with Out:=x1}:Sub) 0).bind fun x2=>some x2 else some ({s with Pc:=pc}:Sub))
def sE(s:Sub)(x3:Int)(x5:Bool)(x6:aA):Option (aA×Sub):=
  (if x5 then (bC s 3).bind fun x7=>some (x6,x7) else (IW x6 s x3 (aZ (s.Pc+1))).bind fun x8=>some (x6,x8))
def gI(s:Sub)(x3:Int)(x4:aA):Option (aA×Sub):=
  (if decide (x3 < 0) then sE s x3 (s.Pc == 3) x4 else sE s x3 false x4)
def sG(b:aA)(s:Sub)(x1:Int)(x12:Bool):Option (aA×Sub):=
  (if x12 then (idx b.Mem.aB.Global x1).bind fun x13=>(nU x13).bind fun x14=>gI s x14.2 ({b with Mem:=(⟨b.Mem.aC,(⟨b.Mem.aB.Global.set x1.toNat x14.1,b.Mem.aB.aX⟩:aB)⟩:Mem)}:aA) else (if s.Pc == 2 then (xC b.Mem x1).bind fun x15=>gI s x15.2 ({b with Mem:=x15.1}:aA) else (bC s 1).bind fun x16=>some (b,x16)))
def tY(b:aA)(w_:Int)(s:Sub):Option (aA×Sub):=
  (xB s.A).bind fun x1=>(if decide (x1 < 0) then (bC s 2).bind fun x2=>some (b,x2) else (if s.Pc == 0 then (qM w_ x1).bind fun x9=>(idx b.Mem.aB.aX x9).bind fun x10=>(nU x10).bind fun x11=>gI s x11.2 ({b with Mem:=(⟨b.Mem.aC,(⟨b.Mem.aB.Global,b.Mem.aB.aX.set x9.toNat x11.1⟩:aB)⟩:Mem)}:aA) else (if s.Pc == 1 then sG b s x1 true else sG b s x1 (s.Pc == 3))))
def S9:Option Bool:=
  some false
def vD(x3:Int)(x4:Bool):Option (Step Int (Out Unit Bool)):=
  (if x4 then some (.stop (Out.ret true)) else some (.next (aZ (x3+1))))
def lL(slot:Int)(x1:(List cT)):Int→Option (Step Int (Out Unit Bool))
  | x3=>(if decide (x3 < (x1.length:Int)) then (idx x1 x3).bind fun x5=>(fI x5.Handle).bind fun x6=>(if x6 then (d9 x5.Handle).bind fun x7=>vD x3 (x7 == slot) else vD x3 false) else some (.stop (Out.brk ())))
def TA:(Out Unit Bool)→Option Bool
  | .brk ()=>S9
  | .ret r=>some r
def IX(l:List aR)(slot:Int):Option Bool:=
  (wQ l).bind fun x1=>(loop (lL slot x1) 0).bind (TA)
def xD(b:aA)(s:Sub)(x5:List aR):Option (aA×Sub):=
  (bC s 0).bind fun x6=>some (({b with aJ:=x5}:aA),x6)
def pY(b:aA)(w_:Int)(s:Sub)(x3:Bool):Option (aA×Sub):=
  (if x3 then (bC s 4).bind fun x4=>some (b,x4) else (idx b.aJ w_).bind fun x7=>need (x7.Rows.length+([(⟨s.A,s.E⟩:cT)]).length≤1073741824)<|xD b s (b.aJ.set w_.toNat (⟨x7.Rows++([(⟨s.A,s.E⟩:cT)])⟩:aR)))
def qQ(b:aA)(w_:Int)(s:Sub):Option (aA×Sub):=
  (if s.Pc == 0 then some (b,({s with Pc:=1,E:=b.aD.aG}:Sub)) else (if s.Pc == 1 then (bI s.E 0 b.aD.aG).bind fun x1=>(if !x1 then (bC s 1).bind fun x2=>some (b,x2) else (r9 b.Mem s.A).bind fun x8=>(if !x8 then pY b w_ s true else (d9 s.A).bind fun x9=>(IX b.aJ x9).bind fun x10=>pY b w_ s x10)) else (bC s 1).bind fun x11=>some (b,x11)))
def mX(w_:Int)(x1:aD)(x3:gR)(x4:Bool):Option (aD×Bool):=
  (if x4 then some (x1,true) else (if x3.Seen == 2 then (idx x1.aQ w_).bind fun x5=>some ((⟨x1.aG,x1.aQ.set w_.toNat ({x5 with cR:=true,Seen:=0}:gR)⟩:aD),true) else (idx x1.aQ w_).bind fun x6=>some ((⟨x1.aG,x1.aQ.set w_.toNat ({x6 with Seen:=aZ (x3.Seen+1)}:gR)⟩:aD),false)))
def xE(c:aD)(w_ e_:Int)(x1:aD)(x2:Bool):Option (aD×Bool):=
  (if x2 then some (x1,false) else (idx c.aQ w_).bind fun x3=>(if !x3.On then mX w_ x1 x3 true else (if x3.cR then mX w_ x1 x3 true else mX w_ x1 x3 (x3.aG == e_))))
def BA(c:aD)(w_ e_:Int):Option (aD×Bool):=
  (sA c).bind fun x1=>(jU c).bind fun x7=>(if !x7 then xE c w_ e_ x1 true else (bI w_ 0 2).bind fun x8=>xE c w_ e_ x1 (!x8))
def xF(e_:Int)(x1:aD)(x2:Bool):Option (aD×Bool):=
  (if x2 then some (x1,false) else some ((⟨aZ (e_+1),x1.aQ⟩:aD),true))
def HN(c:aD)(e_:Int):Option (aD×Bool):=
  (sA c).bind fun x1=>(jU c).bind fun x3=>(if !x3 then xF e_ x1 true else (if c.aG != e_ then xF e_ x1 true else xF e_ x1 (e_ == 100000)))
def nV(b:aA)(s:Sub)(x3:aD×Bool)(x5:Int):Option (aA×Sub):=
  some (({b with aD:=x3.1}:aA),({s with Pc:=x5,B:=aZ (s.B+1)}:Sub))
def nW(b:aA)(s:Sub)(x6:aD×Bool)(x7:Int):Option (aA×Sub):=
  (bC ({s with Out:=x7}:Sub) 0).bind fun x8=>some (({b with aD:=x6.1}:aA),x8)
def oT(b:aA)(s:Sub):Option (aA×Sub):=
  (if s.Pc == 0 then some (b,({s with Pc:=1,E:=b.aD.aG,B:=0}:Sub)) else (if s.Pc == 1 then (bI s.B 0 2).bind fun x1=>(if !x1 then (bC s 1).bind fun x2=>some (b,x2) else (BA b.aD s.B s.E).bind fun x3=>(if !x3.2 then (bC s 8).bind fun x4=>some (({b with aD:=x3.1}:aA),x4) else (if (aZ (s.B+1)) == 3 then nV b s x3 2 else nV b s x3 s.Pc))) else (if s.Pc == 2 then (HN b.aD s.E).bind fun x6=>(if x6.2 then nW b s x6 1 else nW b s x6 s.Out) else (bC s 1).bind fun x9=>some (b,x9))))
def CY(x1:Bool):Option Bool:=
  some x1
def DO(r_:cT)(e_:Int):Option Bool:=
  (if decide (2≤e_) then CY (decide (r_.aG≤(aZ (e_ - 2)))) else CY false)
def TB:Option Int:=
  some (-1)
def dO(l:List cT)(e_:Int):Int→Option (Step Int (Out Unit Int))
  | x2=>(if decide (x2 < (l.length:Int)) then (idx l x2).bind fun x3=>(DO x3 e_).bind fun x4=>(if x4 then some (.stop (Out.ret x2)) else some (.next (aZ (x2+1)))) else some (.stop (Out.brk ())))
def TC:(Out Unit Int)→Option Int
  | .brk ()=>TB
  | .ret r=>some r
def sH(l:List cT)(from_ e_:Int):Option Int:=
  (loop (dO l e_) (if 0 < from_ then from_ else 0)).bind (TC)
def D1(x2 x3:List aH):Option aB:=
  some (⟨x2,x3⟩:aB)
def LM(x:aB)(slot x1:Int)(x4:aH):Option aB:=
  D1 x.Global (x.aX.set x1.toNat (⟨x4.aP++([slot])⟩:aH))
def LN(x:aB)(x5:List aH):Option aB:=
  D1 x5 x.aX
def LO(x:aB)(w_ c slot:Int):Option aB:=
  (qM w_ c).bind fun x1=>(idx x.aX x1).bind fun x4=>(if decide ((x4.aP.length:Int) < 2) then need (x4.aP.length+([slot]).length≤1073741824)<|LM x slot x1 x4 else (idx x.Global c).bind fun x6=>need (x6.aP.length+([slot]).length≤1073741824)<|LN x (x.Global.set c.toNat (⟨x6.aP++([slot])⟩:aH)))
def D2(x:Mem)(x3:List Int)(x4 x5:List aH):Option Mem:=
  some (⟨(⟨x3,x.aC.Class⟩:aC),(⟨x4,x5⟩:aB)⟩:Mem)
def D3(x:Mem)(w_ slot x1 x2:Int)(x3:List Int):Option Mem:=
  (if decide ((aZ (x2+1))≤6) then (LO x.aB w_ x1 slot).bind fun x6=>D2 x x3 x6.Global x6.aX else D2 x x3 x.aB.Global x.aB.aX)
def BC(x:Mem)(w_ slot:Int):Option Mem:=
  (jW x.aC slot).bind fun x1=>(qL x.aC slot).bind fun x2=>(qI slot x1).bind fun x7=>(sC x.aC.Bytes x7 4 (aZ (x2+1))).bind fun x8=>D3 x w_ slot x1 x2 x8
def nX(b:aA)(s:Sub)(x8:Int):Option (aA×Sub):=
  some (b,({s with Pc:=x8,B:=aZ (s.B+1)}:Sub))
def dZ(b:aA)(s:Sub)(x5:Bool):Option (aA×Sub):=
  (if x5 then (bC s 1).bind fun x6=>some (b,x6) else (idx b.dI s.B).bind fun x7=>(if x7 == s.H then some (b,({s with Pc:=1,Row:=aZ (s.Row+1)}:Sub)) else (if (aZ (s.B+1)) == 3 then nX b s 3 else nX b s s.Pc)))
def wA(s:Sub)(x14:aA):Option (aA×Sub):=
  some (x14,({s with Pc:=1,Out:=aZ (s.Out+1)}:Sub))
def d4(b:aA)(w_:Int)(s:Sub)(x1:aR)(x12:Bool):Option (aA×Sub):=
  (if x12 then (bC s 1).bind fun x13=>some (b,x13) else need (0≤(s.Row:Int)∧(s.Row:Int)≤(x1.Rows.length:Int)) (need (0≤(aZ (s.Row+1):Int)∧(aZ (s.Row+1):Int)≤(x1.Rows.length:Int)) (need (s.Row.toNat≤(aZ (s.Row+1)).toNat) ((d9 s.H).bind fun x15=>(BC b.Mem w_ x15).bind fun x16=>wA s ({b with Mem:=x16,aJ:=b.aJ.set w_.toNat (⟨((cX x1.Rows s.Row.toNat (x1.Rows.drop ((aZ (s.Row+1)).toNat))).take (s.Row.toNat+(x1.Rows.length - ((aZ (s.Row+1)).toNat)))).drop 0⟩:aR)}:aA)))))
def oV(b:aA)(w_:Int)(s:Sub):Option (aA×Sub):=
  (idx b.aJ w_).bind fun x1=>(if s.Pc == 0 then some (b,({s with Pc:=1,E:=b.aD.aG,Row:=0}:Sub)) else (if s.Pc == 1 then (sH x1.Rows s.Row s.E).bind fun x2=>(if decide (x2 < 0) then (bC s 0).bind fun x3=>some (b,x3) else (idx x1.Rows x2).bind fun x4=>some (b,({s with Pc:=2,Row:=x2,B:=0,H:=x4.Handle}:Sub))) else (if s.Pc == 2 then (bI s.B 0 2).bind fun x9=>(if !x9 then dZ b s true else (bI s.Row 0 (aZ ((x1.Rows.length:Int) - 1))).bind fun x10=>(if !x10 then dZ b s true else (idx x1.Rows s.Row).bind fun x11=>dZ b s (x11.Handle != s.H))) else (if s.Pc == 3 then (bI s.Row 0 (aZ ((x1.Rows.length:Int) - 1))).bind fun x17=>(if !x17 then d4 b w_ s x1 true else (idx x1.Rows s.Row).bind fun x18=>(if x18.Handle != s.H then d4 b w_ s x1 true else (DO x18 s.E).bind fun x19=>d4 b w_ s x1 (!x19))) else (bC s 1).bind fun x20=>some (b,x20)))))
def tZ(w_ e_:Int)(x1:aD)(x2:Bool):Option (aD×Bool):=
  (if x2 then some (x1,false) else (idx x1.aQ w_).bind fun x3=>some ((⟨x1.aG,x1.aQ.set w_.toNat (⟨true,e_,false,0⟩:gR)⟩:aD),true))
def D4(c:aD)(w_ e_:Int):Option (aD×Bool):=
  (sA c).bind fun x1=>(jU c).bind fun x4=>(if !x4 then tZ w_ e_ x1 true else (bI w_ 0 2).bind fun x5=>(if !x5 then tZ w_ e_ x1 true else (bI e_ 0 c.aG).bind fun x6=>tZ w_ e_ x1 (!x6)))
def BD(b:aA)(w_:Int)(s:Sub):Option (aA×Sub):=
  (if s.Pc == 0 then some (b,({s with Pc:=1,E:=b.aD.aG}:Sub)) else (if s.Pc == 1 then (D4 b.aD w_ s.E).bind fun x1=>(if !x1.2 then (bC s 1).bind fun x2=>some (({b with aD:=x1.1}:aA),x2) else some (({b with aD:=x1.1}:aA),({s with Pc:=2}:Sub))) else (if s.Pc == 2 then (if b.aD.aG == s.E then (bC s 0).bind fun x3=>some (b,x3) else some (b,({s with Pc:=0}:Sub))) else (bC s 1).bind fun x4=>some (b,x4))))
def qR(b:aA)(w_:Int)(s:Sub):Option (aA×Sub):=
  (if s.dB then some (b,s) else (if s.Kind == 1 then (tY b w_ s).bind fun x1=>some (x1.1,x1.2) else (if s.Kind == 2 then (qQ b w_ s).bind fun x2=>some (x2.1,x2.2) else (if s.Kind == 3 then (oT b s).bind fun x3=>some (x3.1,x3.2) else (if s.Kind == 4 then (oV b w_ s).bind fun x4=>some (x4.1,x4.2) else (if s.Kind == 5 then (BD b w_ s).bind fun x5=>some (x5.1,x5.2) else (bC s 1).bind fun x6=>some (b,x6)))))))
def aY(j:bJ)(pc code:Int):Option bJ:=
  some ({j with Pc:=pc,Code:=code}:bJ)
def CZ(slot c:Int):Option Int:=
  (qI slot c).bind fun x1=>(if decide (x1 < 0) then some (-1) else some (aZ (x1+4)))
def xG(at_ x3 x4:Int)(x5:Bool):Option (Int×Int):=
  (if x5 then some (0,2) else (CZ x3 x4).bind fun x6=>some (aZ (x6+at_),0))
def xH(m:Mem)(h at_ width:Int)(x1:Bool):Option (Int×Int):=
  (if x1 then some (0,1) else (r9 m h).bind fun x2=>(if !x2 then some (0,4) else (d9 h).bind fun x3=>(jW m.aC x3).bind fun x4=>(lV x4).bind fun x7=>(bI at_ 0 (aZ (x7 - 1))).bind fun x8=>(if !x8 then xG at_ x3 x4 true else (lV x4).bind fun x9=>xG at_ x3 x4 (decide ((aZ (x9 - at_)) < width)))))
def LP(m:Mem)(h at_ width:Int):Option (Int×Int):=
  (DZ m).bind fun x10=>(if !x10 then xH m h at_ width true else (bI width 1 7).bind fun x11=>xH m h at_ width (!x11))
def NX(x8:Int)(x9:List UInt8):Option (List UInt8):=
  (if decide (0 < x8) then some ([]) else some x9)
def AE(width:Int):(Int×(List UInt8)×Int)→Option (Step (Int×(List UInt8)×Int) (Int×(List UInt8)))
  | (x5,x6,x7)=>(if decide (x7 < width) then need (([u8 (Int.tmod x5 256)]).length+x6.length≤9223372036854775807) (some (.next (aZ (Int.tdiv x5 256),([u8 (Int.tmod x5 256)])++x6,aZ (x7+1)))) else some (.stop ((x5,x6))))
def NY:(Int×(List UInt8))→Option (List UInt8)
  | (x8,x9)=>NX x8 x9
def GA(n width:Int)(x1:Bool):Option (List UInt8):=
  (if x1 then some ([]) else (loop (AE width) (n,[],0)).bind (NY))
def IY(n width:Int):Option (List UInt8):=
  (bI width 1 7).bind fun x10=>(if !x10 then GA n width true else GA n width (decide (n < 0)))
def xI(m:Mem)(h at_ width n:Int):Option (Mem×Int):=
  (LL m).bind fun x1=>(LP m h at_ width).bind fun x2=>(if x2.2 != 0 then some (x1,x2.2) else (IY n width).bind fun x3=>(if x3 == ([]) then some (x1,1) else (sC x1.aC.Bytes x2.1 width n).bind fun x4=>some ((⟨(⟨x4,x1.aC.Class⟩:aC),x1.aB⟩:Mem),0)))
def BE(s:aE)(w_:Int)(j:bJ):Option (aE×bJ):=
  (if j.Pc == 0 then (qR s.aA w_ j.Sub).bind fun x1=>(if !x1.2.dB then some (({s with aA:=x1.1}:aE),({j with Sub:=x1.2}:bJ)) else (if x1.2.Code != 0 then (aY ({j with Sub:=x1.2}:bJ) 9 x1.2.Code).bind fun x2=>some (({s with aA:=x1.1}:aE),x2) else (fI x1.2.Out).bind fun x3=>(if !x3 then (aY ({j with Sub:=x1.2}:bJ) 9 1).bind fun x4=>some (({s with aA:=x1.1}:aE),x4) else (aY ({j with Sub:=x1.2,H:=x1.2.Out}:bJ) 1 0).bind fun x5=>some (({s with aA:=x1.1}:aE),x5)))) else (if j.Pc == 1 then (xI s.aA.Mem j.H 0 4 j.Op.fG).bind fun x6=>(if x6.2 != 0 then (aY j 9 x6.2).bind fun x7=>some (({s with aA:=(⟨x6.1,s.aA.aD,s.aA.aJ,s.aA.dI⟩:aA)}:aE),x7) else (aY j 2 0).bind fun x8=>some (({s with aA:=(⟨x6.1,s.aA.aD,s.aA.aJ,s.aA.dI⟩:aA)}:aE),x8)) else (if j.Pc == 2 then (idx s.Cells j.Op.Cell).bind fun x9=>need (s.Log.length+([(⟨2,w_,j.aN,j.Op.Cell,j.H,j.Op.fG,0⟩:Ev)]).length≤1073741824) ((if x9 == 0 then (aY ({j with Old:=x9}:bJ) 9 0).bind fun x10=>some (({s with Cells:=s.Cells.set j.Op.Cell.toNat j.H,Log:=s.Log++([(⟨2,w_,j.aN,j.Op.Cell,j.H,j.Op.fG,0⟩:Ev)])}:aE),x10) else (fF 2 x9).bind fun x11=>(aY ({j with Sub:=x11,Old:=x9}:bJ) 3 0).bind fun x12=>some (({s with Cells:=s.Cells.set j.Op.Cell.toNat j.H,Log:=s.Log++([(⟨2,w_,j.aN,j.Op.Cell,j.H,j.Op.fG,0⟩:Ev)])}:aE),x12))) else (if j.Pc == 3 then (qR s.aA w_ j.Sub).bind fun x13=>(if !x13.2.dB then some (({s with aA:=x13.1}:aE),({j with Sub:=x13.2}:bJ)) else (aY ({j with Sub:=x13.2}:bJ) 9 x13.2.Code).bind fun x14=>some (({s with aA:=x13.1}:aE),x14)) else (aY j 9 1).bind fun x15=>some (s,x15)))))
def gT(s:aE)(w_:Int)(j:bJ):Option aE:=
  need (s.Log.length+([(⟨3,w_,j.aN,j.Op.Cell,j.H,0,0⟩:Ev)]).length≤1073741824) (some ({s with Log:=s.Log++([(⟨3,w_,j.aN,j.Op.Cell,j.H,0,0⟩:Ev)])}:aE))
def kP(h:aC)(x at_ width x3:Int)(x4:Bool):Option (Int×Bool):=
  (if x4 then some (0,false) else (d9 x).bind fun x5=>(CZ x5 x3).bind fun x6=>(qH h.Bytes (aZ (x6+at_)) width).bind fun x7=>some (x7,true))
def xJ(h:aC)(x at_ width:Int)(x1:Bool):Option (Int×Bool):=
  (if x1 then some (0,false) else (d9 x).bind fun x2=>(jW h x2).bind fun x3=>(if decide (x3 < 0) then kP h x at_ width x3 true else (lV x3).bind fun x8=>(bI at_ 0 (aZ (x8 - 1))).bind fun x9=>(if !x9 then kP h x at_ width x3 true else (lV x3).bind fun x10=>kP h x at_ width x3 (decide ((aZ (x10 - at_)) < width)))))
def FE(h:aC)(x at_ width:Int):Option (Int×Bool):=
  (fI x).bind fun x11=>(if !x11 then xJ h x at_ width true else (bI width 1 7).bind fun x12=>xJ h x at_ width (!x12))
def lW(s:aE)(j:bJ):Option Int:=
  (FE s.aA.Mem.aC j.H 0 4).bind fun x1=>some x1.1
def kJ(j:bJ)(pc:Int)(x2:Bool):Option bJ:=
  (if x2 then (aY j pc 0).bind fun x3=>some x3 else (aY ({j with fG:=0}:bJ) pc 6).bind fun x4=>some x4)
def pK(s:aE)(w_:Int)(j:bJ)(pc:Int):Option bJ:=
  (idx s.aA.aD.aQ w_).bind fun x1=>(if x1.On then kJ j pc (!x1.cR) else kJ j pc false)
def t7(w_:Int)(x1:aD)(x2:Bool):Option (aD×Bool):=
  (if x2 then some (x1,false) else (idx x1.aQ w_).bind fun x3=>some ((⟨x1.aG,x1.aQ.set w_.toNat (⟨false,0,false,0⟩:gR)⟩:aD),true))
def zT(c:aD)(w_:Int):Option (aD×Bool):=
  (sA c).bind fun x1=>(jU c).bind fun x4=>(if !x4 then t7 w_ x1 true else (bI w_ 0 2).bind fun x5=>(if !x5 then t7 w_ x1 true else (idx c.aQ w_).bind fun x6=>t7 w_ x1 (!x6.On)))
def BF(s:aE)(w_:Int)(j:bJ):Option (aE×bJ):=
  (if j.Pc == 0 then (qR s.aA w_ j.Sub).bind fun x1=>(if !x1.2.dB then some (({s with aA:=x1.1}:aE),({j with Sub:=x1.2}:bJ)) else (aY ({j with Sub:=x1.2}:bJ) 1 0).bind fun x2=>some (({s with aA:=x1.1}:aE),x2)) else (if j.Pc == 1 then (idx s.Cells j.Op.Cell).bind fun x3=>(gT s w_ ({j with H:=x3}:bJ)).bind fun x4=>(if x3 == 0 then (aY ({j with H:=x3}:bJ) 4 8).bind fun x5=>some (x4,x5) else (aY ({j with H:=x3}:bJ) 2 0).bind fun x6=>some (x4,x6)) else (if j.Pc == 2 then (lW s j).bind fun x7=>(aY ({j with fG:=x7}:bJ) 3 0).bind fun x8=>some (s,x8) else (if j.Pc == 3 then (pK s w_ j 4).bind fun x9=>some (s,x9) else (if j.Pc == 4 then (zT s.aA.aD w_).bind fun x10=>(aY j 9 j.Code).bind fun x11=>some (({s with aA:=(⟨s.aA.Mem,x10.1,s.aA.aJ,s.aA.dI⟩:aA)}:aE),x11) else (aY j 9 1).bind fun x12=>some (s,x12))))))
def oW(w_ h:Int)(x1:(List Int))(x2:Bool):Option ((List Int)×Bool):=
  (if x2 then some (x1,false) else (idx x1 w_).bind fun x3=>some (x1.set w_.toNat h,true))
def xK(z:List Int)(w_ h:Int):Option ((List Int)×Bool):=
  (qP z).bind fun x1=>(zS z).bind fun x4=>(if !x4 then oW w_ h x1 true else (bI w_ 0 2).bind fun x5=>(if !x5 then oW w_ h x1 true else (fI h).bind fun x6=>oW w_ h x1 (!x6)))
def t9(w_:Int)(x1:(List Int))(x2:Bool):Option ((List Int)×Bool):=
  (if x2 then some (x1,false) else (idx x1 w_).bind fun x3=>some (x1.set w_.toNat 0,true))
def D5(z:List Int)(w_:Int):Option ((List Int)×Bool):=
  (qP z).bind fun x1=>(zS z).bind fun x4=>(if !x4 then t9 w_ x1 true else (bI w_ 0 2).bind fun x5=>(if !x5 then t9 w_ x1 true else (idx z w_).bind fun x6=>t9 w_ x1 (x6 == 0)))
def BG(s:aE)(w_:Int)(j:bJ):Option (aE×bJ):=
  (if j.Pc == 0 then (idx s.Cells j.Op.Cell).bind fun x1=>(if x1 == 0 then (gT s w_ ({j with H:=x1}:bJ)).bind fun x2=>(aY ({j with H:=x1}:bJ) 4 8).bind fun x3=>some (x2,x3) else (aY ({j with H:=x1}:bJ) 1 0).bind fun x4=>some (s,x4)) else (if j.Pc == 1 then (xK s.aA.dI w_ j.H).bind fun x5=>(aY j 2 0).bind fun x6=>some (({s with aA:=(⟨s.aA.Mem,s.aA.aD,s.aA.aJ,x5.1⟩:aA)}:aE),x6) else (if j.Pc == 2 then (idx s.Cells j.Op.Cell).bind fun x7=>(if x7 != j.H then (aY j 0 0).bind fun x8=>some (s,x8) else (gT s w_ j).bind fun x9=>(aY j 3 0).bind fun x10=>some (x9,x10)) else (if j.Pc == 3 then (lW s j).bind fun x11=>(aY ({j with fG:=x11}:bJ) 4 0).bind fun x12=>some (s,x12) else (if j.Pc == 4 then (D5 s.aA.dI w_).bind fun x13=>(aY j 9 j.Code).bind fun x14=>some (({s with aA:=(⟨s.aA.Mem,s.aA.aD,s.aA.aJ,x13.1⟩:aA)}:aE),x14) else (aY j 9 1).bind fun x15=>some (s,x15))))))
def xL(s:aE)(w_:Int)(j:bJ):Option (aE×bJ):=
  (idx s.aA.aD.aQ w_).bind fun x1=>(if j.Pc == 0 then (if !x1.On then (aY j 9 5).bind fun x2=>some (s,x2) else (if x1.cR then (aY j 9 6).bind fun x3=>some (s,x3) else (idx s.Cells j.Op.Cell).bind fun x4=>(gT s w_ ({j with H:=x4}:bJ)).bind fun x5=>(if x4 == 0 then (aY ({j with H:=x4}:bJ) 9 8).bind fun x6=>some (x5,x6) else (aY ({j with H:=x4}:bJ) 1 0).bind fun x7=>some (x5,x7)))) else (if j.Pc == 1 then (lW s j).bind fun x8=>(aY ({j with fG:=x8}:bJ) 2 0).bind fun x9=>some (s,x9) else (if j.Pc == 2 then (pK s w_ j 9).bind fun x10=>some (s,x10) else (aY j 9 1).bind fun x11=>some (s,x11))))
def fN(s:aE)(w_:Int)(j:bJ)(x5:Bool):Option (aE×bJ):=
  (if x5 then (aY j 9 1).bind fun x6=>some (s,x6) else (qR s.aA w_ j.Sub).bind fun x7=>(if !x7.2.dB then some (({s with aA:=x7.1}:aE),({j with Sub:=x7.2}:bJ)) else (if j.Op.Kind == 5 then (aY ({j with Sub:=x7.2}:bJ) 9 x7.2.Code).bind fun x8=>some (({s with aA:=x7.1}:aE),x8) else (if j.Pc == 0 then (fF 4 0).bind fun x9=>(aY ({j with Sub:=x9}:bJ) 1 0).bind fun x10=>some (({s with aA:=x7.1}:aE),x10) else (aY ({j with Sub:=x7.2,fG:=x7.2.Out}:bJ) 9 x7.2.Code).bind fun x11=>some (({s with aA:=x7.1}:aE),x11)))))
def sI(s:aE)(w_:Int)(j:bJ)(x1:Bool):Option (aE×bJ):=
  (if x1 then (zT s.aA.aD w_).bind fun x2=>(if !x2.2 then (aY j 9 5).bind fun x3=>some (({s with aA:=(⟨s.aA.Mem,x2.1,s.aA.aJ,s.aA.dI⟩:aA)}:aE),x3) else (aY j 9 0).bind fun x4=>some (({s with aA:=(⟨s.aA.Mem,x2.1,s.aA.aJ,s.aA.dI⟩:aA)}:aE),x4)) else (if j.Op.Kind == 6 then fN s w_ j true else (if j.Pc != 0 then (if j.Pc != 1 then fN s w_ j true else fN s w_ j (j.Op.Kind == 5)) else fN s w_ j false)))
def uA(s:aE)(w_:Int)(j:bJ):Option (aE×bJ):=
  (if j.Op.Kind == 6 then sI s w_ j (j.Pc == 0) else sI s w_ j false)
def b8(w_:Int)(x3:aE)(x4:bJ):Option aE:=
  (idx x3.aM w_).bind fun x5=>some ({x3 with aM:=x3.aM.set w_.toNat x4}:aE)
def IZ(s:aE)(w_:Int):Option aE:=
  (idx s.aM w_).bind fun x1=>(if !x1.kU then (tW s w_).bind fun x2=>some x2 else (if x1.Pc == 9 then need (s.Log.length+([(⟨4,w_,x1.aN,x1.Op.Cell,x1.H,x1.fG,x1.Code⟩:Ev)]).length≤1073741824) (some ({s with aM:=s.aM.set w_.toNat (⟨false,(⟨0,0,0,0⟩:dN),0,0,(⟨0,0,0,0,0,0,0,0,0,false⟩:Sub),0,0,0,0⟩:bJ),Log:=s.Log++([(⟨4,w_,x1.aN,x1.Op.Cell,x1.H,x1.fG,x1.Code⟩:Ev)])}:aE)) else (if x1.Op.Kind == 1 then (BE s w_ x1).bind fun x6=>b8 w_ x6.1 x6.2 else (if x1.Op.Kind == 2 then (BF s w_ x1).bind fun x7=>b8 w_ x7.1 x7.2 else (if x1.Op.Kind == 3 then (BG s w_ x1).bind fun x8=>b8 w_ x8.1 x8.2 else (if x1.Op.Kind == 7 then (xL s w_ x1).bind fun x9=>b8 w_ x9.1 x9.2 else (uA s w_ x1).bind fun x10=>b8 w_ x10.1 x10.2))))))
def tD:Option Int:=
  some (-1)
def iA(s:List Queue)(f:(Queue→Option Bool)):Int→Option (Step Int (Out Unit Int))
  | x2=>(if decide (x2 < (s.length:Int)) then (idx s x2).bind fun x3=>(f x3).bind fun x4=>(if x4 then some (.stop (Out.ret x2)) else some (.next (aZ (x2+1)))) else some (.stop (Out.brk ())))
def k9:(Out Unit Int)→Option Int
  | .brk ()=>tD
  | .ret r=>some r
def nY(s:List Queue)(f:(Queue→Option Bool)):Option Int:=
  (loop (iA s f) 0).bind (k9)
def iB(s:List Queue)(f:(Queue→Option Bool)):Option Bool:=
  (nY s f).bind fun x1=>some (decide (0≤x1))
def fO(s:List Int):Option (List Int):=
  need (([]:List Int).length+s.length≤1073741824) (some (([]:List Int)++s))
def pL(h:aC):Option aC:=
  (fO h.Bytes).bind fun x1=>(fO h.Class).bind fun x2=>some (⟨x1,x2⟩:aC)
def PU(x5 x10:List aH):Option aB:=
  some (⟨x5,x10⟩:aB)
def xM(x8:Int)(x12:List aH):Option (Step (Int×(List aH)) (List aH)):=
  some (.next (aZ (x8+1),x12))
def xN(l:aB):(Int×(List aH))→Option (Step (Int×(List aH)) (List aH))
  | (x8,x9)=>(if decide (x8 < (l.aX.length:Int)) then (idx l.aX x8).bind fun x11=>(fO x11.aP).bind fun x13=>need (x9.length+([(⟨x13⟩:aH)]).length≤1073741824)<|xM x8 (x9++([(⟨x13⟩:aH)])) else some (.stop (x9)))
def PW(x5:List aH):(List aH)→Option aB
  | x10=>PU x5 x10
def FF(l:aB)(x5:List aH):Option aB:=
  (loop (xN l) (0,[])).bind (PW x5)
def xO(x3:Int)(x15:List aH):Option (Step (Int×(List aH)) (List aH)):=
  some (.next (aZ (x3+1),x15))
def xP(l:aB):(Int×(List aH))→Option (Step (Int×(List aH)) (List aH))
  | (x3,x4)=>(if decide (x3 < (l.Global.length:Int)) then (idx l.Global x3).bind fun x14=>(fO x14.aP).bind fun x16=>need (x4.length+([(⟨x16⟩:aH)]).length≤1073741824)<|xO x3 (x4++([(⟨x16⟩:aH)])) else some (.stop (x4)))
def FG(l:aB):(List aH)→Option aB
  | x5=>FF l x5
def fZ(l:aB):Option aB:=
  (loop (xP l) (0,[])).bind (FG l)
def C0(m:Mem):Option Mem:=
  (pL m.aC).bind fun x1=>(fZ m.aB).bind fun x2=>some (⟨x1,x2⟩:Mem)
def sJ(s:List gR):Option (List gR):=
  need (([]:List gR).length+s.length≤1073741824) (some (([]:List gR)++s))
def kQ(c:aD):Option aD:=
  (sJ c.aQ).bind fun x1=>some (⟨c.aG,x1⟩:aD)
def pZ(s:List cT):Option (List cT):=
  need (([]:List cT).length+s.length≤1073741824) (some (([]:List cT)++s))
def PX(x5:List aR):Option (List aR):=
  some x5
def xQ(l:List aR):((List aR)×Int)→Option (Step ((List aR)×Int) (List aR))
  | (x3,x4)=>(if decide (x4 < (l.length:Int)) then (idx l x4).bind fun x6=>(pZ x6.Rows).bind fun x7=>need (x3.length+([(⟨x7⟩:aR)]).length≤1073741824) (some (.next (x3++([(⟨x7⟩:aR)]),aZ (x4+1)))) else some (.stop (x3)))
def PY:(List aR)→Option (List aR)
  | x5=>PX x5
def kR(l:List aR):Option (List aR):=
  (loop (xQ l) (([]:List aR),0)).bind (PY)
def B7(s:List dN):Option (List dN):=
  need (([]:List dN).length+s.length≤1073741824) (some (([]:List dN)++s))
def RJ(x5:List Queue):Option (List Queue):=
  some x5
def zU(todo:List Queue):((List Queue)×Int)→Option (Step ((List Queue)×Int) (List Queue))
  | (x3,x4)=>(if decide (x4 < (todo.length:Int)) then (idx todo x4).bind fun x6=>(B7 x6.gO).bind fun x7=>need (x3.length+([(⟨x7⟩:Queue)]).length≤1073741824) (some (.next (x3++([(⟨x7⟩:Queue)]),aZ (x4+1)))) else some (.stop (x3)))
def RK:(List Queue)→Option (List Queue)
  | x5=>RJ x5
def AF(todo:List Queue):Option (List Queue):=
  (loop (zU todo) (([]:List Queue),0)).bind (RK)
def mY(x1:Bool):Option Bool:=
  some x1
def b7(n low high:Int):Option Bool:=
  (if decide (low≤n) then mY (decide (n≤high)) else mY false)
def wR:Option Int:=
  some (-1)
def gJ(s:List gR)(f:(gR→Option Bool)):Int→Option (Step Int (Out Unit Int))
  | x2=>(if decide (x2 < (s.length:Int)) then (idx s x2).bind fun x3=>(f x3).bind fun x4=>(if x4 then some (.stop (Out.ret x2)) else some (.next (aZ (x2+1)))) else some (.stop (Out.brk ())))
def mZ:(Out Unit Int)→Option Int
  | .brk ()=>wR
  | .ret r=>some r
def qS(s:List gR)(f:(gR→Option Bool)):Option Int:=
  (loop (gJ s f) 0).bind (mZ)
def i7(s:List gR)(f:(gR→Option Bool)):Option Bool:=
  (qS s f).bind fun x1=>some (decide (0≤x1))
def i9(x1:Bool):Option Bool:=
  some x1
def qT(p:gR)(k0:aD):Option Bool:=
  (b7 p.aG 0 k0.aG).bind fun x2=>(if !x2 then i9 true else (b7 p.Seen 0 2).bind fun x3=>(if !x3 then i9 true else (if !p.On then i9 (!(decide (p=(⟨false,0,false,0⟩:gR)))) else i9 false)))
def oX(x1:Bool):Option Bool:=
  some x1
def jX(c:aD):Option Bool:=
  (b7 c.aG 0 100000).bind fun x2=>(if x2 then (if (c.aQ.length:Int) == 3 then (i7 c.aQ (fun y0=>qT y0 c)).bind fun x3=>oX (!x3) else oX false) else oX false)
def kD(slot:Int):Option Bool:=
  (b7 slot 0 23).bind fun x1=>some x1
def nZ(x10:List Raw):Option (List Raw):=
  some x10
def fP(slices:List (List Raw)):((List Raw)×Int)→Option (Step ((List Raw)×Int) (List Raw))
  | (x8,x9)=>(if decide (x9 < (slices.length:Int)) then (idx slices x9).bind fun x11=>need (x8.length+x11.length≤1073741824) (some (.next (x8++x11,aZ (x9+1)))) else some (.stop (x8)))
def I0:(List Raw)→Option (List Raw)
  | x10=>nZ x10
def jY(slices:List (List Raw))(x5:Int):Option (List Raw):=
  need (0≤x5∧x5≤1073741824) ((loop (fP slices) ([],0)).bind (I0))
def eM(slices:List (List Raw)):(Int×Int)→Option (Step (Int×Int) Int)
  | (x3,x4)=>(if decide (x4 < (slices.length:Int)) then (idx slices x4).bind fun x12=>(if decide ((aZ (x3+(x12.length:Int))) < 0) then none else some (.next (aZ (x3+(x12.length:Int)),aZ (x4+1)))) else some (.stop (x3)))
def xR(slices:List (List Raw)):Int→Option (List Raw)
  | x5=>jY slices x5
def mF(slices:List (List Raw)):Option (List Raw):=
  (loop (eM slices) (0,0)).bind (xR slices)
theorem EU{u1 u2:List Raw}(h:u1.length+u2.length≤1073741824):loop (eM [u1,u2]) (0,0)=some ((u1.length+u2.length:Nat):Int):=by
  have e1:aZ (u1.length:Int)=u1.length:=DW (by omega)
  have e2:aZ ((u1.length:Int)+(u2.length:Int))=((u1.length+u2.length:Nat):Int):=by rw [DW (by omega)];rfl
  have e3:aZ (0+1)=1:=DW (by omega)
  have e4:aZ 2=2:=DW (by omega)
  have n1:¬(u1.length:Int) < 0:=by omega
  have n2:¬((u1.length+u2.length:Nat):Int) < 0:=by omega
  rw [bM (s':=((u1.length:Int),1)) ?_,bM (s':=(((u1.length+u2.length:Nat):Int),2)) ?_,bT (r:=((u1.length+u2.length:Nat):Int)) ?_]
  · simp [eM]
  · simp [eM,idx,e2,e4]
    omega
  · simp [eM,idx,e1,n1]
    exact e3
theorem HO{u1 u2:List Raw}{n1 n2:Nat}(hl:u1.length=n1∧u2.length=n2)(h:n1+n2≤1073741824):mF [u1,u2]=some (u1++u2):=by
  obtain⟨rfl,rfl⟩:=hl
  have e3:aZ (0+1)=1:=DW (by omega)
  have e4:aZ 2=2:=DW (by omega)
  unfold mF
  rw [EU h]
  simp only [Option.bind_some,xR,jY]
  rw [aO (by omega),bM (s':=(u1,1)) ?_,bM (s':=(u1++u2,2)) ?_,bT (r:=u1++u2) ?_]
  · rfl
  · simp [fP]
  · simp [fP,idx,e4,aO h]
  · have h1:u1.length≤1073741824:=by omega
    simp [fP,idx,aO h1]
    exact e3
def B8:Option Bool:=
  some true
def vF(x4:Int)(x12:List Bool):Option (Step (Int×(List Bool)) (Out Unit Bool)):=
  some (.next (aZ (x4+1),x12))
def lM(x10:Int)(x11:List Bool)(x13:Int)(x14:Bool):Option (Step (Int×(List Bool)) (Out (List Bool) Bool)):=
  (if x14 then some (.stop (Out.ret false)) else need (0≤(x13:Int)∧(x13:Int) < 24) ((idx (x11:List Bool) x13).bind fun x15=>some (.next (aZ (x10+1),x11.set (x13.toNat) true))))
def jH(x6:aH):(Int×(List Bool))→Option (Step (Int×(List Bool)) (Out (List Bool) Bool))
  | (x10,x11)=>(if decide (x10 < (x6.aP.length:Int)) then (idx x6.aP x10).bind fun x13=>(kD x13).bind fun x16=>(if !x16 then lM x10 x11 x13 true else need (0≤(x13:Int)∧(x13:Int) < 24) ((idx (x11:List Bool) x13).bind fun x17=>lM x10 x11 x13 x17)) else some (.stop (Out.brk x11)))
def KA(x4:Int):(Out (List Bool) Bool)→Option (Step (Int×(List Bool)) (Out Unit Bool))
  | .brk x12=>vF x4 x12
  | .ret r=>some (.stop (Out.ret r))
def jI(x4:Int)(x5:List Bool)(x6:aH)(x7:Bool):Option (Step (Int×(List Bool)) (Out Unit Bool)):=
  (if x7 then some (.stop (Out.ret false)) else (loop (jH x6) (0,x5)).bind (KA x4))
def jJ(l:aB):(Int×(List Bool))→Option (Step (Int×(List Bool)) (Out Unit Bool))
  | (x4,x5)=>(if decide (x4 < ((l.aX++l.Global).length:Int)) then (idx (l.aX++l.Global) x4).bind fun x6=>(if decide (x4 < (l.aX.length:Int)) then jI x4 x5 x6 (decide (2 < (x6.aP.length:Int))) else jI x4 x5 x6 false) else some (.stop (Out.brk ())))
def TD:(Out Unit Bool)→Option Bool
  | .brk ()=>B8
  | .ret r=>some r
def oY(l:aB)(x1:Bool):Option Bool:=
  (if x1 then some false else need (l.aX.length+l.Global.length≤1073741824) ((loop (jJ l) (0,[false,false,false,false,false,false,false,false,false,false,false,false,false,false,false,false,false,false,false,false,false,false,false,false])).bind (TD)))
def gU(l:aB):Option Bool:=
  (if (l.Global.length:Int) != 3 then oY l true else oY l ((l.aX.length:Int) != 9))
def wS:Option Int:=
  some (-1)
def gK(s:List Int)(f:(Int→Option Bool)):Int→Option (Step Int (Out Unit Int))
  | x2=>(if decide (x2 < (s.length:Int)) then (idx s x2).bind fun x3=>(f x3).bind fun x4=>(if x4 then some (.stop (Out.ret x2)) else some (.next (aZ (x2+1)))) else some (.stop (Out.brk ())))
def m0:(Out Unit Int)→Option Int
  | .brk ()=>wS
  | .ret r=>some r
def qU(s:List Int)(f:(Int→Option Bool)):Option Int:=
  (loop (gK s f) 0).bind (m0)
def dQ(s:List Int)(f:(Int→Option Bool)):Option Bool:=
  (qU s f).bind fun x1=>some (decide (0≤x1))
def LQ(x:Int):Option Bool:=
  (b7 x 0 255).bind fun x1=>some x1
def xS(x:Int):Option Bool:=
  (LQ x).bind fun x1=>some (!x1)
def vG(x1:Bool):Option Bool:=
  some x1
def C1(b:List Int):Option Bool:=
  (if decide ((b.length:Int)≤1000) then (dQ b (fun y0=>xS y0)).bind fun x2=>vG (!x2) else vG false)
def AG(c:Int):Option Bool:=
  (b7 c (-1) 2).bind fun x1=>some (!x1)
def m3(x1:Bool):Option Bool:=
  some x1
def wT(h:aC):Option Bool:=
  (if (h.Bytes.length:Int) == 384 then (C1 h.Bytes).bind fun x2=>(if x2 then (if (h.Class.length:Int) == 6 then (dQ h.Class (fun y0=>AG y0)).bind fun x3=>m3 (!x3) else m3 false) else m3 false) else m3 false)
def gW(c:Int):Option Bool:=
  (b7 c 0 2).bind fun x1=>some x1
def wU(c:Int):Option Int:=
  (gW c).bind fun x1=>(if !x1 then some 0 else (idx ([8,16,40]:List Int) c).bind fun x2=>some x2)
def pM(c:Int):Option Int:=
  (gW c).bind fun x1=>(if !x1 then some 0 else (wU c).bind fun x2=>some (aZ (4+x2)))
def lX(c:Int):Option Int:=
  (gW c).bind fun x1=>(if !x1 then some 0 else (pM c).bind fun x2=>need (x2≠0) (some (aZ (Int.tdiv 56 x2))))
def TE(x5:Int):Option Int:=
  some x5
def oZ(b:List Int)(at_ width:Int):(Int×Int)→Option (Step (Int×Int) Int)
  | (x3,x4)=>(if decide (x4 < (((b.take ((aZ (at_+width)).toNat)).drop at_.toNat).length:Int)) then (idx ((b.take ((aZ (at_+width)).toNat)).drop at_.toNat) x4).bind fun x6=>some (.next (aZ ((aZ (256 * x3))+x6),aZ (x4+1))) else some (.stop (x3)))
def TF:Int→Option Int
  | x5=>TE x5
def jZ(b:List Int)(at_ width:Int):Option Int:=
  need (0≤(at_:Int)∧(at_:Int)≤(aZ (at_+width):Int)∧(aZ (at_+width):Int)≤(b.length:Int)) ((loop (oZ b at_ width) (0,0)).bind (TF))
def AH(x:Int):Option Bool:=
  some (x != 0)
def BH(b:List Int):Option Bool:=
  (dQ b (fun y0=>AH y0)).bind fun x1=>some (!x1)
def WI:Option Bool:=
  some true
def m4(h:aC)(page x1 x4:Int):Int→Option (Step Int (Out Unit Bool))
  | x6=>(if decide (x6 < x4) then (pM x1).bind fun x7=>(jZ ((h.Bytes.take ((aZ ((aZ (page+1)) * 64)).toNat)).drop ((aZ (page * 64)).toNat)) (aZ (8+(aZ (x6 * x7)))) 4).bind fun x8=>(b7 x8 1 7).bind fun x9=>(if !x9 then some (.stop (Out.ret false)) else some (.next (aZ (x6+1)))) else some (.stop (Out.brk ())))
def WJ:(Out Unit Bool)→Option Bool
  | .brk ()=>WI
  | .ret r=>some r
def gX(h:aC)(page x1:Int)(x3:Bool):Option Bool:=
  (if x3 then some false else (lX x1).bind fun x4=>(loop (m4 h page x1 x4) 0).bind (WJ))
def FH(h:aC)(page:Int):Option Bool:=
  (idx h.Class page).bind fun x1=>need (0≤(aZ (page * 64):Int)∧(aZ (page * 64):Int)≤(aZ ((aZ (page+1)) * 64):Int)∧(aZ ((aZ (page+1)) * 64):Int)≤(h.Bytes.length:Int)) ((if decide (x1 < 0) then (BH ((h.Bytes.take ((aZ ((aZ (page+1)) * 64)).toNat)).drop ((aZ (page * 64)).toNat))).bind fun x2=>some x2 else (idx ((h.Bytes.take ((aZ ((aZ (page+1)) * 64)).toNat)).drop ((aZ (page * 64)).toNat)) 0).bind fun x10=>(if x10 != 171 then gX h page x1 true else (idx ((h.Bytes.take ((aZ ((aZ (page+1)) * 64)).toNat)).drop ((aZ (page * 64)).toNat)) 1).bind fun x11=>(if x11 != x1 then gX h page x1 true else (idx ((h.Bytes.take ((aZ ((aZ (page+1)) * 64)).toNat)).drop ((aZ (page * 64)).toNat)) 2).bind fun x12=>(lX x1).bind fun x13=>(if x12 != x13 then gX h page x1 true else need (0≤(3:Int)∧(3:Int)≤(8:Int)∧(8:Int)≤(((h.Bytes.take ((aZ ((aZ (page+1)) * 64)).toNat)).drop ((aZ (page * 64)).toNat)).length:Int)) ((BH ((((h.Bytes.take ((aZ ((aZ (page+1)) * 64)).toNat)).drop ((aZ (page * 64)).toNat)).take ((8:Int).toNat)).drop ((3:Int).toNat))).bind fun x14=>gX h page x1 (!x14)))))))
def WK:Option Bool:=
  some true
def qV(h:aC):Int→Option (Step Int (Out Unit Bool))
  | x3=>(if decide (x3 < 6) then (FH h x3).bind fun x4=>(if !x4 then some (.stop (Out.ret false)) else some (.next (aZ (x3+1)))) else some (.stop (Out.brk ())))
def WL:(Out Unit Bool)→Option Bool
  | .brk ()=>WK
  | .ret r=>some r
def BI(h:aC):Option Bool:=
  (wT h).bind fun x1=>(if !x1 then some false else (loop (qV h) 0).bind (WL))
def uB(slot c:Int)(x1:Bool):Option Int:=
  (if x1 then some (-1) else (pM c).bind fun x2=>some (aZ ((aZ ((aZ ((aZ (Int.tdiv slot 4)) * 64))+8))+(aZ ((Int.tmod slot 4) * x2)))))
def qW(slot c:Int):Option Int:=
  (kD slot).bind fun x3=>(if !x3 then uB slot c true else (gW c).bind fun x4=>(if !x4 then uB slot c true else (lX c).bind fun x5=>uB slot c (decide (x5≤(Int.tmod slot 4)))))
def vH(h:aC)(slot:Int)(x1:Bool):Option Int:=
  (if x1 then some (-1) else (idx h.Class (aZ (Int.tdiv slot 4))).bind fun x2=>some x2)
def j4(h:aC)(slot:Int):Option Int:=
  (kD slot).bind fun x3=>(if !x3 then vH h slot true else (idx h.Class (aZ (Int.tdiv slot 4))).bind fun x4=>(qW slot x4).bind fun x5=>vH h slot (decide (x5 < 0)))
def n9(h:aC)(slot:Int):Option Int:=
  (wT h).bind fun x1=>(if !x1 then some (-1) else (j4 h slot).bind fun x2=>some x2)
def wB(h:aC)(slot:Int):Option Int:=
  (n9 h slot).bind fun x1=>(if decide (x1 < 0) then some 0 else (qW slot x1).bind fun x2=>(jZ h.Bytes x2 4).bind fun x3=>some x3)
def RL:Option Bool:=
  some true
def sK(x2:Int)(x4:Bool):Option (Step Int (Out Unit Bool)):=
  (if x4 then some (.stop (Out.ret false)) else some (.next (aZ (x2+1))))
def kK(h:aC)(s:aH)(c:Int):Int→Option (Step Int (Out Unit Bool))
  | x2=>(if decide (x2 < (s.aP.length:Int)) then (idx s.aP x2).bind fun x3=>(j4 h x3).bind fun x5=>(if x5 != c then sK x2 true else (wB h x3).bind fun x6=>sK x2 (decide (6 < x6))) else some (.stop (Out.brk ())))
def RM:(Out Unit Bool)→Option Bool
  | .brk ()=>RL
  | .ret r=>some r
def uC(h:aC)(s:aH)(c:Int):Option Bool:=
  (loop (kK h s c) 0).bind (RM)
def YV:Option Bool:=
  some true
def pN(m:Mem):Int→Option (Step Int (Out Unit Bool))
  | x5=>(if decide (x5 < (m.aB.aX.length:Int)) then (idx m.aB.aX x5).bind fun x6=>(uC m.aC x6 (Int.tmod x5 3)).bind fun x7=>(if !x7 then some (.stop (Out.ret false)) else some (.next (aZ (x5+1)))) else some (.stop (Out.brk ())))
def YW:(Out Unit Bool)→Option Bool
  | .brk ()=>YV
  | .ret r=>some r
def NZ(m:Mem):Option Bool:=
  (loop (pN m) 0).bind (YW)
def pO(m:Mem):Int→Option (Step Int (Out Unit Bool))
  | x3=>(if decide (x3 < (m.aB.Global.length:Int)) then (idx m.aB.Global x3).bind fun x8=>(uC m.aC x8 x3).bind fun x9=>(if !x9 then some (.stop (Out.ret false)) else some (.next (aZ (x3+1)))) else some (.stop (Out.brk ())))
def N0(m:Mem):(Out Unit Bool)→Option Bool
  | .brk ()=>NZ m
  | .ret r=>some r
def AI(m:Mem)(x1:Bool):Option Bool:=
  (if x1 then some false else (loop (pO m) 0).bind (N0 m))
def D6(m:Mem):Option Bool:=
  (BI m.aC).bind fun x10=>(if !x10 then AI m true else (gU m.aB).bind fun x11=>AI m (!x11))
def xT(x5:Int):Option Int:=
  some x5
def gY(l:List aR):(Int×Int)→Option (Step (Int×Int) Int)
  | (x3,x4)=>(if decide (x4 < (l.length:Int)) then (idx l x4).bind fun x6=>some (.next (aZ (x3+(x6.Rows.length:Int)),aZ (x4+1))) else some (.stop (x3)))
def PZ:Int→Option Int
  | x5=>xT x5
def kS(l:List aR):Option Int:=
  (loop (gY l) (0,0)).bind (PZ)
def kL(x1:Bool):Option Bool:=
  some x1
def fJ(h:Int):Option Bool:=
  (b7 h 32 223).bind fun x2=>(if x2 then kL (decide ((Int.tmod h 32) < 24)) else kL false)
def vI(l:List aR):Option Bool:=
  (kS l).bind fun x5=>some (decide (x5≤24))
def vJ(x3:Int)(x11:List Bool):Option (Step (Int×(List Bool)) (Out Unit Bool)):=
  some (.next (aZ (x3+1),x11))
def hJ(x9:Int)(x10:List Bool)(x12:cT)(x13:Bool):Option (Step (Int×(List Bool)) (Out (List Bool) Bool)):=
  (if x13 then some (.stop (Out.ret false)) else need (0≤(Int.tmod x12.Handle 32:Int)∧(Int.tmod x12.Handle 32:Int) < 24) ((idx (x10:List Bool) (Int.tmod x12.Handle 32)).bind fun x14=>some (.next (aZ (x9+1),x10.set ((Int.tmod x12.Handle 32).toNat) true))))
def jK(x6:aR):(Int×(List Bool))→Option (Step (Int×(List Bool)) (Out (List Bool) Bool))
  | (x9,x10)=>(if decide (x9 < (x6.Rows.length:Int)) then (idx x6.Rows x9).bind fun x12=>(fJ x12.Handle).bind fun x15=>(if !x15 then hJ x9 x10 x12 true else (b7 x12.aG 0 100000).bind fun x16=>(if !x16 then hJ x9 x10 x12 true else need (0≤(Int.tmod x12.Handle 32:Int)∧(Int.tmod x12.Handle 32:Int) < 24) ((idx (x10:List Bool) (Int.tmod x12.Handle 32)).bind fun x17=>hJ x9 x10 x12 x17))) else some (.stop (Out.brk x10)))
def KB(x3:Int):(Out (List Bool) Bool)→Option (Step (Int×(List Bool)) (Out Unit Bool))
  | .brk x11=>vJ x3 x11
  | .ret r=>some (.stop (Out.ret r))
def jL(l:List aR):(Int×(List Bool))→Option (Step (Int×(List Bool)) (Out Unit Bool))
  | (x3,x4)=>(if decide (x3 < (l.length:Int)) then (idx l x3).bind fun x6=>(loop (jK x6) (0,x4)).bind (KB x3) else some (.stop (Out.brk ())))
def KC(l:List aR):(Out Unit Bool)→Option Bool
  | .brk ()=>vI l
  | .ret r=>some r
def j5(l:List aR):Option Bool:=
  (if (l.length:Int) != 3 then some false else (loop (jL l) (0,[false,false,false,false,false,false,false,false,false,false,false,false,false,false,false,false,false,false,false,false,false,false,false,false])).bind (KC l))
def qX(x1:Bool):Option Bool:=
  some x1
def nR(h:Int):Option Bool:=
  (if h == 0 then qX true else (fJ h).bind fun x2=>qX x2)
def C2(h:Int):Option Bool:=
  (nR h).bind fun x1=>some (!x1)
def AJ(x1:Bool):Option Bool:=
  some x1
def zV(z:List Int):Option Bool:=
  (if (z.length:Int) == 3 then (dQ z (fun y0=>C2 y0)).bind fun x2=>AJ (!x2) else AJ false)
def tE:Option Int:=
  some (-1)
def iC(s:List aR)(f:(aR→Option Bool)):Int→Option (Step Int (Out Unit Int))
  | x2=>(if decide (x2 < (s.length:Int)) then (idx s x2).bind fun x3=>(f x3).bind fun x4=>(if x4 then some (.stop (Out.ret x2)) else some (.next (aZ (x2+1)))) else some (.stop (Out.brk ())))
def lA:(Out Unit Int)→Option Int
  | .brk ()=>tE
  | .ret r=>some r
def oA(s:List aR)(f:(aR→Option Bool)):Option Int:=
  (loop (iC s f) 0).bind (lA)
def fQ(s:List aR)(f:(aR→Option Bool)):Option Bool:=
  (oA s f).bind fun x1=>some (decide (0≤x1))
def uD:Option Int:=
  some (-1)
def iM(s:List cT)(f:(cT→Option Bool)):Int→Option (Step Int (Out Unit Int))
  | x2=>(if decide (x2 < (s.length:Int)) then (idx s x2).bind fun x3=>(f x3).bind fun x4=>(if x4 then some (.stop (Out.ret x2)) else some (.next (aZ (x2+1)))) else some (.stop (Out.brk ())))
def l9:(Out Unit Int)→Option Int
  | .brk ()=>uD
  | .ret r=>some r
def pS(s:List cT)(f:(cT→Option Bool)):Option Int:=
  (loop (iM s f) 0).bind (l9)
def f7(s:List cT)(f:(cT→Option Bool)):Option Bool:=
  (pS s f).bind fun x1=>some (decide (0≤x1))
def CL:Option Int:=
  some (-1)
def dT(s:List Int)(v:Int):Int→Option (Step Int (Out Unit Int))
  | x2=>(if decide (x2 < (s.length:Int)) then (idx s x2).bind fun x3=>(if v == x3 then some (.stop (Out.ret x2)) else some (.next (aZ (x2+1)))) else some (.stop (Out.brk ())))
def mG:(Out Unit Int)→Option Int
  | .brk ()=>CL
  | .ret r=>some r
def kM(s:List Int)(v:Int):Option Int:=
  (loop (dT s v) 0).bind (mG)
def mH(s:List Int)(v:Int):Option Bool:=
  (kM s v).bind fun x1=>some (decide (0≤x1))
def mA(s:aH)(k0:Int):Option Bool:=
  (mH s.aP k0).bind fun x1=>some x1
def tF:Option Int:=
  some (-1)
def iD(s:List aH)(f:(aH→Option Bool)):Int→Option (Step Int (Out Unit Int))
  | x2=>(if decide (x2 < (s.length:Int)) then (idx s x2).bind fun x3=>(f x3).bind fun x4=>(if x4 then some (.stop (Out.ret x2)) else some (.next (aZ (x2+1)))) else some (.stop (Out.brk ())))
def lB:(Out Unit Int)→Option Int
  | .brk ()=>tF
  | .ret r=>some r
def oB(s:List aH)(f:(aH→Option Bool)):Option Int:=
  (loop (iD s f) 0).bind (lB)
def fS(s:List aH)(f:(aH→Option Bool)):Option Bool:=
  (oB s f).bind fun x1=>some (decide (0≤x1))
def xU(x1:Bool):Option Bool:=
  some x1
def BJ(l:aB)(slot:Int):Option Bool:=
  (fS l.Global (fun y0=>mA y0 slot)).bind fun x2=>(if x2 then xU true else (fS l.aX (fun y0=>mA y0 slot)).bind fun x3=>xU x3)
def xV(m:Mem)(slot:Int):Option Int:=
  (j4 m.aC slot).bind fun x1=>(if decide (x1 < 0) then some 0 else (BJ m.aB slot).bind fun x2=>(if x2 then some 1 else (wB m.aC slot).bind fun x3=>(if decide (6 < x3) then some 2 else some 3)))
def qY(x1:Bool):Option Bool:=
  some x1
def wV(m:Mem)(h:Int):Option Bool:=
  (fJ h).bind fun x2=>(if x2 then (xV m (Int.tmod h 32)).bind fun x3=>(if x3 == 3 then (wB m.aC (Int.tmod h 32)).bind fun x4=>qY (x4 == (aZ (Int.tdiv h 32))) else qY false) else qY false)
def oC(x1:Bool):Option Bool:=
  some x1
def vK(r_:cT)(k0:aA):Option Bool:=
  (wV k0.Mem r_.Handle).bind fun x2=>(if !x2 then oC true else oC (decide (k0.aD.aG < r_.aG)))
def AK(l:aR)(k0:aA):Option Bool:=
  (f7 l.Rows (fun y0=>vK y0 k0)).bind fun x1=>some x1
def m5(b:aA)(x1:Bool):Option Bool:=
  (if x1 then some false else (fQ b.aJ (fun y0=>AK y0 b)).bind fun x2=>some (!x2))
def qZ(b:aA):Option Bool:=
  (D6 b.Mem).bind fun x3=>(if !x3 then m5 b true else (jX b.aD).bind fun x4=>(if !x4 then m5 b true else (j5 b.aJ).bind fun x5=>(if !x5 then m5 b true else (zV b.dI).bind fun x6=>m5 b (!x6))))
def xW:Option Int:=
  some (-1)
def j6(s:List dN)(f:(dN→Option Bool)):Int→Option (Step Int (Out Unit Int))
  | x2=>(if decide (x2 < (s.length:Int)) then (idx s x2).bind fun x3=>(f x3).bind fun x4=>(if x4 then some (.stop (Out.ret x2)) else some (.next (aZ (x2+1)))) else some (.stop (Out.brk ())))
def oD:(Out Unit Int)→Option Int
  | .brk ()=>xW
  | .ret r=>some r
def tJ(s:List dN)(f:(dN→Option Bool)):Option Int:=
  (loop (j6 s f) 0).bind (oD)
def j7(s:List dN)(f:(dN→Option Bool)):Option Bool:=
  (tJ s f).bind fun x1=>some (decide (0≤x1))
def C3(x4:Bool):Option Bool:=
  some x4
def C4(x7:Bool):Option Bool:=
  some x7
def xX(o_:dN)(x3:Bool):Option Bool:=
  (if x3 then some false else (if o_.Kind == 1 then (b7 o_.fT 0 100).bind fun x5=>(if x5 then (b7 o_.fG 0 65535).bind fun x6=>C3 x6 else C3 false) else (if o_.fT == 0 then C4 (o_.fG == 0) else C4 false)))
def lY(o_:dN)(x1:Bool):Option Bool:=
  (b7 o_.Kind 1 7).bind fun x2=>(if !x2 then some false else (if x1 then (b7 o_.Cell 0 1).bind fun x8=>(if !x8 then xX o_ true else xX o_ false) else xX o_ (o_.Cell != 0)))
def DP(o_:dN):Option Bool:=
  (if o_.Kind == 1 then lY o_ true else (if o_.Kind == 2 then lY o_ true else (if o_.Kind == 3 then lY o_ true else lY o_ (o_.Kind == 7))))
def vL(o_:dN):Option Bool:=
  (DP o_).bind fun x1=>some (!x1)
def sL(x1:Bool):Option Bool:=
  some x1
def AL(q:Queue):Option Bool:=
  (if decide (12 < (q.gO.length:Int)) then sL true else (j7 q.gO (fun y0=>vL y0)).bind fun x2=>sL x2)
def xY(x1:Bool):Option Bool:=
  some x1
def BK(todo:List Queue):Option Bool:=
  (if (todo.length:Int) == 3 then (iB todo (fun y0=>AL y0)).bind fun x2=>xY (!x2) else xY false)
def KD(x y:Int):Option (Int×Int):=
  some (IntKind.u64.wrap ((IntKind.u64.wrap ((IntKind.u64.wrap ((qE .u64 x 32) * (qE .u64 y 32)))+(qE .u64 (IntKind.u64.wrap ((IntKind.u64.wrap ((qE .u64 x 32) * (fC .and .u64 y 4294967295)))+(qE .u64 (IntKind.u64.wrap ((fC .and .u64 x 4294967295) * (fC .and .u64 y 4294967295))) 32))) 32)))+(qE .u64 (IntKind.u64.wrap ((fC .and .u64 (IntKind.u64.wrap ((IntKind.u64.wrap ((qE .u64 x 32) * (fC .and .u64 y 4294967295)))+(qE .u64 (IntKind.u64.wrap ((fC .and .u64 x 4294967295) * (fC .and .u64 y 4294967295))) 32))) 4294967295)+(IntKind.u64.wrap ((fC .and .u64 x 4294967295) * (qE .u64 y 32))))) 32)),IntKind.u64.wrap (x * y))
def GB(x y:Int):Option (Int×Int):=
  (KD x y).bind fun x1=>some (x1.1,x1.2)
def hO(kind a_:Int):Option Sub:=
  some (⟨kind,a_,0,0,0,0,0,0,0,false⟩:Sub)
def cW(s:aE)(kind w_ handle val code:Int)(x1:bJ):Option aE:=
  some ({s with Log:=s.Log++([(⟨kind,w_,x1.aN,x1.Op.Cell,handle,val,code⟩:Ev)])}:aE)
def cH(s:aE)(kind w_ handle val code:Int):Option aE:=
  (idx s.aM w_).bind fun x1=>need (s.Log.length+([(⟨kind,w_,x1.aN,x1.Op.Cell,handle,val,code⟩:Ev)]).length≤1073741824)<|cW s kind w_ handle val code x1
def sM(s:List dN)(i j:Int):Option (List dN):=
  need (0≤(i:Int)∧(i:Int)≤(j:Int)∧(j:Int)≤((s.length:Int):Int)∧((s.length:Int):Int)≤(s.length:Int)) ((if i == j then some s else need (0≤(i:Int)∧(i:Int)≤(s.length:Int)) (need (0≤(j:Int)∧(j:Int)≤(s.length:Int)) (need (i.toNat≤j.toNat) (need (0≤(((((cX s i.toNat (s.drop j.toNat)).take (i.toNat+(s.length - j.toNat))).drop 0).length:Int):Int)∧(((((cX s i.toNat (s.drop j.toNat)).take (i.toNat+(s.length - j.toNat))).drop 0).length:Int):Int)≤((s.length:Int):Int)∧((s.length:Int):Int)≤((cX s i.toNat (s.drop j.toNat)).length:Int)) (some (((cX s i.toNat (s.drop j.toNat)).take (i.toNat+(s.length - j.toNat))).drop 0)))))))
def bD(j:bJ)(code:Int):Option bJ:=
  some ({j with Pc:=9,Code:=code}:bJ)
def dE(s:aE)(w_:Int)(x4:(List dN))(x5:bJ):Option aE:=
  (idx s.aM w_).bind fun x6=>(cH ({s with aM:=s.aM.set w_.toNat x5,bL:=s.bL.set w_.toNat (⟨x4⟩:Queue),aN:=aZ (s.aN+1)}:aE) 1 w_ 0 0 0).bind fun x7=>some x7
def g8(s:aE)(w_:Int)(x3:dN)(x4:(List dN))(x9:Bool):Option aE:=
  (if x9 then (hO 5 0).bind fun x10=>(idx s.aA.aD.aQ w_).bind fun x11=>(if x11.On then (bD (⟨true,x3,aZ (s.aN+1),0,x10,0,0,0,0⟩:bJ) 1).bind fun x12=>dE s w_ x4 x12 else dE s w_ x4 (⟨true,x3,aZ (s.aN+1),0,x10,0,0,0,0⟩:bJ)) else (if x3.Kind == 4 then (hO 3 0).bind fun x13=>dE s w_ x4 (⟨true,x3,aZ (s.aN+1),0,x13,0,0,0,0⟩:bJ) else dE s w_ x4 (⟨true,x3,aZ (s.aN+1),0,(⟨0,0,0,0,0,0,0,0,0,false⟩:Sub),0,0,0,0⟩:bJ)))
def mI(s:aE)(w_:Int)(x1:Bool):Option aE:=
  (if x1 then some s else (idx s.bL w_).bind fun x2=>(idx x2.gO 0).bind fun x3=>(sM x2.gO 0 1).bind fun x4=>(if x3.Kind == 1 then (hO 1 x3.fT).bind fun x8=>dE s w_ x4 (⟨true,x3,aZ (s.aN+1),0,x8,0,0,0,0⟩:bJ) else (if x3.Kind == 2 then g8 s w_ x3 x4 true else g8 s w_ x3 x4 (x3.Kind == 5))))
def sN(s:aE)(w_:Int):Option aE:=
  (idx s.bL w_).bind fun x14=>(if (x14.gO.length:Int) == 0 then mI s w_ true else mI s w_ (s.aN == 1000000))
def bA(s:Sub)(code:Int):Option Sub:=
  some ({s with Code:=code,dB:=true}:Sub)
def TG:Option Int:=
  some (-1)
def vM(x2:Int)(x3:Bool):Option (Step Int (Out Unit Int)):=
  (if x3 then some (.stop (Out.ret x2)) else some (.next (aZ (x2+1))))
def hQ(size:Int):Int→Option (Step Int (Out Unit Int))
  | x2=>(if decide (x2 < 3) then (if decide (1≤size) then (wU x2).bind fun x4=>vM x2 (decide (size≤x4)) else vM x2 false) else some (.stop (Out.brk ())))
def TH:(Out Unit Int)→Option Int
  | .brk ()=>TG
  | .ret r=>some r
def C5(size:Int):Option Int:=
  (loop (hQ size) 0).bind (TH)
def d5(w_:Int):Option Bool:=
  (b7 w_ 0 2).bind fun x1=>some x1
def AM(w_ c:Int)(x1:Bool):Option Int:=
  (if x1 then some (-1) else some (aZ ((aZ (w_ * 3))+c)))
def zW(w_ c:Int):Option Int:=
  (d5 w_).bind fun x2=>(if !x2 then AM w_ c true else (gW c).bind fun x3=>AM w_ c (!x3))
def rA(s:aH):Option (Int×aH):=
  (if decide ((aZ ((s.aP.length:Int) - 1)) < 0) then some ((-1),s) else (idx s.aP (aZ ((s.aP.length:Int) - 1))).bind fun x1=>need (0≤(aZ ((s.aP.length:Int) - 1):Int)∧(aZ ((s.aP.length:Int) - 1):Int)≤(aZ ((s.aP.length:Int) - 1):Int)∧(aZ ((s.aP.length:Int) - 1):Int)≤(s.aP.length:Int)) (some (x1,(⟨(s.aP.take ((aZ ((s.aP.length:Int) - 1)).toNat)).drop 0⟩:aH))))
def vN(x1:aB)(x2:Int)(x3:Bool):Option (aB×Int):=
  (if x3 then some (x1,(-1)) else (idx x1.aX x2).bind fun x4=>(rA x4).bind fun x5=>some ((⟨x1.Global,x1.aX.set x2.toNat x5.2⟩:aB),x5.1))
def C6(l:aB)(w_ c:Int):Option (aB×Int):=
  (fZ l).bind fun x1=>(zW w_ c).bind fun x2=>(gU l).bind fun x6=>(if !x6 then vN x1 x2 true else vN x1 x2 (decide (x2 < 0)))
def oE(c:Int)(x1:aB)(x2:Bool):Option (aB×Int):=
  (if x2 then some (x1,(-1)) else (idx x1.Global c).bind fun x3=>(rA x3).bind fun x4=>some ((⟨x1.Global.set c.toNat x4.2,x1.aX⟩:aB),x4.1))
def vO(l:aB)(c:Int):Option (aB×Int):=
  (fZ l).bind fun x1=>(gU l).bind fun x5=>(if !x5 then oE c x1 true else (gW c).bind fun x6=>oE c x1 (!x6))
def iN(width:Int):Option Bool:=
  (b7 width 1 7).bind fun x1=>some x1
def YX(x8:List UInt8):Option (List UInt8):=
  some x8
def AN:(Int×(List UInt8)×Int)→Option (Step (Int×(List UInt8)×Int) (List UInt8))
  | (x5,x6,x7)=>(if decide (0≤x7) then (idx x6 x7).bind fun x9=>some (.next (qE .i64 x5 8,x6.set x7.toNat (u8 x5),aZ (x7 - 1))) else some (.stop (x6)))
def YY:(List UInt8)→Option (List UInt8)
  | x8=>YX x8
def uE(n width:Int)(x1:Bool):Option (List UInt8):=
  (if x1 then some ([]) else need (0≤(width:Int)∧(width:Int)≤4294967296) ((loop (AN) (n,List.replicate (width.toNat) 0,aZ (width - 1))).bind (YY)))
def wC(n width:Int):Option (List UInt8):=
  (iN width).bind fun x10=>(if !x10 then uE n width true else (if decide (n < 0) then uE n width true else need (0≤(IntKind.u64.wrap (aZ (8 * width)):Int)) (uE n width (decide ((Z1 .i64 1 (IntKind.u64.wrap (aZ (8 * width))))≤n)))))
def LR(b x5:List Int):Option (List Int):=
  need (x5.length=b.length) (some x5)
def xZ(b:List Int)(at_:Int)(text:List UInt8):((List Int)×Int)→Option (Step ((List Int)×Int) (List Int))
  | (x3,x4)=>need (x3.length=b.length) ((if decide (x4 < (text.length:Int)) then (idx text x4).bind fun x6=>(idx x3 (aZ (at_+x4))).bind fun x7=>some (.next (x3.set ((aZ (at_+x4)).toNat) (x6.toNat:Int),aZ (x4+1))) else some (.stop (x3))))
def LS(b:List Int):(List Int)→Option (List Int)
  | x5=>LR b x5
def rB(b:List Int)(at_:Int)(text:List UInt8):Option (List Int):=
  (loop (xZ b at_ text) (b,0)).bind (LS b)
def yA(page index:Int)(x1:Bool):Option Int:=
  (if x1 then some (-1) else some (aZ ((aZ (page * 4))+index)))
def FI(page index:Int):Option Int:=
  (b7 page 0 5).bind fun x2=>(if !x2 then yA page index true else (b7 index 0 3).bind fun x3=>yA page index (!x3))
def YZ(c:Int)(x1:aC)(x2:Int)(x13 x14:List Int):Option (aC×(List Int)):=
  some ((⟨x14,x1.Class.set x2.toNat c⟩:aC),x13)
def GC(x10:List Int)(x11 x15:Int)(x16:List Int):Option (Step ((List Int)×Int×(List Int)) ((List Int)×(List Int))):=
  need (x10.length+([x15]).length≤1073741824) (some (.next (x10++([x15]),aZ (x11+1),x16)))
def AO(c x2 x6:Int):((List Int)×Int×(List Int))→Option (Step ((List Int)×Int×(List Int)) ((List Int)×(List Int)))
  | (x10,x11,x12)=>(if decide (x11 < x6) then (FI x2 x11).bind fun x15=>(qW x15 c).bind fun x17=>(wC 1 4).bind fun x18=>(rB x12 x17 x18).bind fun x19=>GC x10 x11 x15 x19 else some (.stop ((x10,x12))))
def Y0(c:Int)(x1:aC)(x2:Int):((List Int)×(List Int))→Option (aC×(List Int))
  | (x13,x14)=>YZ c x1 x2 x13 x14
def GD(c:Int)(x1:aC)(x2:Int)(x5:List Int):Option (aC×(List Int)):=
  (lX c).bind fun x6=>(loop (AO c x2 x6) (([]:List Int),0,x5)).bind (Y0 c x1 x2)
def uF(c:Int)(x1:aC)(x2:Int)(x3:Bool):Option (aC×(List Int)):=
  (if x3 then some (x1,([]:List Int)) else (idx x1.Class x2).bind fun x4=>need (0≤(aZ (x2 * 64):Int)∧(aZ (x2 * 64):Int)≤(x1.Bytes.length:Int))<|(lX c).bind fun x20=>GD c x1 x2 (cX x1.Bytes ((aZ (x2 * 64)).toNat) ([171,c,x20]:List Int)))
def zX(h:aC)(c:Int):Option (aC×(List Int)):=
  (pL h).bind fun x1=>(kM h.Class (-1)).bind fun x2=>(BI h).bind fun x21=>(if !x21 then uF c x1 x2 true else (gW c).bind fun x22=>(if !x22 then uF c x1 x2 true else uF c x1 x2 (decide (x2 < 0))))
def B9(x4:Int)(x5:Mem):Option (Mem×Int):=
  some (x5,x4)
def CA(c:Int)(x1:aC×(List Int))(x2:Mem):Option (Mem×Int):=
  (if (x1.2.length:Int) == 0 then some (x2,(-1)) else (idx x2.aB.Global c).bind fun x3=>need (0≤(1:Int)∧(1:Int)≤(x1.2.length:Int)) (need (x3.aP.length+((x1.2.take x1.2.length).drop ((1:Int).toNat)).length≤1073741824) ((idx x1.2 0).bind fun x6=>B9 x6 (⟨x2.aC,(⟨x2.aB.Global.set c.toNat (⟨x3.aP++((x1.2.take x1.2.length).drop ((1:Int).toNat))⟩:aH),x2.aB.aX⟩:aB)⟩:Mem))))
def C7(m:Mem)(c:Int):Option (Mem×Int):=
  (zX m.aC c).bind fun x1=>(fZ m.aB).bind fun x7=>CA c x1 (⟨x1.1,x7⟩:Mem)
def sO(slot gen:Int)(x1:Bool):Option Int:=
  (if x1 then some 0 else some (aZ ((aZ (gen * 32))+slot)))
def GF(slot gen:Int):Option Int:=
  (kD slot).bind fun x2=>(if !x2 then sO slot gen true else (b7 gen 1 6).bind fun x3=>sO slot gen (!x3))
def AP(m:Mem)(slot:Int):Option Int:=
  (wB m.aC slot).bind fun x1=>(GF slot x1).bind fun x2=>some x2
def fX(s:Sub)(x3:Int)(x4:aA):Option (Sub×aA):=
  (if decide (0≤x3) then (AP x4.Mem x3).bind fun x5=>(bA ({s with Out:=x5}:Sub) 0).bind fun x6=>some (x6,x4) else (if s.Pc == 3 then (bA s 3).bind fun x7=>some (x7,x4) else some (({s with Pc:=aZ (s.Pc+1)}:Sub),x4)))
def kX(s:Sub)(b:aA)(x1:Int)(x9:Bool):Option (Sub×aA):=
  (if x9 then (vO b.Mem.aB x1).bind fun x10=>fX s x10.2 ({b with Mem:=(⟨b.Mem.aC,x10.1⟩:Mem)}:aA) else (if s.Pc == 2 then (C7 b.Mem x1).bind fun x11=>fX s x11.2 ({b with Mem:=x11.1}:aA) else (bA s 1).bind fun x12=>some (x12,b)))
def oF(s:Sub)(b:aA)(w_:Int):Option (Sub×aA):=
  (C5 s.A).bind fun x1=>(if decide (x1 < 0) then (bA s 2).bind fun x2=>some (x2,b) else (if s.Pc == 0 then (C6 b.Mem.aB w_ x1).bind fun x8=>fX s x8.2 ({b with Mem:=(⟨b.Mem.aC,x8.1⟩:Mem)}:aA) else (if s.Pc == 1 then kX s b x1 true else kX s b x1 (s.Pc == 3))))
def mJ(x1:Bool):Option Bool:=
  some x1
def m6(r_:cT)(k0:Int):Option Bool:=
  (fJ r_.Handle).bind fun x2=>(if x2 then mJ ((Int.tmod r_.Handle 32) == k0) else mJ false)
def yB(own:aR)(k0:Int):Option Bool:=
  (f7 own.Rows (fun y0=>m6 y0 k0)).bind fun x1=>some x1
def yC(l:List aR)(slot:Int):Option Bool:=
  (fQ l (fun y0=>yB y0 slot)).bind fun x1=>some x1
def sP(l:List aR)(w_ h e_:Int)(x1:Bool):Option ((List aR)×Bool):=
  (if x1 then (kR l).bind fun x2=>some (x2,false) else (kR l).bind fun x3=>(idx x3 w_).bind fun x4=>need (x4.Rows.length+([(⟨h,e_⟩:cT)]).length≤1073741824) ((j5 (x3.set w_.toNat (⟨x4.Rows++([(⟨h,e_⟩:cT)])⟩:aR))).bind fun x5=>(if !x5 then (kR l).bind fun x6=>some (x6,false) else some (x3.set w_.toNat (⟨x4.Rows++([(⟨h,e_⟩:cT)])⟩:aR),true))))
def AQ(l:List aR)(w_ h e_:Int):Option ((List aR)×Bool):=
  (j5 l).bind fun x7=>(if !x7 then sP l w_ h e_ true else (d5 w_).bind fun x8=>sP l w_ h e_ (!x8))
def j8(s:Sub)(b:aA)(w_:Int)(x3:Bool):Option (Sub×aA):=
  (if x3 then (bA s 4).bind fun x4=>some (x4,b) else (AQ b.aJ w_ s.A s.E).bind fun x5=>(bA s 0).bind fun x6=>some (x6,({b with aJ:=x5.1}:aA)))
def j9(s:Sub)(b:aA)(w_:Int)(x1:Bool):Option (Sub×aA):=
  (if x1 then (bA s 1).bind fun x2=>some (x2,b) else (wV b.Mem s.A).bind fun x7=>(if !x7 then j8 s b w_ true else (yC b.aJ (Int.tmod s.A 32)).bind fun x8=>j8 s b w_ x8))
def mK(s:Sub)(b:aA)(w_:Int):Option (Sub×aA):=
  (if s.Pc == 0 then some (({s with Pc:=1,E:=b.aD.aG}:Sub),b) else (if s.Pc != 1 then j9 s b w_ true else (b7 s.E 0 b.aD.aG).bind fun x9=>j9 s b w_ (!x9)))
def m7(w_:Int)(x1:aD)(x4:Bool):Option (aD×Bool):=
  (if x4 then some (x1,true) else (idx x1.aQ w_).bind fun x5=>(if decide (x5.Seen < 2) then some ((⟨x1.aG,x1.aQ.set w_.toNat ({x5 with Seen:=aZ (x5.Seen+1)}:gR)⟩:aD),false) else some ((⟨x1.aG,x1.aQ.set w_.toNat ({x5 with cR:=true,Seen:=0}:gR)⟩:aD),true)))
def yD(w_ e_:Int)(x1:aD)(x2:Bool):Option (aD×Bool):=
  (if x2 then some (x1,false) else (idx x1.aQ w_).bind fun x3=>(if !x3.On then m7 w_ x1 true else (if x3.cR then m7 w_ x1 true else m7 w_ x1 (x3.aG == e_))))
def FJ(c:aD)(w_ e_:Int):Option (aD×Bool):=
  (kQ c).bind fun x1=>(jX c).bind fun x6=>(if !x6 then yD w_ e_ x1 true else (d5 w_).bind fun x7=>yD w_ e_ x1 (!x7))
def yE(x1:aD)(x2:Bool):Option (aD×Bool):=
  (if x2 then some (x1,false) else some ((⟨aZ (x1.aG+1),x1.aQ⟩:aD),true))
def NF(c:aD)(e_:Int):Option (aD×Bool):=
  (kQ c).bind fun x1=>(jX c).bind fun x3=>(if !x3 then yE x1 true else (if c.aG != e_ then yE x1 true else yE x1 (c.aG == 100000)))
def jA(s:Sub)(b:aA)(x4:aD×Bool)(x5:Int):Option (Sub×aA):=
  (bA ({s with Out:=x5}:Sub) 0).bind fun x6=>some (x6,({b with aD:=x4.1}:aA))
def jB(s:Sub)(b:aA)(x1:Bool):Option (Sub×aA):=
  (if x1 then (FJ b.aD s.B s.E).bind fun x2=>(if !x2.2 then (bA s 8).bind fun x3=>some (x3,({b with aD:=x2.1}:aA)) else (if (aZ (s.B+1)) == 3 then some (({s with Pc:=2,B:=aZ (s.B+1)}:Sub),({b with aD:=x2.1}:aA)) else some (({s with B:=aZ (s.B+1)}:Sub),({b with aD:=x2.1}:aA)))) else (if s.Pc == 2 then (NF b.aD s.E).bind fun x4=>(if x4.2 then jA s b x4 1 else jA s b x4 s.Out) else (bA s 1).bind fun x7=>some (x7,b)))
def lZ(s:Sub)(b:aA):Option (Sub×aA):=
  (if s.Pc == 0 then some (({s with Pc:=1,E:=b.aD.aG,B:=0}:Sub),b) else (if s.Pc == 1 then (d5 s.B).bind fun x8=>jB s b x8 else jB s b false))
def yF(x1:Bool):Option Bool:=
  some x1
def BL(l:List aR)(w_ i:Int):Option Bool:=
  (d5 w_).bind fun x2=>(if x2 then (idx l w_).bind fun x3=>(b7 i 0 (aZ ((x3.Rows.length:Int) - 1))).bind fun x4=>yF x4 else yF false)
def C8(x1:Bool):Option Bool:=
  some x1
def HP(r_:cT)(e_:Int):Option Bool:=
  (if decide (2≤e_) then C8 (decide (r_.aG≤(aZ (e_ - 2)))) else C8 false)
def BM(s:Sub)(b:aA):Option (Sub×aA):=
  (bA s 0).bind fun x3=>some (x3,b)
def dY(s:Sub)(b:aA)(w_:Int):Int→Option (Step Int (Out Unit (Sub×aA)))
  | x2=>(idx b.aJ w_).bind fun x4=>(if decide (x2 < (x4.Rows.length:Int)) then (idx x4.Rows x2).bind fun x5=>(HP x5 s.E).bind fun x6=>(if x6 then some (.stop (Out.ret (({s with Pc:=2,Row:=x2,B:=0,H:=x5.Handle}:Sub),b))) else some (.next (aZ (x2+1)))) else some (.stop (Out.brk ())))
def LU(s:Sub)(b:aA):(Out Unit (Sub×aA))→Option (Sub×aA)
  | .brk ()=>BM s b
  | .ret r=>some r
def l4(s:Sub)(b:aA)(w_:Int):Option (Sub×aA):=
  (loop (dY s b w_) (if s.Row < 0 then 0 else s.Row)).bind (LU s b)
def wD(s:List cT)(i j:Int):Option (List cT):=
  need (0≤(i:Int)∧(i:Int)≤(j:Int)∧(j:Int)≤((s.length:Int):Int)∧((s.length:Int):Int)≤(s.length:Int)) ((if i == j then some s else need (0≤(i:Int)∧(i:Int)≤(s.length:Int)) (need (0≤(j:Int)∧(j:Int)≤(s.length:Int)) (need (i.toNat≤j.toNat) (need (0≤(((((cX s i.toNat (s.drop j.toNat)).take (i.toNat+(s.length - j.toNat))).drop 0).length:Int):Int)∧(((((cX s i.toNat (s.drop j.toNat)).take (i.toNat+(s.length - j.toNat))).drop 0).length:Int):Int)≤((s.length:Int):Int)∧((s.length:Int):Int)≤((cX s i.toNat (s.drop j.toNat)).length:Int)) (some (((cX s i.toNat (s.drop j.toNat)).take (i.toNat+(s.length - j.toNat))).drop 0)))))))
def vP(w_ i:Int)(x1:(List aR))(x2:Bool):Option ((List aR)×Bool):=
  (if x2 then some (x1,false) else (idx x1 w_).bind fun x3=>(wD x3.Rows i (aZ (i+1))).bind fun x4=>some (x1.set w_.toNat (⟨x4⟩:aR),true))
def C9(l:List aR)(w_ i:Int):Option ((List aR)×Bool):=
  (kR l).bind fun x1=>(j5 l).bind fun x5=>(if !x5 then vP w_ i x1 true else (BL l w_ i).bind fun x6=>vP w_ i x1 (!x6))
def D7(x3 x5:List Int):Option (aC×Bool):=
  some ((⟨x5,x3⟩:aC),true)
def yG(slot gen x1:Int)(x2 x3:List Int)(x4:Bool):Option (aC×Bool):=
  (if x4 then some ((⟨x2,x3⟩:aC),false) else (qW slot x1).bind fun x6=>(wC gen 4).bind fun x7=>(rB x2 x6 x7).bind fun x8=>D7 x3 x8)
def D8(slot gen x1:Int)(x2 x3:List Int):Option (aC×Bool):=
  (if decide (x1 < 0) then yG slot gen x1 x2 x3 true else (b7 gen 1 7).bind fun x9=>yG slot gen x1 x2 x3 (!x9))
def LV(h:aC)(slot gen:Int):Option (aC×Bool):=
  (pL h).bind fun x10=>(n9 h slot).bind fun x11=>D8 slot gen x11 x10.Bytes x10.Class
def sQ(c slot:Int)(x1:aB)(x2:Int)(x3:Bool):Option (aB×Bool):=
  (if x3 then some (x1,false) else (idx x1.aX x2).bind fun x4=>(if decide (2≤(x4.aP.length:Int)) then (idx x1.Global c).bind fun x5=>need (x5.aP.length+([slot]).length≤1073741824) (some ((⟨x1.Global.set c.toNat (⟨x5.aP++([slot])⟩:aH),x1.aX⟩:aB),true)) else need (x4.aP.length+([slot]).length≤1073741824) (some ((⟨x1.Global,x1.aX.set x2.toNat (⟨x4.aP++([slot])⟩:aH)⟩:aB),true))))
def RN(l:aB)(w_ c slot:Int):Option (aB×Bool):=
  (fZ l).bind fun x1=>(zW w_ c).bind fun x2=>(gU l).bind fun x6=>(if !x6 then sQ c slot x1 x2 true else (if decide (x2 < 0) then sQ c slot x1 x2 true else (kD slot).bind fun x7=>(if !x7 then sQ c slot x1 x2 true else (BJ l slot).bind fun x8=>sQ c slot x1 x2 x8)))
def GG(x3:Mem):Option Mem:=
  some x3
def GH(m:Mem)(w_ h:Int)(x2:Mem):Option Mem:=
  (if decide ((aZ ((aZ (Int.tdiv h 32))+1))≤6) then (j4 m.aC (Int.tmod h 32)).bind fun x4=>(RN m.aB w_ x4 (Int.tmod h 32)).bind fun x5=>GG (⟨x2.aC,x5.1⟩:Mem) else GG x2)
def I1(m:Mem)(w_ h:Int):Option Mem:=
  (LV m.aC (Int.tmod h 32) (aZ ((aZ (Int.tdiv h 32))+1))).bind fun x1=>(fZ m.aB).bind fun x6=>GH m w_ h (⟨x1.1,x6⟩:Mem)
def cQ(s:Sub)(b:aA)(w_:Int)(x5:Bool):Option (Sub×aA):=
  (if x5 then (C9 b.aJ w_ s.Row).bind fun x6=>(I1 b.Mem w_ s.H).bind fun x7=>some (({s with Pc:=1,Out:=aZ (s.Out+1)}:Sub),({b with Mem:=x7,aJ:=x6.1}:aA)) else (bA s 1).bind fun x8=>some (x8,b))
def dR(s:Sub)(b:aA)(w_:Int)(x1 x3:Bool):Option (Sub×aA):=
  (if x3 then (idx b.dI s.B).bind fun x4=>(if x4 == s.H then some (({s with Pc:=1,Row:=aZ (s.Row+1)}:Sub),b) else (if (aZ (s.B+1)) == 3 then some (({s with Pc:=3,B:=aZ (s.B+1)}:Sub),b) else some (({s with B:=aZ (s.B+1)}:Sub),b))) else (if s.Pc == 3 then (if x1 then (idx b.aJ w_).bind fun x9=>(idx x9.Rows s.Row).bind fun x10=>(HP x10 s.E).bind fun x11=>cQ s b w_ x11 else cQ s b w_ false) else cQ s b w_ false))
def eG(s:Sub)(b:aA)(w_:Int)(x1:Bool):Option (Sub×aA):=
  (if s.Pc == 0 then some (({s with Pc:=1,E:=b.aD.aG,Row:=0}:Sub),b) else (if s.Pc == 1 then (l4 s b w_).bind fun x2=>some (x2.1,x2.2) else (if s.Pc == 2 then (d5 s.B).bind fun x12=>(if x12 then dR s b w_ x1 x1 else dR s b w_ x1 false) else dR s b w_ x1 false)))
def l5(s:Sub)(b:aA)(w_:Int):Option (Sub×aA):=
  (BL b.aJ w_ s.Row).bind fun x13=>(if x13 then (idx b.aJ w_).bind fun x14=>(idx x14.Rows s.Row).bind fun x15=>eG s b w_ (x15.Handle == s.H) else eG s b w_ false)
def uG(w_ e_:Int)(x1:aD)(x2:Bool):Option (aD×Bool):=
  (if x2 then some (x1,false) else (idx x1.aQ w_).bind fun x3=>some ((⟨x1.aG,x1.aQ.set w_.toNat (⟨true,e_,false,0⟩:gR)⟩:aD),true))
def I2(c:aD)(w_ e_:Int):Option (aD×Bool):=
  (kQ c).bind fun x1=>(jX c).bind fun x4=>(if !x4 then uG w_ e_ x1 true else (d5 w_).bind fun x5=>(if !x5 then uG w_ e_ x1 true else (b7 e_ 0 c.aG).bind fun x6=>uG w_ e_ x1 (!x6)))
def tK(s:Sub)(b:aA)(x1:Bool)(x2:Int)(x3:List gR):Option (Sub×aA):=
  (if !x1 then (bA s 1).bind fun x4=>some (x4,b) else some (({s with Pc:=2}:Sub),({b with aD:=(⟨x2,x3⟩:aD)}:aA)))
def sS(s:Sub)(b:aA)(w_:Int):Option (Sub×aA):=
  (if s.Pc == 0 then some (({s with Pc:=1,E:=b.aD.aG}:Sub),b) else (if s.Pc == 1 then (I2 b.aD w_ s.E).bind fun x5=>tK s b x5.2 x5.1.aG x5.1.aQ else (if s.Pc == 2 then (if b.aD.aG == s.E then (bA s 0).bind fun x6=>some (x6,b) else some (({s with Pc:=0}:Sub),b)) else (bA s 1).bind fun x7=>some (x7,b))))
def iO(s:Sub)(b:aA)(w_:Int):Option (Sub×aA):=
  (if s.dB then some (s,b) else (if s.Kind == 1 then (oF s b w_).bind fun x1=>some (x1.1,x1.2) else (if s.Kind == 2 then (mK s b w_).bind fun x2=>some (x2.1,x2.2) else (if s.Kind == 3 then (lZ s b).bind fun x3=>some (x3.1,x3.2) else (if s.Kind == 4 then (l5 s b w_).bind fun x4=>some (x4.1,x4.2) else (if s.Kind == 5 then (sS s b w_).bind fun x5=>some (x5.1,x5.2) else (bA s 1).bind fun x6=>some (x6,b)))))))
def cO(j:bJ)(pc:Int):Option bJ:=
  some ({j with Pc:=pc,Code:=0}:bJ)
def DA(slot c:Int):Option Int:=
  (qW slot c).bind fun x1=>(if decide (x1 < 0) then some (-1) else some (aZ (x1+4)))
def I3(slot c:Int):Option Span:=
  (DA slot c).bind fun x1=>(if decide (x1 < 0) then some (⟨0,0⟩:Span) else (wU c).bind fun x2=>some (⟨x1,aZ (x1+x2)⟩:Span))
def sT(h:aC)(slot at_ width:Int):Option Int:=
  (j4 h slot).bind fun x1=>(I3 slot x1).bind fun x2=>(b7 at_ 0 (aZ ((aZ (x2.To - x2.aME)) - width))).bind fun x3=>(if !x3 then some (-1) else some (aZ (x2.aME+at_)))
def yH(m:Mem)(h at_ width:Int)(x1:Bool):Option (Int×Int):=
  (if x1 then some (0,1) else (wV m h).bind fun x2=>(if !x2 then some (0,4) else (sT m.aC (Int.tmod h 32) at_ width).bind fun x3=>(if decide (x3 < 0) then some (0,2) else (jZ m.aC.Bytes x3 width).bind fun x4=>some (x4,0))))
def LW(m:Mem)(h at_ width:Int):Option (Int×Int):=
  (D6 m).bind fun x5=>(if !x5 then yH m h at_ width true else (iN width).bind fun x6=>yH m h at_ width (!x6))
def KE(x4:Mem):Option (Mem×Int):=
  some (x4,0)
def DB(m:Mem)(h at_ width n:Int):Option (Mem×Int):=
  (C0 m).bind fun x1=>(wC n width).bind fun x2=>(LW m h at_ width).bind fun x3=>(if x3.2 != 0 then some (x1,x3.2) else (if x2 == ([]) then some (x1,1) else (sT m.aC (Int.tmod h 32) at_ width).bind fun x5=>(rB x1.aC.Bytes x5 x2).bind fun x6=>KE (⟨(⟨x6,x1.aC.Class⟩:aC),x1.aB⟩:Mem)))
def yI(s:aE)(w_ x7:Int)(x8:Mem):Option aE:=
  (if x7 != 0 then (idx s.aM w_).bind fun x9=>(bD x9 x7).bind fun x10=>some ({s with aM:=s.aM.set w_.toNat x10}:aE) else (idx s.aM w_).bind fun x11=>(cO x11 2).bind fun x12=>some ({s with aA:=(⟨x8,s.aA.aD,s.aA.aJ,s.aA.dI⟩:aA),aM:=s.aM.set w_.toNat x12}:aE))
def yJ(w_:Int)(x17:aE):Option aE:=
  (idx x17.aM w_).bind fun x18=>(if x18.Old == 0 then (bD x18 0).bind fun x19=>some ({x17 with aM:=x17.aM.set w_.toNat x19}:aE) else (hO 2 x18.Old).bind fun x20=>(cO ({x18 with Sub:=x20}:bJ) 3).bind fun x21=>some ({x17 with aM:=x17.aM.set w_.toNat x21}:aE))
def yK(s:aE)(w_:Int)(x14:bJ)(x15:Int)(x16:List Int):Option aE:=
  (idx (s.aM.set w_.toNat ({x14 with Old:=x15}:bJ)) w_).bind fun x22=>(cH ({s with Cells:=x16,aM:=s.aM.set w_.toNat ({x14 with Old:=x15}:bJ)}:aE) 2 w_ x22.H x22.Op.fG 0).bind fun x23=>yJ w_ x23
def yL(s:aE)(w_:Int):Option aE:=
  (idx s.aM w_).bind fun x1=>(if x1.Pc == 0 then (iO x1.Sub s.aA w_).bind fun x2=>(if !x2.1.dB then some ({s with aA:=x2.2,aM:=s.aM.set w_.toNat ({x1 with Sub:=x2.1}:bJ)}:aE) else (if x2.1.Code != 0 then (bD ({x1 with Sub:=x2.1}:bJ) x2.1.Code).bind fun x3=>some ({s with aA:=x2.2,aM:=s.aM.set w_.toNat x3}:aE) else (fJ x2.1.Out).bind fun x4=>(if !x4 then (bD ({x1 with Sub:=x2.1}:bJ) 1).bind fun x5=>some ({s with aA:=x2.2,aM:=s.aM.set w_.toNat x5}:aE) else (cO ({x1 with Sub:=x2.1,H:=x2.1.Out}:bJ) 1).bind fun x6=>some ({s with aA:=x2.2,aM:=s.aM.set w_.toNat x6}:aE)))) else (if x1.Pc == 1 then (DB s.aA.Mem x1.H 0 4 x1.Op.fG).bind fun x13=>yI s w_ x13.2 x13.1 else (if x1.Pc == 2 then (idx s.aM w_).bind fun x14=>(idx s.Cells x14.Op.Cell).bind fun x15=>(idx (s.aM.set w_.toNat ({x14 with Old:=x15}:bJ)) w_).bind fun x24=>(idx s.Cells x24.Op.Cell).bind fun x25=>yK s w_ x14 x15 (s.Cells.set x24.Op.Cell.toNat x24.H) else (if x1.Pc == 3 then (iO x1.Sub s.aA w_).bind fun x26=>(if x26.1.dB then (bD ({x1 with Sub:=x26.1}:bJ) x26.1.Code).bind fun x27=>some ({s with aA:=x26.2,aM:=s.aM.set w_.toNat x27}:aE) else some ({s with aA:=x26.2,aM:=s.aM.set w_.toNat ({x1 with Sub:=x26.1}:bJ)}:aE)) else (bD x1 1).bind fun x28=>some ({s with aM:=s.aM.set w_.toNat x28}:aE)))))
def rC(s:aE)(w_:Int):Option aE:=
  (idx s.aM w_).bind fun x1=>(idx s.aM w_).bind fun x2=>(idx s.Cells x2.Op.Cell).bind fun x3=>(cH ({s with aM:=s.aM.set w_.toNat ({x2 with H:=x3}:bJ)}:aE) 3 w_ x3 0 0).bind fun x4=>some x4
def o4(b:aA)(h at_ width:Int)(x1:Bool):Option (Int×Bool):=
  (if x1 then some (0,false) else (sT b.Mem.aC (Int.tmod h 32) at_ width).bind fun x2=>(if decide (x2 < 0) then some (0,false) else (jZ b.Mem.aC.Bytes x2 width).bind fun x3=>some (x3,true)))
def DC(b:aA)(h at_ width:Int):Option (Int×Bool):=
  (fJ h).bind fun x4=>(if !x4 then o4 b h at_ width true else (n9 b.Mem.aC (Int.tmod h 32)).bind fun x5=>(if decide (x5 < 0) then o4 b h at_ width true else (iN width).bind fun x6=>o4 b h at_ width (!x6)))
def jM(s:aE)(w_:Int):Option aE:=
  (idx s.aM w_).bind fun x1=>(DC s.aA x1.H 0 4).bind fun x2=>some ({s with aM:=s.aM.set w_.toNat ({x1 with fG:=x2.1}:bJ)}:aE)
def fY(x1:Bool):Option Bool:=
  some x1
def iH(p:gR):Option Bool:=
  (if p.On then fY (!p.cR) else fY false)
def jS(s:aE)(w_ pc:Int):Option aE:=
  (idx s.aM w_).bind fun x1=>(cO x1 pc).bind fun x2=>(idx s.aA.aD.aQ w_).bind fun x3=>(iH x3).bind fun x4=>(if !x4 then some ({s with aM:=s.aM.set w_.toNat ({x2 with fG:=0,Code:=6}:bJ)}:aE) else some ({s with aM:=s.aM.set w_.toNat x2}:aE))
def uH(w_:Int)(x1:aD)(x2:Bool):Option (aD×Bool):=
  (if x2 then some (x1,false) else (idx x1.aQ w_).bind fun x3=>some ((⟨x1.aG,x1.aQ.set w_.toNat (⟨false,0,false,0⟩:gR)⟩:aD),true))
def I4(c:aD)(w_:Int):Option (aD×Bool):=
  (kQ c).bind fun x1=>(jX c).bind fun x4=>(if !x4 then uH w_ x1 true else (d5 w_).bind fun x5=>(if !x5 then uH w_ x1 true else (idx c.aQ w_).bind fun x6=>uH w_ x1 (!x6.On)))
def o5(b:aA)(w_:Int):Option (Bool×aA):=
  (I4 b.aD w_).bind fun x1=>some (x1.2,({b with aD:=x1.1}:aA))
def yM(s:aE)(w_:Int):Option aE:=
  (idx s.aM w_).bind fun x1=>(if x1.Pc == 0 then (iO x1.Sub s.aA w_).bind fun x2=>(if x2.1.dB then (cO ({x1 with Sub:=x2.1}:bJ) 1).bind fun x3=>some ({s with aA:=x2.2,aM:=s.aM.set w_.toNat x3}:aE) else some ({s with aA:=x2.2,aM:=s.aM.set w_.toNat ({x1 with Sub:=x2.1}:bJ)}:aE)) else (if x1.Pc == 1 then (rC s w_).bind fun x4=>(idx x4.aM w_).bind fun x5=>(cO x5 2).bind fun x6=>(if x6.H == 0 then some ({x4 with aM:=x4.aM.set w_.toNat ({x6 with Pc:=4,Code:=8}:bJ)}:aE) else some ({x4 with aM:=x4.aM.set w_.toNat x6}:aE)) else (if x1.Pc == 2 then (jM s w_).bind fun x7=>(idx x7.aM w_).bind fun x8=>(cO x8 3).bind fun x9=>some ({x7 with aM:=x7.aM.set w_.toNat x9}:aE) else (if x1.Pc == 3 then (jS s w_ 4).bind fun x10=>some x10 else (if x1.Pc == 4 then (o5 s.aA w_).bind fun x11=>(bD x1 x1.Code).bind fun x12=>some ({s with aA:=x11.2,aM:=s.aM.set w_.toNat x12}:aE) else (bD x1 1).bind fun x13=>some ({s with aM:=s.aM.set w_.toNat x13}:aE))))))
def o6(w_ h:Int)(x1:(List Int))(x2:Bool):Option ((List Int)×Bool):=
  (if x2 then some (x1,false) else (idx x1 w_).bind fun x3=>some (x1.set w_.toNat h,true))
def DD(z:List Int)(w_ h:Int):Option ((List Int)×Bool):=
  (fO z).bind fun x1=>(zV z).bind fun x4=>(if !x4 then o6 w_ h x1 true else (d5 w_).bind fun x5=>(if !x5 then o6 w_ h x1 true else (fJ h).bind fun x6=>o6 w_ h x1 (!x6)))
def uI(w_:Int)(x1:(List Int))(x2:Bool):Option ((List Int)×Bool):=
  (if x2 then some (x1,false) else (idx x1 w_).bind fun x3=>some (x1.set w_.toNat 0,true))
def I5(z:List Int)(w_:Int):Option ((List Int)×Bool):=
  (fO z).bind fun x1=>(zV z).bind fun x4=>(if !x4 then uI w_ x1 true else (d5 w_).bind fun x5=>(if !x5 then uI w_ x1 true else (idx z w_).bind fun x6=>uI w_ x1 (x6 == 0)))
def yN(s:aE)(w_:Int)(x7:List Int):Option aE:=
  (idx s.aM w_).bind fun x8=>(cO x8 2).bind fun x9=>some ({s with aA:=(⟨s.aA.Mem,s.aA.aD,s.aA.aJ,x7⟩:aA),aM:=s.aM.set w_.toNat x9}:aE)
def yO(s:aE)(w_:Int)(x11:Bool):Option aE:=
  (if x11 then (idx s.aM w_).bind fun x12=>(cO x12 0).bind fun x13=>some ({s with aM:=s.aM.set w_.toNat x13}:aE) else (idx s.aM w_).bind fun x14=>(cH s 3 w_ x14.H 0 0).bind fun x15=>(idx x15.aM w_).bind fun x16=>(cO x16 3).bind fun x17=>some ({x15 with aM:=x15.aM.set w_.toNat x17}:aE))
def yP(s:aE)(w_:Int):Option aE:=
  (idx s.aM w_).bind fun x1=>(if x1.Pc == 0 then (idx s.aM w_).bind fun x2=>(idx s.Cells x2.Op.Cell).bind fun x3=>(cO ({x2 with H:=x3}:bJ) 1).bind fun x4=>(if x4.H == 0 then (cH ({s with aM:=s.aM.set w_.toNat x4}:aE) 3 w_ 0 0 0).bind fun x5=>(idx x5.aM w_).bind fun x6=>some ({x5 with aM:=x5.aM.set w_.toNat ({x6 with Pc:=4,Code:=8}:bJ)}:aE) else some ({s with aM:=s.aM.set w_.toNat x4}:aE)) else (if x1.Pc == 1 then (DD s.aA.dI w_ x1.H).bind fun x10=>yN s w_ x10.1 else (if x1.Pc == 2 then (idx s.aM w_).bind fun x18=>(idx s.Cells x18.Op.Cell).bind fun x19=>yO s w_ (x19 != x18.H) else (if x1.Pc == 3 then (jM s w_).bind fun x20=>(idx x20.aM w_).bind fun x21=>(cO x21 4).bind fun x22=>some ({x20 with aM:=x20.aM.set w_.toNat x22}:aE) else (if x1.Pc == 4 then (I5 s.aA.dI w_).bind fun x23=>(bD x1 x1.Code).bind fun x24=>some ({s with aA:=(⟨s.aA.Mem,s.aA.aD,s.aA.aJ,x23.1⟩:aA),aM:=s.aM.set w_.toNat x24}:aE) else (bD x1 1).bind fun x25=>some ({s with aM:=s.aM.set w_.toNat x25}:aE))))))
def oG(s:aE)(w_:Int)(x5:Bool):Option aE:=
  (if x5 then (idx s.aM w_).bind fun x6=>(bD x6 6).bind fun x7=>some ({s with aM:=s.aM.set w_.toNat x7}:aE) else (idx s.aM w_).bind fun x8=>(if x8.Pc == 0 then (rC s w_).bind fun x9=>(idx x9.aM w_).bind fun x10=>(cO x10 1).bind fun x11=>(if x11.H == 0 then (bD x11 8).bind fun x12=>some ({x9 with aM:=x9.aM.set w_.toNat x12}:aE) else some ({x9 with aM:=x9.aM.set w_.toNat x11}:aE)) else (if x8.Pc == 1 then (jM s w_).bind fun x13=>(idx x13.aM w_).bind fun x14=>(cO x14 2).bind fun x15=>some ({x13 with aM:=x13.aM.set w_.toNat x15}:aE) else (if x8.Pc == 2 then (jS s w_ 9).bind fun x16=>some x16 else (bD x8 1).bind fun x17=>some ({s with aM:=s.aM.set w_.toNat x17}:aE)))))
def oH(s:aE)(w_:Int)(x1:gR)(x2:Bool):Option aE:=
  (if x2 then (idx s.aM w_).bind fun x3=>(bD x3 5).bind fun x4=>some ({s with aM:=s.aM.set w_.toNat x4}:aE) else (idx s.aM w_).bind fun x18=>(if x18.Pc == 0 then oG s w_ x1.cR else oG s w_ false))
def wE(s:aE)(w_:Int)(x1:gR):Option aE:=
  (idx s.aM w_).bind fun x19=>(if x19.Pc == 0 then oH s w_ x1 (!x1.On) else oH s w_ x1 false)
def vQ(s:aE)(w_:Int):Option aE:=
  (idx s.aM w_).bind fun x20=>(idx s.aA.aD.aQ w_).bind fun x21=>wE s w_ x21
def mL(w_ x3:Int)(x4:aE):Option aE:=
  (idx x4.aM w_).bind fun x5=>(bD x5 x3).bind fun x6=>some ({x4 with aM:=x4.aM.set w_.toNat x6}:aE)
def mM(s:aE)(w_:Int)(x17:Bool):Option aE:=
  (if x17 then (idx s.aM w_).bind fun x18=>(iO x18.Sub s.aA w_).bind fun x19=>(if x19.1.dB then (bD ({x18 with Sub:=x19.1,fG:=x19.1.Out}:bJ) x19.1.Code).bind fun x20=>some ({s with aA:=x19.2,aM:=s.aM.set w_.toNat x20}:aE) else some ({s with aA:=x19.2,aM:=s.aM.set w_.toNat ({x18 with Sub:=x19.1}:bJ)}:aE)) else (idx s.aM w_).bind fun x21=>(bD x21 1).bind fun x22=>some ({s with aM:=s.aM.set w_.toNat x22}:aE))
def mN(s:aE)(w_:Int)(x12:Bool):Option aE:=
  (if x12 then (idx s.aM w_).bind fun x13=>(iO x13.Sub s.aA w_).bind fun x14=>(if x14.1.dB then (hO 4 0).bind fun x15=>(cO ({x13 with Sub:=x15}:bJ) 1).bind fun x16=>some ({s with aA:=x14.2,aM:=s.aM.set w_.toNat x16}:aE) else some ({s with aA:=x14.2,aM:=s.aM.set w_.toNat ({x13 with Sub:=x14.1}:bJ)}:aE)) else (idx s.aM w_).bind fun x23=>(if x23.Op.Kind == 4 then mM s w_ (x23.Pc == 1) else mM s w_ false))
def mO(s:aE)(w_:Int)(x8:Bool):Option aE:=
  (if x8 then (idx s.aM w_).bind fun x9=>(iO x9.Sub s.aA w_).bind fun x10=>(if x10.1.dB then (bD ({x9 with Sub:=x10.1}:bJ) x10.1.Code).bind fun x11=>some ({s with aA:=x10.2,aM:=s.aM.set w_.toNat x11}:aE) else some ({s with aA:=x10.2,aM:=s.aM.set w_.toNat ({x9 with Sub:=x10.1}:bJ)}:aE)) else (idx s.aM w_).bind fun x24=>(if x24.Op.Kind == 4 then mN s w_ (x24.Pc == 0) else mN s w_ false))
def mP(s:aE)(w_:Int)(x2:Bool):Option aE:=
  (if x2 then (o5 s.aA w_).bind fun x7=>(if !x7.1 then mL w_ 5 ({s with aA:=x7.2}:aE) else mL w_ 0 ({s with aA:=x7.2}:aE)) else (idx s.aM w_).bind fun x25=>(if x25.Op.Kind == 5 then mO s w_ (x25.Pc == 0) else mO s w_ false))
def sU(s:aE)(w_:Int):Option aE:=
  (idx s.aM w_).bind fun x1=>(if x1.Op.Kind == 6 then mP s w_ (x1.Pc == 0) else mP s w_ false)
def o7(s:aE)(w_:Int):Option aE:=
  (idx s.aM w_).bind fun x1=>(if !x1.kU then (sN s w_).bind fun x2=>some x2 else (if x1.Pc == 9 then (cH s 4 w_ x1.H x1.fG x1.Code).bind fun x3=>(idx x3.aM w_).bind fun x4=>some ({x3 with aM:=x3.aM.set w_.toNat (⟨false,(⟨0,0,0,0⟩:dN),0,0,(⟨0,0,0,0,0,0,0,0,0,false⟩:Sub),0,0,0,0⟩:bJ)}:aE) else (if x1.Op.Kind == 1 then (yL s w_).bind fun x5=>some x5 else (if x1.Op.Kind == 2 then (yM s w_).bind fun x6=>some x6 else (if x1.Op.Kind == 3 then (yP s w_).bind fun x7=>some x7 else (if x1.Op.Kind == 7 then (vQ s w_).bind fun x8=>some x8 else (sU s w_).bind fun x9=>some x9))))))
def LX(code:List UInt8):Option Bool:=
  some (decide (1048576 < (code.length:Int)))
def Y1(x5:Int):Option (Int×Int):=
  some (0,x5)
def AR(code:List UInt8)(x3 x4:Int)(x6:Bool):Option (Step (Int×Int) Int):=
  (if x6 then (idx code x4).bind fun x7=>some (.next (fC .and .i64 (aZ ((aZ ((aZ (x3 * 131))+(x7.toNat:Int)))+7)) 1073741823,aZ (x4+1))) else some (.stop (x3)))
def N2(code:List UInt8):(Int×Int)→Option (Step (Int×Int) Int)
  | (x3,x4)=>(if decide (x4 < (code.length:Int)) then AR code x3 x4 (decide (x4 < 4000)) else AR code x3 x4 false)
def Y2:Int→Option (Int×Int)
  | x5=>Y1 x5
def I6(code:List UInt8):Option (Int×Int):=
  (loop (N2 code) (aZ (10101+(code.length:Int)),0)).bind (Y2)
def yQ(c:dD)(x1 x2:Int):Option (Int×(Int×Int)):=
  some (x1,(x2,aZ ((aZ (c.h * 6364136223846793005))+1442695040888963407)))
def nS(c:dD):Option (Int×(Int×Int)):=
  (if decide (c.i < (c.b.length:Int)) then (idx c.b c.i).bind fun x3=>yQ c (fC .and .i64 (aZ ((fC .and .i64 (fC .xor .i64 (qE .i64 (aZ ((aZ (c.h * 6364136223846793005))+1442695040888963407)) 33) (qE .i64 (aZ ((aZ (c.h * 6364136223846793005))+1442695040888963407)) 45)) 255)+(x3.toNat:Int))) 255) (aZ (c.i+1)) else yQ c (fC .and .i64 (fC .xor .i64 (qE .i64 (aZ ((aZ (c.h * 6364136223846793005))+1442695040888963407)) 33) (qE .i64 (aZ ((aZ (c.h * 6364136223846793005))+1442695040888963407)) 45)) 255) c.i)
def eN(c:dD)(n:Int):Option (Int×(Int×Int)):=
  (if decide (n≤0) then some (0,(c.i,c.h)) else (if decide (n≤256) then (nS c).bind fun x1=>need (n≠0) (some (Int.tmod x1.1 n,(x1.2.1,x1.2.2))) else (nS c).bind fun x2=>(nS (⟨c.b,x2.2.1,x2.2.2⟩:dD)).bind fun x3=>(nS (⟨c.b,x3.2.1,x3.2.2⟩:dD)).bind fun x4=>(nS (⟨c.b,x4.2.1,x4.2.2⟩:dD)).bind fun x5=>need (n≠0) (some (Int.tmod (aZ ((aZ ((aZ ((aZ (x2.1 * 16777216))+(aZ (x3.1 * 65536))))+(aZ (x4.1 * 256))))+x5.1)) n,(x5.2.1,x5.2.2)))))
def m8(c:dD)(list:List Int):Option (Int×(Int×Int)):=
  (eN c (list.length:Int)).bind fun x1=>(idx list x1.1).bind fun x2=>some (x2,(x1.2.1,x1.2.2))
def LY(c:dD)(n:Int):Option (Bool×(Int×Int)):=
  (eN c n).bind fun x1=>some (x1.1 == 0,(x1.2.1,x1.2.2))
def TJ(x5:List Int):Option aC:=
  some (⟨List.replicate ((384:Int).toNat) 0,x5⟩:aC)
def o8:(Int×(List Int))→Option (Step (Int×(List Int)) (List Int))
  | (x3,x4)=>(if decide (x3 < 6) then need (x4.length+([(-1)]).length≤1073741824) (some (.next (aZ (x3+1),x4++([(-1)])))) else some (.stop (x4)))
def TL:(List Int)→Option aC
  | x5=>TJ x5
def DE:Option aC:=
  need (0≤(384:Int)∧(384:Int)≤4294967296) ((loop (o8) (0,[])).bind (TL))
def HQ:Option aB:=
  some (⟨List.replicate ((3:Int).toNat) (⟨[]⟩:aH),List.replicate ((9:Int).toNat) (⟨[]⟩:aH)⟩:aB)
def GI:Option aB:=
  need (0≤(3:Int)∧(3:Int)≤4294967296)<|need (0≤(9:Int)∧(9:Int)≤4294967296)<|HQ
def LZ:Option Mem:=
  (DE).bind fun x1=>(GI).bind fun x2=>some (⟨x1,x2⟩:Mem)
def GJ:Option aD:=
  need (0≤(3:Int)∧(3:Int)≤4294967296) (some (⟨0,List.replicate ((3:Int).toNat) (⟨false,0,false,0⟩:gR)⟩:aD))
def GK:Option (List aR):=
  need (0≤(3:Int)∧(3:Int)≤4294967296) (some (List.replicate ((3:Int).toNat) (⟨[]⟩:aR)))
def L4:Option (List Int):=
  need (0≤(3:Int)∧(3:Int)≤4294967296) (some (List.replicate ((3:Int).toNat) 0))
def DF:Option aA:=
  (LZ).bind fun x1=>(GJ).bind fun x2=>(GK).bind fun x3=>(L4).bind fun x4=>some (⟨x1,x2,x3,x4⟩:aA)
def AS(x1:Int×(Int×Int))(x4 x5 x6 x7 x8:Int):Option (dN×(Int×Int)):=
  some ((⟨x1.1,x4,x7,x8⟩:dN),(x5,x6))
def AT(c:dD)(x1:Int×(Int×Int))(x4 x10 x11 x12:Int):Option (dN×(Int×Int)):=
  (eN (⟨c.b,x10,x11⟩:dD) 60000).bind fun x13=>AS x1 x4 x13.2.1 x13.2.2 x12 x13.1
def uJ(c:dD)(x1:Int×(Int×Int))(x2 x3 x4:Int):Option (dN×(Int×Int)):=
  (if x1.1 == 1 then (eN (⟨c.b,x2,x3⟩:dD) 40).bind fun x9=>(LY (⟨c.b,x9.2.1,x9.2.2⟩:dD) 12).bind fun x14=>(if x14.1 then (m8 (⟨c.b,x14.2.1,x14.2.2⟩:dD) ([0,41,100]:List Int)).bind fun x15=>AT c x1 x4 x15.2.1 x15.2.2 x15.1 else AT c x1 x4 x14.2.1 x14.2.2 (aZ (1+x9.1))) else AS x1 x4 x2 x3 0 0)
def I7(c:dD):Option (dN×(Int×Int)):=
  (m8 c ([1,1,1,2,2,3,3,4,4,5,6,7,7]:List Int)).bind fun x1=>(qO x1.1).bind fun x16=>(if x16 then (m8 (⟨c.b,x1.2.1,x1.2.2⟩:dD) ([0,0,0,1]:List Int)).bind fun x17=>uJ c x1 x17.2.1 x17.2.2 x17.1 else uJ c x1 x1.2.1 x1.2.2 0)
def P0(x9:List Queue)(x10 x11:Int):Option ((List Queue)×(Int×Int)):=
  some (x9,(x10,x11))
def FK(x5:List Queue)(x6 x21 x22:Int)(x23:List dN):Option (Step ((List Queue)×Int×Int×Int) ((List Queue)×Int×Int)):=
  need (x5.length+([(⟨x23⟩:Queue)]).length≤1073741824) (some (.next (x5++([(⟨x23⟩:Queue)]),aZ (x6+1),x21,x22)))
def yR(x17 x24 x25:Int)(x26:List dN):Option (Step (Int×Int×Int×(List dN)) (Int×Int×(List dN))):=
  some (.next (aZ (x17 - 1),x24,x25,x26))
def FL(c:dD):(Int×Int×Int×(List dN))→Option (Step (Int×Int×Int×(List dN)) (Int×Int×(List dN)))
  | (x17,x18,x19,x20)=>(if decide (0 < x17) then (I7 (⟨c.b,x18,x19⟩:dD)).bind fun x27=>need (x20.length+([x27.1]).length≤1073741824)<|yR x17 x27.2.1 x27.2.2 (x20++([x27.1])) else some (.stop ((x18,x19,x20))))
def FM(x5:List Queue)(x6:Int):(Int×Int×(List dN))→Option (Step ((List Queue)×Int×Int×Int) ((List Queue)×Int×Int))
  | (x21,x22,x23)=>FK x5 x6 x21 x22 x23
def FN(c:dD)(most:Int):((List Queue)×Int×Int×Int)→Option (Step ((List Queue)×Int×Int×Int) ((List Queue)×Int×Int))
  | (x5,x6,x7,x8)=>(if decide (x6 < 3) then (eN (⟨c.b,x7,x8⟩:dD) (aZ (most+1))).bind fun x12=>(loop (FL c) (x12.1,x12.2.1,x12.2.2,[])).bind (FM x5 x6) else some (.stop ((x5,x7,x8))))
def P1:((List Queue)×Int×Int)→Option ((List Queue)×(Int×Int))
  | (x9,x10,x11)=>P0 x9 x10 x11
def rD(c:dD)(most:Int):Option ((List Queue)×(Int×Int)):=
  (loop (FN c most) (([]:List Queue),0,c.i,c.h)).bind (P1)
def HR(x2:aE):Option aE:=
  some ({x2 with Log:=[]}:aE)
def AU(todo:List Queue):Option aE:=
  (w8 todo).bind fun x1=>(if !x1 then some (⟨(⟨(⟨(⟨[],[]⟩:aC),(⟨[],[]⟩:aB)⟩:Mem),(⟨0,[]⟩:aD),[],[]⟩:aA),[],[],[],[],0⟩:aE) else (DF).bind fun x3=>need (0≤(2:Int)∧(2:Int)≤4294967296)<|need (0≤(3:Int)∧(3:Int)≤4294967296)<|(xA todo).bind fun x4=>HR (⟨x3,List.replicate ((2:Int).toNat) 0,List.replicate ((3:Int).toNat) (⟨false,(⟨0,0,0,0⟩:dN),0,0,(⟨0,0,0,0,0,0,0,0,0,false⟩:Sub),0,0,0,0⟩:bJ),x4,[],0⟩:aE))
def RO(x10:List Int)(x11 x12:Int):Option ((List Int)×(Int×Int)):=
  some (x10,(x11,x12))
def HT(x7:Int)(x14:Int×(Int×Int))(x19:List Int):Option (Step ((List Int)×Int×Int×Int) ((List Int)×Int×Int)):=
  some (.next (x19,aZ (x7 - 1),x14.2.1,x14.2.2))
def HU(x13:Int×(Int×Int)):((List Int)×Int)→Option (Step ((List Int)×Int) (List Int))
  | (x17,x18)=>(if decide (0 < x18) then need (x17.length+([x13.1]).length≤1073741824) (some (.next (x17++([x13.1]),aZ (x18 - 1)))) else some (.stop (x17)))
def HV(x7:Int)(x14:Int×(Int×Int)):(List Int)→Option (Step ((List Int)×Int×Int×Int) ((List Int)×Int×Int))
  | x19=>HT x7 x14 x19
def HW(c:dD):((List Int)×Int×Int×Int)→Option (Step ((List Int)×Int×Int×Int) ((List Int)×Int×Int))
  | (x6,x7,x8,x9)=>(if decide (0 < x7) then (eN (⟨c.b,x8,x9⟩:dD) 3).bind fun x13=>(eN (⟨c.b,x13.2.1,x13.2.2⟩:dD) 4).bind fun x14=>(loop (HU x13) (x6,aZ (1+x14.1))).bind (HV x7 x14) else some (.stop ((x6,x8,x9))))
def RP:((List Int)×Int×Int)→Option ((List Int)×(Int×Int))
  | (x10,x11,x12)=>RO x10 x11 x12
def AV(c:dD)(most:Int):Option ((List Int)×(Int×Int)):=
  (eN c most).bind fun x1=>(loop (HW c) (([]:List Int),x1.1,x1.2.1,x1.2.2)).bind (RP)
def iI(x2:List Queue)(x3 x4:Int):Option ((List Queue)×(Int×Int)):=
  some (x2,(x3,x4))
def wF(x6:List Queue)(x7 x8:Int):Option ((List Queue)×(Int×Int)):=
  iI x6 x7 x8
def OW(x17:List Queue)(x18 x19:Int):Option ((List Queue)×(Int×Int)):=
  iI x17 x18 x19
def wG(x14:List Queue)(x20:Bool)(x21 x22:Int):Option (Step ((List Queue)×Int×Int) ((List Queue)×Int×Int)):=
  (if x20 then (idx x14 1).bind fun x23=>need (x23.gO.length+([(⟨4,0,0,0⟩:dN)]).length≤1073741824) (some (.next (x14.set ((1:Int).toNat) (⟨x23.gO++([(⟨4,0,0,0⟩:dN)])⟩:Queue),x21,x22))) else some (.stop ((x14,x21,x22))))
def D9(c:dD):((List Queue)×Int×Int)→Option (Step ((List Queue)×Int×Int) ((List Queue)×Int×Int))
  | (x14,x15,x16)=>(idx x14 1).bind fun x24=>(eN (⟨c.b,x15,x16⟩:dD) 2).bind fun x25=>wG x14 (decide ((x24.gO.length:Int) < (aZ (12+x25.1)))) x25.2.1 x25.2.2
def OX:((List Queue)×Int×Int)→Option ((List Queue)×(Int×Int))
  | (x17,x18,x19)=>OW x17 x18 x19
def vR(c:dD):Option ((List Queue)×(Int×Int)):=
  (rD c 7).bind fun x1=>(eN (⟨c.b,x1.2.1,x1.2.2⟩:dD) 20).bind fun x5=>(if x5.1 == 0 then need (0≤(2:Int)∧(2:Int)≤(x1.1.length:Int)) (some ((x1.1.take ((2:Int).toNat)).drop 0,(x5.2.1,x5.2.2))) else (if x5.1 == 1 then (idx x1.1 0).bind fun x9=>(m8 (⟨c.b,x5.2.1,x5.2.2⟩:dD) ([0,8]:List Int)).bind fun x10=>need (x9.gO.length+([(⟨x10.1,0,0,0⟩:dN)]).length≤1073741824)<|wF (x1.1.set ((0:Int).toNat) (⟨x9.gO++([(⟨x10.1,0,0,0⟩:dN)])⟩:Queue)) x10.2.1 x10.2.2 else (if x5.1 == 2 then (loop (D9 c) (x1.1,x5.2.1,x5.2.2)).bind (OX) else (if x5.1 == 3 then (idx x1.1 2).bind fun x26=>need (x26.gO.length+([(⟨2,2,0,0⟩:dN)]).length≤1073741824) (iI (x1.1.set ((2:Int).toNat) (⟨x26.gO++([(⟨2,2,0,0⟩:dN)])⟩:Queue)) x5.2.1 x5.2.2) else iI x1.1 x5.2.1 x5.2.2))))
def iF(x4:List Queue)(x5:List Int):Option BY:=
  some (⟨x4,x5⟩:BY)
def kT(code:List UInt8):Option BY:=
  (I6 code).bind fun x1=>(rD (⟨code,x1.1,x1.2⟩:dD) 8).bind fun x2=>(AV (⟨code,x2.2.1,x2.2.2⟩:dD) 90).bind fun x3=>(eN (⟨code,x3.2.1,x3.2.2⟩:dD) 16).bind fun x6=>(if x6.1 == 0 then (vR (⟨code,x6.2.1,x6.2.2⟩:dD)).bind fun x7=>iF x7.1 x3.1 else (if x6.1 == 1 then need (x3.1.length+([(-1),3,1]:List Int).length≤1073741824) (iF x2.1 (x3.1++([(-1),3,1]:List Int))) else iF x2.1 x3.1))
def EA(x:BY):Option Bool:=
  (AU x.bL).bind fun x1=>some ((x1.aM.length:Int) == 3)
def L5(x7:List Int):Option (List Int):=
  some x7
def iU:((List Int)×Int)→Option (Step ((List Int)×Int) (List Int))
  | (x5,x6)=>(if decide (x6 < (x5.length:Int)) then need (0≤(x6:Int)∧(x6:Int)≤(x5.length:Int)) (need (0≤(x6:Int)∧(x6:Int)≤(x5.length:Int)) (some (.next (cX x5 x6.toNat ((x5.take x6.toNat).drop 0),aZ (x6+((min ((x5.take x6.toNat).drop 0).length (x5.length - x6.toNat):Nat):Int)))))) else some (.stop (x5)))
def L6:(List Int)→Option (List Int)
  | x7=>L5 x7
def l6(x:List Int)(x1:Int×Int)(x2:Bool):Option (List Int):=
  (if x2 then none else need (0≤(IntKind.i64.wrap x1.2:Int)∧(IntKind.i64.wrap x1.2:Int)≤4294967296) ((loop (iU) (cX (List.replicate ((IntKind.i64.wrap x1.2).toNat) 0) 0 x,((min x.length ((List.replicate ((IntKind.i64.wrap x1.2).toNat) 0:List Int).length - 0):Nat):Int))).bind (L6)))
def p5(x:List Int)(count:Int):Option (List Int):=
  (if decide (count < 0) then none else (GB (IntKind.u64.wrap (x.length:Int)) (IntKind.u64.wrap count)).bind fun x1=>(if decide (0 < x1.1) then l6 x x1 true else l6 x x1 (decide (9223372036854775807 < x1.2))))
def KF(x1:List Int):Option aC:=
  some (⟨List.replicate ((384:Int).toNat) 0,x1⟩:aC)
def DG:Option aC:=
  need (0≤(384:Int)∧(384:Int)≤4294967296)<|(p5 ([(-1)]) 6).bind fun x2=>KF x2
def HX:Option aB:=
  some (⟨List.replicate ((3:Int).toNat) (⟨[]⟩:aH),List.replicate ((9:Int).toNat) (⟨[]⟩:aH)⟩:aB)
def GL:Option aB:=
  need (0≤(3:Int)∧(3:Int)≤4294967296)<|need (0≤(9:Int)∧(9:Int)≤4294967296)<|HX
def L7:Option Mem:=
  (DG).bind fun x1=>(GL).bind fun x2=>some (⟨x1,x2⟩:Mem)
def GM:Option aD:=
  need (0≤(3:Int)∧(3:Int)≤4294967296) (some (⟨0,List.replicate ((3:Int).toNat) (⟨false,0,false,0⟩:gR)⟩:aD))
def GN:Option (List aR):=
  need (0≤(3:Int)∧(3:Int)≤4294967296) (some (List.replicate ((3:Int).toNat) (⟨[]⟩:aR)))
def L8:Option (List Int):=
  need (0≤(3:Int)∧(3:Int)≤4294967296) (some (List.replicate ((3:Int).toNat) 0))
def DH:Option aA:=
  (L7).bind fun x1=>(GM).bind fun x2=>(GN).bind fun x3=>(L8).bind fun x4=>some (⟨x1,x2,x3,x4⟩:aA)
def HY(x2:aE):Option aE:=
  some ({x2 with Log:=[]}:aE)
def AW(todo:List Queue):Option aE:=
  (BK todo).bind fun x1=>(if !x1 then some (⟨(⟨(⟨(⟨[],[]⟩:aC),(⟨[],[]⟩:aB)⟩:Mem),(⟨0,[]⟩:aD),[],[]⟩:aA),[],[],[],[],0⟩:aE) else (DH).bind fun x3=>need (0≤(2:Int)∧(2:Int)≤4294967296)<|need (0≤(3:Int)∧(3:Int)≤4294967296)<|(AF todo).bind fun x4=>HY (⟨x3,List.replicate ((2:Int).toNat) 0,List.replicate ((3:Int).toNat) (⟨false,(⟨0,0,0,0⟩:dN),0,0,(⟨0,0,0,0,0,0,0,0,0,false⟩:Sub),0,0,0,0⟩:bJ),x4,[],0⟩:aE))
def P2(x6:aE):Option aE:=
  some x6
def p7(x4:Int)(x7:aE):Option (Step (Int×aE) aE):=
  some (.next (aZ (x4+1),x7))
def FO(x:BY):(Int×aE)→Option (Step (Int×aE) aE)
  | (x4,x5)=>(if decide (x4 < (((x.p8.take ((if 400 < (x.p8.length:Int) then 400 else (x.p8.length:Int)).toNat)).drop 0).length:Int)) then (idx ((x.p8.take ((if 400 < (x.p8.length:Int) then 400 else (x.p8.length:Int)).toNat)).drop 0) x4).bind fun x8=>(d5 x8).bind fun x9=>(if x9 then (o7 x5 x8).bind fun x10=>p7 x4 x10 else p7 x4 x5) else some (.stop (x5)))
def P3:aE→Option aE
  | x6=>P2 x6
def rE(x:BY):Option aE:=
  (AW x.bL).bind fun x1=>(if (x1.aM.length:Int) == 0 then some x1 else need (0≤(if 400 < (x.p8.length:Int) then 400 else (x.p8.length:Int):Int)∧(if 400 < (x.p8.length:Int) then 400 else (x.p8.length:Int):Int)≤(x.p8.length:Int)) ((loop (FO x) (0,x1)).bind (P3)))
def RQ:Option Bool:=
  some true
def m9(a_ b:List Int):Int→Option (Step Int (Out Unit Bool))
  | x2=>(if decide (x2 < (a_.length:Int)) then (idx a_ x2).bind fun x3=>(idx b x2).bind fun x4=>(if x3 != x4 then some (.stop (Out.ret false)) else some (.next (aZ (x2+1)))) else some (.stop (Out.brk ())))
def RR:(Out Unit Bool)→Option Bool
  | .brk ()=>RQ
  | .ret r=>some r
def uK(a_ b:List Int):Option Bool:=
  (if (a_.length:Int) != (b.length:Int) then some false else (loop (m9 a_ b) 0).bind (RR))
end
end Go.Gv
end
noncomputable section
set_option linter.unusedVariables false
set_option maxHeartbeats 4000000
set_option maxRecDepth 100000
namespace Go.Proofs.YtbdmodalljibjaaGreat
open Go.Gv
theorem aU:PC Tryz.prog 3 1 (.int .i64 0):=DU (b:=8) (by kernel_rfl) rfl
theorem rF:PC Tryz.prog 105 2 (.agg #[.int .i64 0,.int .i64 0]):=DU (b:=16) (by kernel_rfl) rfl
theorem dA:PC Tryz.prog 162 1 (.agg #[.slice none 0 0]):=DU (b:=24) (by kernel_rfl) rfl
theorem FP:PC Tryz.prog 175 4 (.agg #[.bool false,.int .i64 0,.bool false,.int .i64 0]):=DU (b:=32) (by kernel_rfl) rfl
theorem BN:PC Tryz.prog 103 1 (.agg #[.slice none 0 0]):=DU (b:=24) (by kernel_rfl) rfl
theorem oJ:PC Tryz.prog 77 1 (.agg #[.slice none 0 0]):=DU (b:=24) (by kernel_rfl) rfl
theorem dP:PC Tryz.prog 70 4 (.agg #[.int .i64 0,.int .i64 0,.int .i64 0,.int .i64 0]):=DU (b:=32) (by kernel_rfl) rfl
theorem eW:PC Tryz.prog 74 21 (.agg #[.bool false,.int .i64 0,.int .i64 0,.int .i64 0,.int .i64 0,.int .i64 0,.int .i64 0,.int .i64 0,.int .i64 0,.int .i64 0,.int .i64 0,.int .i64 0,.int .i64 0,.int .i64 0,.int .i64 0,.int .i64 0,.bool false,.int .i64 0,.int .i64 0,.int .i64 0,.int .i64 0]):=DU (b:=168) (by kernel_rfl) rfl
theorem I8:PC Tryz.prog 79 7 (.agg #[.int .i64 0,.int .i64 0,.int .i64 0,.int .i64 0,.int .i64 0,.int .i64 0,.int .i64 0]):=DU (b:=56) (by kernel_rfl) rfl
theorem aIT:PC Tryz.prog 5 1 (.int .u8 0):=DU (b:=1) (by kernel_rfl) rfl
theorem aF1:PC Tryz.prog 43 1 (.slice none 0 0):=DU (b:=24) (by kernel_rfl) rfl
theorem aL:Tryz.prog.follows .mixedOrders=true:=by kernel_rfl
theorem SK(D:Nat)(d d':gR)(w:World):(Op.eqFields (D+2) #[.bool (d.On),.int .i64 (d.aG),.bool (d.cR),.int .i64 (d.Seen)] #[.bool (d'.On),.int .i64 (d'.aG),.bool (d'.cR),.int .i64 (d'.Seen)] (match Tryz.prog.underlying 175 with | some (.struct fs)=>fs | _=>#[]).toList).run Tryz.prog w=.ok (decide (d=d')) w:=by
  rw [Tryz.underlying175]
  have h:(d.On == d'.On && (d.aG == d'.aG && (d.cR == d'.cR && (d.Seen == d'.Seen && true))))=decide (d=d'):=by
    cases d;cases d';rw [Bool.eq_iff_iff];simp
  rw [←h]
  exact eD _ _ _ _ _ rfl (eT Tryz.isAgg4 rfl) (eT Tryz.isAgg4 rfl) (UR Tryz.underlying4)<|
    eD _ _ _ _ _ rfl (eT Tryz.isAgg3 rfl) (eT Tryz.isAgg3 rfl) (l8 Tryz.underlying3)<|
    eD _ _ _ _ _ rfl (eT Tryz.isAgg4 rfl) (eT Tryz.isAgg4 rfl) (UR Tryz.underlying4)<|
    eD _ _ _ _ _ rfl (eT Tryz.isAgg3 rfl) (eT Tryz.isAgg3 rfl) (l8 Tryz.underlying3)<|
    UQ _ _ _
set_option maxRecDepth 100000 in
theorem HZ{w0:World}{n:Int}(hn:0≤n∧n≤1073741824) :
    Calls Tryz.prog 337 #[.slice none 0 0,.int .i64 n] w0 (Ret fun v w'=>∃s0_0:Value,v=s0_0∧St (cD w0) w' [eV [s0_0] ([]:List Raw)] []):=by
  have hS:St (cD w0) w0 [] []:=St.enter (by intro f hf;cases hf)
  have hw:aZ (n - aZ (0 - 0))=n:=by
    rw [DW (x:=0 - 0) (by omega),DW (by omega)];omega
  refine aJW (args:=[_,_]) Tryz.func337 rfl Tryz.ntmps337 rfl ?_
  intro a hA
  refine bH ?_
  refine bZ hA ?_
  clear hA
  refine eC (zO rfl rfl) (bN rfl) rfl rfl ?_
  refine bB ?_
  intro a hA
  refine bH ?_
  refine bH ?_
  refine bZ hA ?_
  clear hA
  refine eC (lU rfl rfl) (bN rfl) rfl rfl ?_
  refine eC (BX rfl rfl rfl) (bN rfl) rfl rfl ?_
  refine bB ?_
  intro a hA
  refine jT hA rfl (fun hc=>?_) (fun hc=>?_)
  · exfalso;simp at hc;omega
  refine mC ?_
  refine bH ?_
  refine bH ?_
  refine bZ hA ?_
  clear hA
  refine eC (lU rfl rfl) (bN rfl) rfl rfl ?_
  refine eC (lU rfl rfl) (bN rfl) rfl rfl ?_
  refine eC (Z6 Tryz.underlying43 rfl rfl) (bN rfl) rfl rfl ?_
  refine eC (lU rfl rfl) (bN rfl) rfl rfl ?_
  refine eC (mD (aJ0 (α:=Raw) (S:=F0)) Tryz.underlying43 rfl rfl) (bN rfl) rfl rfl ?_
  refine eC (aE9 rfl rfl rfl) (bN rfl) rfl rfl ?_
  refine eC (aE9 rfl rfl rfl) (bN rfl) rfl rfl ?_
  refine eC (zO rfl rfl) (bN rfl) rfl rfl ?_
  refine bB ?_
  intro a hA
  refine bH ?_
  refine bZ hA ?_
  clear hA
  refine eC (lU rfl rfl) (bN rfl) rfl rfl ?_
  refine eC (aFC rfl rfl rfl) (bN rfl) rfl rfl ?_
  refine bB ?_
  intro a hA
  refine jT hA rfl (fun hc=>?_) (fun hc=>?_)
  · have hn1:0 < n:=by
      have h2:decide (0 < aZ (n - aZ (0 - 0)))=true:=hc
      rw [hw] at h2;simpa using h2
    refine bZ hA ?_
    clear hA
    refine eC (lU rfl rfl) (bN rfl) rfl rfl ?_
    refine eC (lU rfl rfl) (bN rfl) rfl rfl ?_
    refine eC (Z6 Tryz.underlying43 rfl rfl) (bN rfl) rfl rfl ?_
    refine eC (aG6 (s:=.slice none 0 0) ⟨_,_,_,rfl⟩ Tryz.underlying43 Tryz.sizeOf162 rfl rfl rfl) (bN rfl) rfl rfl ?_
    refine eC (lU rfl rfl) (bN rfl) rfl rfl ?_
    refine FZ (aN6 (i:=aZ (n - aZ (0 - 0))) hS Tryz.underlying43 Tryz.underlying3 dA rfl rfl (by rw [hw];omega) rfl rfl rfl) (bN rfl) rfl rfl ?_
    clear hS
    intro s w hS
    refine eC (lU rfl rfl) (bN rfl) rfl rfl ?_
    refine eC (mD (aJ0 (α:=Raw) (S:=F0)) Tryz.underlying43 rfl rfl) (bN rfl) rfl rfl ?_
    refine eC (aG6 (hS.aKJ 0 rfl) Tryz.underlying43 Tryz.sizeOf162 rfl rfl rfl) (bN rfl) rfl rfl ?_
    refine eC (zO rfl rfl) (bN rfl) rfl rfl ?_
    refine bB ?_
    intro a hA
    replace hS:=hS.aQW (α:=Raw) 0 rfl rfl
    refine bH ?_
    refine bZ hA ?_
    clear hA
    refine eC (lU rfl rfl) (bN rfl) rfl rfl ?_
    refine eC (zO rfl rfl) (bN rfl) rfl rfl ?_
    refine bB ?_
    intro a hA
    refine v5 ?_
    exact aNU Tryz.results337 hA (UP rfl) ⟨_,rfl,(hS.IL [0] rfl).weaken (R':=[]) (fun _ h=>nomatch h)⟩
  · refine mC ?_
    replace hS:=hS.aQP (α:=Raw)
    refine bH ?_
    refine bZ hA ?_
    clear hA
    refine eC (lU rfl rfl) (bN rfl) rfl rfl ?_
    refine eC (zO rfl rfl) (bN rfl) rfl rfl ?_
    refine bB ?_
    intro a hA
    refine v5 ?_
    exact aNU Tryz.results337 hA (UP rfl) ⟨_,rfl,(hS.IL [0] rfl).weaken (R':=[]) (fun _ h=>nomatch h)⟩
theorem K2{w0:World}{slices:List (List Raw)}{s1:Value}{r:(List Raw)}(h1:aI.rd (KZ w0) w0 [s1] (slices:List (List Raw)))(hF:mF slices=some r) :
    Calls Tryz.prog 221 #[s1] w0 (Ret fun v w'=>∃(s0_0:Value),v=s0_0∧St (cD w0) w' [eV [s0_0] (r:List Raw)] []):=by
 have hS:St (cD w0) w0 [] [wY [s1] (slices:List (List Raw))]:=St.enter (by
   intro f hf
   simp only [List.mem_cons,List.not_mem_nil,or_false] at hf
   subst hf;exact h1)
 refine wM (args:=[_]) Tryz.func221 rfl Tryz.ntmps221 rfl ?_
 unfold mF at hF
 intro a hA
 refine bH<|bZ hA ?_
 clear hA
 refine oa rfl rfl<|bB fun a hA=>bH<|bZ hA ?_
 clear hA
 refine oa rfl rfl<|bB fun a hA=>bH<|bH<|bZ hA ?_
 clear hA
 refine om rfl rfl<|oy (mD (hS.rd 0 rfl) Tryz.underlying313 rfl rfl) rfl<|om rfl rfl<|bB fun a hA=>?_
 obtain⟨o1,hl1,hF⟩:=pW hF
 refine zP (J:=fun a' w'=>∃(x5:Int),o1=x5∧jO 36 [(0,s1),(3,.int .i64 (x5))] a'∧St (cD w0) w' [] [wY [s1] (slices:List (List Raw))]) ?_ ?_
 ·refine jP ?_
  refine E2 (body:=eM slices) (r:=o1) (fun sg a' w'=>jO 36 [(0,s1),(3,.int .i64 (sg.1)),(9,s1),(10,.int .i64 ((slices.length:Int))),(11,.int .i64 (sg.2))] a'∧St (cD w0) w' [] [wY [s1] (slices:List (List Raw))]) ?_ hl1 ⟨hA.part ⟨rfl,rfl,rfl,rfl,rfl,trivial⟩,((hS).IL [] rfl).rV [0] rfl⟩
  clear hA hS hl1
  rintro⟨x3,x4⟩ a w q1 ⟨hA,hS⟩ hG1 hr1
  try dsimp only at hA hS
  unfold eM at hG1
  refine bH<|bZ hA ?_
  clear hA
  refine oy (BX rfl rfl rfl) rfl<|bB fun a hA=>bH<|jT hA rfl (fun hc2=>?_) (fun hc2=>?_)
  ·replace hG1:=HE hc2 hG1
   refine mC<|bH<|jP<|bH<|bZ hA ?_
   clear hA
   obtain⟨x12,hx12,hG1⟩:=pW hG1
   refine oy (LB (m:=1) (hS.rd 0 rfl) rfl hx12 Tryz.underlying313 Tryz.sizeOf43 rfl rfl rfl) rfl ?_
   obtain⟨s8,hel,hS⟩:=hS.aC5 0 rfl (iP hx12).2.2
   refine oy (gP rfl rfl Tryz.isAgg43 (aJZ hel)) rfl<|oa rfl rfl<|bB fun a hA=>bH<|bZ hA ?_
   clear hA
   refine om rfl rfl<|om rfl rfl<|oy (mD (hS.rd 1 rfl) Tryz.underlying43 rfl rfl) rfl<|oy (F5 rfl rfl rfl) rfl<|oa rfl rfl<|bB fun a hA=>bH<|bZ hA ?_
   clear hA
   refine om rfl rfl<|oy (BX rfl rfl rfl) rfl<|bB fun a hA=>jT hA rfl (fun hc3=>?_) (fun hc3=>?_)
   ·replace hG1:=HE hc3 hG1
    refine bZ hA ?_
    clear hA
    cases hG1
   ·replace hG1:=HF hc3 hG1
    refine mC<|bZ hA ?_
    clear hA
    refine oy (F5 rfl rfl rfl) rfl<|om rfl rfl<|bB fun a hA=>?_
    cases hG1
    exact⟨_,rfl,⟨hA.part ⟨rfl,rfl,rfl,rfl,rfl,trivial⟩,((hS).IL [] rfl).rV [0] rfl⟩⟩
  ·replace hG1:=HF hc2 hG1
   refine E1<|zN ?_
   cases hG1
   have ho:=hr1 _ rfl;subst ho
   exact⟨x3,rfl,hA.part ⟨rfl,rfl,trivial⟩,((hS).IL [] rfl).rV [0] rfl⟩
 ·skip
  clear hA hS hl1
  rintro a w ⟨x5,heq,hA,hS⟩
  replace hF:jY slices x5=some r:=by rw [heq] at hF;exact hF
  clear heq
  unfold jY at hF
  refine bH<|bZ hA ?_
  clear hA
  refine om rfl rfl ?_
  obtain⟨hn1,hF⟩:=iQ hF
  refine SD (E5 Tryz.call337 rfl rfl) (bN rfl) rfl rfl (HZ hn1) ?_
  rintro s2 w ⟨_,rfl,hk⟩
  replace hS:=hS.after hk;clear hk
  refine oa rfl rfl<|bB fun a hA=>bH<|bH<|bZ hA ?_
  clear hA
  refine om rfl rfl<|oy (mD (hS.rd 0 rfl) Tryz.underlying313 rfl rfl) rfl<|om rfl rfl<|bB fun a hA=>?_
  obtain⟨o2,hl2,hF⟩:=pW hF
  refine zP (J:=fun a' w'=>∃(x10:List Raw) (s5:Value),o2=x10∧jO 36 [(6,s5)] a'∧St (cD w0) w' [eV [s5] (x10:List Raw)] []) ?_ ?_
  ·refine jP ?_
   refine E2 (body:=fP slices) (r:=o2) (fun sg a' w'=>∃(s4:Value),jO 36 [(6,s4),(25,s1),(26,.int .i64 ((slices.length:Int))),(27,.int .i64 (sg.2))] a'∧St (cD w0) w' [eV [s4] (sg.1:List Raw)] [wY [s1] (slices:List (List Raw))]) ?_ hl2 ⟨s2,hA.part ⟨rfl,rfl,rfl,rfl,trivial⟩,((hS).IL [0] rfl).rV [0] rfl⟩
   clear hA hS hl2
   rintro⟨x8,x9⟩ a w q2 ⟨s4,hA,hS⟩ hG2 hr2
   try dsimp only at hA hS
   unfold fP at hG2
   refine bH<|bZ hA ?_
   clear hA
   refine oy (BX rfl rfl rfl) rfl<|bB fun a hA=>bH<|jT hA rfl (fun hc1=>?_) (fun hc1=>?_)
   ·replace hG2:=HE hc1 hG2
    refine mC<|bH<|jP<|bH<|bZ hA ?_
    clear hA
    obtain⟨x11,hx11,hG2⟩:=pW hG2
    refine oy (LB (m:=1) (hS.rd 0 rfl) rfl hx11 Tryz.underlying313 Tryz.sizeOf43 rfl rfl rfl) rfl ?_
    obtain⟨s6,hel,hS⟩:=hS.aC5 0 rfl (iP hx11).2.2
    refine oy (gP rfl rfl Tryz.isAgg43 (aJZ hel)) rfl<|oa rfl rfl<|bB fun a hA=>bZ hA ?_
    clear hA
    refine om rfl rfl<|om rfl rfl ?_
    obtain⟨hn2,hG2⟩:=iQ hG2
    refine FZ (Z2 (α:=Raw) 0 hS rfl (hS.rd 1 rfl) rfl Tryz.underlying43 dA rfl hn2 rfl rfl rfl) (bN rfl) rfl rfl ?_
    clear hS
    rintro s7 w hS
    refine oa rfl rfl<|bB fun a hA=>bZ hA ?_
    clear hA
    refine oy (F5 rfl rfl rfl) rfl<|om rfl rfl<|bB fun a hA=>?_
    cases hG2
    exact⟨_,rfl,⟨s7,hA.part ⟨rfl,rfl,rfl,rfl,trivial⟩,((hS).IL [0] rfl).rV [0] rfl⟩⟩
   ·replace hG2:=HF hc1 hG2
    refine E1<|zN ?_
    cases hG2
    have ho:=hr2 _ rfl;subst ho
    exact⟨x8,s4,rfl,hA.part ⟨rfl,trivial⟩,((hS).IL [0] rfl).rV [] rfl⟩
  ·skip
   clear hA hS hl2
   rintro a w ⟨x10,s5,heq,hA,hS⟩
   replace hF:nZ x10=some r:=by rw [heq] at hF;exact hF
   clear heq
   unfold nZ at hF
   refine bH<|bZ hA ?_
   clear hA
   refine om rfl rfl<|oa rfl rfl<|bB fun a hA=>v5 ?_
   cases hF
   exact aNU Tryz.results221 hA (UP rfl) ⟨s5,rfl,(hS.IL [0] rfl).weaken (R':=[]) (fun _ h=>nomatch h)⟩
theorem GO{w0:World}{n:Int}{low:Int}{high:Int}{r:Bool}(hF:b7 n low high=some r) :
    Calls Tryz.prog 107 #[.int .i64 (n),.int .i64 (low),.int .i64 (high)] w0 (Ret fun v w'=>v=.bool (r)∧St (cD w0) w' [] []):=by
 have hS:St (cD w0) w0 [] []:=St.enter (by
   intro f hf;cases hf)
 refine wM (args:=[_,_,_]) Tryz.func107 rfl Tryz.ntmps107 rfl ?_
 unfold b7 at hF
 intro a hA
 refine bH<|bZ hA ?_
 clear hA
 refine oa rfl rfl<|bB fun a hA=>bH<|zP (J:=fun a' w'=>∃(x1:Bool),mY x1=some r∧jO 15 [(6,.bool (x1))] a'∧St (cD w0) w' [] []) ?_ ?_
 ·skip
  refine bZ hA ?_
  clear hA
  refine om rfl rfl<|om rfl rfl<|oy (aJS rfl rfl rfl) rfl<|om rfl rfl<|DS (s:=10) rfl (fun hc1=>?_) (fun hc1=>?_)
  ·replace hF:=HE hc1 hF
   refine eC (lU rfl rfl) (bV rfl rfl rfl (by rw [hc1];rfl)) rfl rfl ?_
   refine eC (lU rfl rfl) (bV rfl rfl rfl (by rw [hc1];rfl)) rfl rfl ?_
   refine eC (aFB rfl rfl rfl) (bV rfl rfl rfl (by rw [hc1];rfl)) rfl rfl ?_
   refine oy (rU rfl rfl hc1 rfl) rfl<|oa rfl rfl<|bB fun a hA=>?_
   exact⟨decide (n≤high),hF,hA.part ⟨rfl,trivial⟩,((hS).IL [] rfl).rV [] rfl⟩
  ·replace hF:=HF hc1 hF
   refine eJ (bV rfl rfl rfl (by rw [hc1];rfl)) rfl rfl ?_
   refine eJ (bV rfl rfl rfl (by rw [hc1];rfl)) rfl rfl ?_
   refine eJ (bV rfl rfl rfl (by rw [hc1];rfl)) rfl rfl ?_
   refine oy (wL rfl rfl hc1 rfl) rfl<|oa rfl rfl<|bB fun a hA=>?_
   exact⟨false,hF,hA.part ⟨rfl,trivial⟩,((hS).IL [] rfl).rV [] rfl⟩
 ·skip
  clear hA hS hF
  rintro a w ⟨x1,hF,hA,hS⟩
  unfold mY at hF
  refine v5 ?_
  cases hF
  exact fy Tryz.results107 hA rfl hS
theorem Y3{w0:World}{slot:Int}{r:Bool}(hF:kD slot=some r) :
    Calls Tryz.prog 222 #[.int .i64 (slot)] w0 (Ret fun v w'=>v=.bool (r)∧St (cD w0) w' [] []):=by
 have hS:St (cD w0) w0 [] []:=St.enter (by
   intro f hf;cases hf)
 refine wM (args:=[_]) Tryz.func222 rfl Tryz.ntmps222 rfl ?_
 unfold kD at hF
 intro a hA
 refine bH<|bZ hA ?_
 clear hA
 refine oa rfl rfl<|bB fun a hA=>bH<|bZ hA ?_
 clear hA
 refine om rfl rfl ?_
 obtain⟨x1,hx1,hF⟩:=pW hF
 refine SD (E5 Tryz.call107 rfl rfl) (bN rfl) rfl rfl (GO (n:=slot) (low:=0) (high:=23) hx1) ?_
 rintro _ w ⟨rfl,hk⟩
 replace hS:=hS.after hk;clear hk
 refine oa rfl rfl<|bB fun a hA=>v5 ?_
 cases hF
 exact fy Tryz.results222 hA rfl hS
theorem WM{w0:World}{l:aB}{s1:Value}{s2:Value}{r:Bool}(h1:aI.rd (KZ w0) w0 [s1] (l.Global:List aH))(h2:aI.rd (KZ w0) w0 [s2] (l.aX:List aH))(hF:gU l=some r) :
    Calls Tryz.prog 123 #[.agg #[s1,s2]] w0 (Ret fun v w'=>v=.bool (r)∧St (cD w0) w' [] []):=by
 have hS:St (cD w0) w0 [] [wY [s1] (l.Global:List aH),wY [s2] (l.aX:List aH)]:=St.enter (by
   intro f hf
   simp only [List.mem_cons,List.not_mem_nil,or_false] at hf
   rcases hf with rfl | rfl
   · exact h1
   · exact h2)
 refine wM (args:=[_]) Tryz.func123 rfl Tryz.ntmps123 rfl ?_
 unfold gU at hF
 intro a hA
 refine bH<|bZ hA ?_
 clear hA
 refine FZ (aQM (cs:=[s1,s2]) hS rfl rfl rfl) (bN rfl) rfl rfl ?_
 clear hS
 rintro _ w ⟨b1,rfl,hS⟩
 refine oa rfl rfl<|bB fun a hA=>bH<|bH<|zP (J:=fun a' w'=>∃(x1:Bool),oY l x1=some r∧jO 61 [(1,.pointer (some ⟨b1,0,none⟩)),(17,.bool (x1))] a'∧St (cD w0) w' [zJ b1 [s1,s2]] [wY [s1] (l.Global:List aH),wY [s2] (l.aX:List aH)]) ?_ ?_
 ·skip
  refine bZ hA ?_
  clear hA
  refine oy (v7 (m:=0) Tryz.underlying45 rfl rfl Tryz.sizeOf43 rfl rfl) rfl<|oy (gP rfl rfl Tryz.isAgg43 (hS.cell 0 rfl rfl)) rfl<|oy (mD (hS.rd 0 rfl) Tryz.underlying43 rfl rfl) rfl<|oy (aA2 rfl rfl rfl) rfl<|om rfl rfl<|DS (s:=12) rfl (fun hc8=>?_) (fun hc8=>?_)
  ·replace hF:=HE hc8 hF
   refine eJ (bV rfl rfl rfl (by rw [hc8];rfl)) rfl rfl ?_
   refine eJ (bV rfl rfl rfl (by rw [hc8];rfl)) rfl rfl ?_
   refine eJ (bV rfl rfl rfl (by rw [hc8];rfl)) rfl rfl ?_
   refine eJ (bV rfl rfl rfl (by rw [hc8];rfl)) rfl rfl ?_
   refine oy (rU rfl rfl hc8 rfl) rfl<|bB fun a hA=>?_
   exact⟨true,hF,hA.part ⟨rfl,rfl,trivial⟩,((hS).IL [0] rfl).rV [0,1] rfl⟩
  ·replace hF:=HF hc8 hF
   refine eC (v7 (m:=0) Tryz.underlying45 rfl rfl Tryz.sizeOf43 rfl rfl) (bV rfl rfl rfl (by rw [hc8];rfl)) rfl rfl ?_
   refine eC (gP rfl rfl Tryz.isAgg43 (hS.cell 0 rfl rfl)) (bV rfl rfl rfl (by rw [hc8];rfl)) rfl rfl ?_
   refine eC (mD (hS.rd 1 rfl) Tryz.underlying43 rfl rfl) (bV rfl rfl rfl (by rw [hc8];rfl)) rfl rfl ?_
   refine eC (aA2 rfl rfl rfl) (bV rfl rfl rfl (by rw [hc8];rfl)) rfl rfl ?_
   refine oy (wL rfl rfl hc8 rfl) rfl<|bB fun a hA=>?_
   exact⟨(l.aX.length:Int) != 9,hF,hA.part ⟨rfl,rfl,trivial⟩,((hS).IL [0] rfl).rV [0,1] rfl⟩
 ·skip
  clear hA hS hF
  rintro a w ⟨x1,hF,hA,hS⟩
  unfold oY at hF
  refine jT hA rfl (fun hc1=>?_) (fun hc1=>?_)
  ·replace hF:=HE hc1 hF
   refine bH<|bZ hA ?_
   clear hA
   refine oa rfl rfl<|bB fun a hA=>v5 ?_
   cases hF
   exact fy Tryz.results123 hA rfl hS
  ·replace hF:=HF hc1 hF
   refine mC<|bH<|bZ hA ?_
   clear hA
   refine oy (Q9 (cells:=#[.bool (false),.bool (false),.bool (false),.bool (false),.bool (false),.bool (false),.bool (false),.bool (false),.bool (false),.bool (false),.bool (false),.bool (false),.bool (false),.bool (false),.bool (false),.bool (false),.bool (false),.bool (false),.bool (false),.bool (false),.bool (false),.bool (false),.bool (false),.bool (false)]) rfl Tryz.zeroValue238 Tryz.underlying238 Tryz.sizeOf4 rfl rfl) rfl<|FZ (HD (cs:=List.map (fun q:Bool=>Value.bool q) [false,false,false,false,false,false,false,false,false,false,false,false,false,false,false,false,false,false,false,false,false,false,false,false]) hS rfl Tryz.zeroValue238 rfl) (bN rfl) rfl rfl ?_
   clear hS
   rintro _ w ⟨b2,rfl,hS⟩
   refine K9 (OL (vs:=[.bool (false),.bool (false),.bool (false),.bool (false),.bool (false),.bool (false),.bool (false),.bool (false),.bool (false),.bool (false),.bool (false),.bool (false),.bool (false),.bool (false),.bool (false),.bool (false),.bool (false),.bool (false),.bool (false),.bool (false),.bool (false),.bool (false),.bool (false),.bool (false)]) hS (i:=1) rfl rfl rfl rfl rfl Tryz.sizeOf238 rfl rfl rfl) (bN rfl) rfl ?_
   clear hS
   intro w hS
   refine bB fun a hA=>bH<|bH<|bZ hA ?_
   clear hA
   refine oy (v7 (m:=0) Tryz.underlying45 rfl rfl Tryz.sizeOf43 rfl rfl) rfl<|oy (gP rfl rfl Tryz.isAgg43 (hS.cell 0 rfl rfl)) rfl<|oy (v7 (m:=0) Tryz.underlying45 rfl rfl Tryz.sizeOf43 rfl rfl) rfl<|oy (gP rfl rfl Tryz.isAgg43 (hS.cell 0 rfl rfl)) rfl<|FZ (aFJ hS (hS.rd 1 rfl) (hS.rd 0 rfl) Tryz.underlying313 aF1 rfl rfl rfl) (bN rfl) rfl rfl ?_
   clear hS
   rintro s3 w hS
   obtain⟨hn1,hF⟩:=iQ hF
   replace hS:=hS.aSB 2 rfl
   obtain⟨u1,u2,hu1,hl1,hS⟩:=hS.aN7 rfl 2 1 0 rfl rfl rfl
   refine SD (E5 Tryz.call221 rfl rfl) (bN rfl) rfl rfl (K2 hu1 (HO hl1 hn1)) ?_
   rintro s4 w ⟨_,rfl,hk⟩
   replace hS:=hS.after hk;clear hk
   replace hS:=hS.aSB 3 rfl
   replace hS:=hS.aSH rfl 4 3 rfl rfl
   refine oy (mD (hS.rd 5 rfl) Tryz.underlying43 rfl rfl) rfl<|om rfl rfl<|bB fun a hA=>?_
   obtain⟨o1,hl2,hF⟩:=pW hF
   refine zP (J:=fun a' w'=>o1=Out.brk ()∧jO 61 [] a'∧St (cD w0) w' [] []) ?_ ?_
   ·refine jP ?_
    refine E2 (body:=jJ l) (r:=o1) (fun sg a' w'=>jO 61 [(1,.pointer (some ⟨b1,0,none⟩)),(3,.pointer (some ⟨b2,0,none⟩)),(24,s4),(25,.int .i64 (((l.aX++l.Global).length:Int))),(26,.int .i64 (sg.1))] a'∧St (cD w0) w' [zJ b1 [s1,s2],zJ b2 (List.map (fun q:Bool=>Value.bool q) (sg.2:List Bool))] [wY [s4] (l.aX++l.Global:List aH),wY [s1] (l.Global:List aH),wY [s2] (l.aX:List aH)]) ?_ hl2 ⟨hA.part ⟨rfl,rfl,rfl,rfl,rfl,trivial⟩,((hS).IL [0,1] rfl).rV [5,0,1] rfl⟩
    clear hA hS hl2
    rintro⟨x4,x5⟩ a w q2 ⟨hA,hS⟩ hG2 hr2
    try dsimp only at hA hS
    unfold jJ at hG2
    refine bH<|bZ hA ?_
    clear hA
    refine oy (BX rfl rfl rfl) rfl<|bB fun a hA=>bH<|jT hA rfl (fun hc2=>?_) (fun hc2=>?_)
    ·replace hG2:=HE hc2 hG2
     refine mC<|bH<|jP<|bH<|bZ hA ?_
     clear hA
     refine om rfl rfl ?_
     obtain⟨x6,hx6,hG2⟩:=pW hG2
     refine oy (LB (m:=1) (hS.rd 0 rfl) rfl hx6 Tryz.underlying43 Tryz.sizeOf162 rfl rfl rfl) rfl ?_
     obtain⟨s5,hel,hS⟩:=hS.aL8 0 rfl (iP hx6).2.2
     refine oy (LA rfl rfl Tryz.isAgg162 Tryz.sizeOf162 rfl hel) rfl<|FZ (HD (cs:=[(.slice none 0 0)]) hS rfl Tryz.zeroValue162 rfl) (bN rfl) rfl rfl ?_
     clear hS
     rintro _ w ⟨b3,rfl,hS⟩
     refine oa rfl rfl<|K9 (OL (vs:=[s5]) hS (i:=2) rfl rfl rfl rfl rfl Tryz.sizeOf162 rfl rfl (aQQ (VH (hS.rd 3 rfl)) rfl)) (bN rfl) rfl ?_
     clear hS
     intro w hS
     refine bB fun a hA=>bH<|bH<|zP (J:=fun a' w'=>∃(x7:Bool),jI x4 x5 x6 x7=some q2∧jO 61 [(1,.pointer (some ⟨b1,0,none⟩)),(3,.pointer (some ⟨b2,0,none⟩)),(5,.pointer (some ⟨b3,0,none⟩)),(24,s4),(25,.int .i64 (((l.aX++l.Global).length:Int))),(26,.int .i64 (x4)),(41,.bool (x7))] a'∧St (cD w0) w' [zJ b1 [s1,s2],zJ b2 (List.map (fun q:Bool=>Value.bool q) (x5:List Bool)),zJ b3 [s5]] [wY [s4] (l.aX++l.Global:List aH),wY [s1] (l.Global:List aH),wY [s2] (l.aX:List aH),wY [s5] (x6.aP:List Int)]) ?_ ?_
     ·skip
      refine bZ hA ?_
      clear hA
      refine om rfl rfl<|oy (v7 (m:=0) Tryz.underlying45 rfl rfl Tryz.sizeOf43 rfl rfl) rfl<|oy (gP rfl rfl Tryz.isAgg43 (hS.cell 0 rfl rfl)) rfl<|oy (mD (hS.rd 2 rfl) Tryz.underlying43 rfl rfl) rfl<|oy (BX rfl rfl rfl) rfl<|om rfl rfl<|DS (s:=36) rfl (fun hc7=>?_) (fun hc7=>?_)
      ·replace hG2:=HE hc7 hG2
       refine eC (v7 (m:=0) Tryz.underlying162 rfl rfl Tryz.sizeOf22 rfl rfl) (bV rfl rfl rfl (by rw [hc7];rfl)) rfl rfl ?_
       refine eC (gP rfl rfl Tryz.isAgg22 (hS.cell 2 rfl rfl)) (bV rfl rfl rfl (by rw [hc7];rfl)) rfl rfl ?_
       refine eC (mD (hS.rd 3 rfl) Tryz.underlying22 rfl rfl) (bV rfl rfl rfl (by rw [hc7];rfl)) rfl rfl ?_
       refine eC (aFC rfl rfl rfl) (bV rfl rfl rfl (by rw [hc7];rfl)) rfl rfl ?_
       refine oy (rU rfl rfl hc7 rfl) rfl<|bB fun a hA=>?_
       exact⟨decide (2 < (x6.aP.length:Int)),hG2,hA.part ⟨rfl,rfl,rfl,rfl,rfl,rfl,rfl,trivial⟩,((hS).IL [0,1,2] rfl).rV [0,1,2,3] rfl⟩
      ·replace hG2:=HF hc7 hG2
       refine eJ (bV rfl rfl rfl (by rw [hc7];rfl)) rfl rfl ?_
       refine eJ (bV rfl rfl rfl (by rw [hc7];rfl)) rfl rfl ?_
       refine eJ (bV rfl rfl rfl (by rw [hc7];rfl)) rfl rfl ?_
       refine eJ (bV rfl rfl rfl (by rw [hc7];rfl)) rfl rfl ?_
       refine oy (wL rfl rfl hc7 rfl) rfl<|bB fun a hA=>?_
       exact⟨false,hG2,hA.part ⟨rfl,rfl,rfl,rfl,rfl,rfl,rfl,trivial⟩,((hS).IL [0,1,2] rfl).rV [0,1,2,3] rfl⟩
     ·skip
      clear hA hS hG2
      rintro a w ⟨x7,hG2,hA,hS⟩
      unfold jI at hG2
      refine jT hA rfl (fun hc3=>?_) (fun hc3=>?_)
      ·replace hG2:=HE hc3 hG2
       refine bH<|bZ hA ?_
       clear hA
       refine oa rfl rfl<|bB fun a hA=>v5 ?_
       cases hG2
       have ho:=hr2 _ rfl;subst ho
       replace hF:some false=some r:=hF
       cases hF
       exact fy Tryz.results123 hA rfl hS
      ·replace hG2:=HF hc3 hG2
       refine mC<|bH<|bZ hA ?_
       clear hA
       refine oy (v7 (m:=0) Tryz.underlying162 rfl rfl Tryz.sizeOf22 rfl rfl) rfl<|oy (gP rfl rfl Tryz.isAgg22 (hS.cell 2 rfl rfl)) rfl<|oy (mD (hS.rd 3 rfl) Tryz.underlying22 rfl rfl) rfl<|om rfl rfl<|bB fun a hA=>?_
       obtain⟨o2,hl3,hG2⟩:=pW hG2
       refine zP (J:=fun a' w'=>∃(x12:List Bool),o2=Out.brk x12∧jO 61 [(1,.pointer (some ⟨b1,0,none⟩)),(3,.pointer (some ⟨b2,0,none⟩)),(24,s4),(25,.int .i64 (((l.aX++l.Global).length:Int))),(26,.int .i64 (x4))] a'∧St (cD w0) w' [zJ b1 [s1,s2],zJ b2 (List.map (fun q:Bool=>Value.bool q) (x12:List Bool))] [wY [s4] (l.aX++l.Global:List aH),wY [s1] (l.Global:List aH),wY [s2] (l.aX:List aH)]) ?_ ?_
       ·refine jP ?_
        refine E2 (body:=jH x6) (r:=o2) (fun sg a' w'=>jO 61 [(1,.pointer (some ⟨b1,0,none⟩)),(3,.pointer (some ⟨b2,0,none⟩)),(24,s4),(25,.int .i64 (((l.aX++l.Global).length:Int))),(26,.int .i64 (x4)),(43,s5),(44,.int .i64 ((x6.aP.length:Int))),(45,.int .i64 (sg.1))] a'∧St (cD w0) w' [zJ b1 [s1,s2],zJ b2 (List.map (fun q:Bool=>Value.bool q) (sg.2:List Bool))] [wY [s4] (l.aX++l.Global:List aH),wY [s5] (x6.aP:List Int),wY [s1] (l.Global:List aH),wY [s2] (l.aX:List aH)]) ?_ hl3 ⟨hA.part ⟨rfl,rfl,rfl,rfl,rfl,rfl,rfl,rfl,trivial⟩,((hS).IL [0,1] rfl).rV [0,3,1,2] rfl⟩
        clear hA hS hl3
        rintro⟨x10,x11⟩ a w q4 ⟨hA,hS⟩ hG4 hr4
        try dsimp only at hA hS
        unfold jH at hG4
        refine bH<|bZ hA ?_
        clear hA
        refine oy (BX rfl rfl rfl) rfl<|bB fun a hA=>bH<|jT hA rfl (fun hc4=>?_) (fun hc4=>?_)
        ·replace hG4:=HE hc4 hG4
         refine mC<|bH<|jP<|bH<|bZ hA ?_
         clear hA
         obtain⟨x13,hx13,hG4⟩:=pW hG4
         refine oy (LB (m:=1) (hS.rd 1 rfl) rfl hx13 Tryz.underlying22 Tryz.sizeOf3 rfl rfl rfl) rfl<|oy (gP rfl rfl Tryz.isAgg3 (aJZ (aQO (hS.rd 1 rfl) (iP hx13).2.2))) rfl<|oa rfl rfl<|bB fun a hA=>bH<|bH<|zP (J:=fun a' w'=>∃(x14:Bool),lM x10 x11 x13 x14=some q4∧jO 61 [(1,.pointer (some ⟨b1,0,none⟩)),(3,.pointer (some ⟨b2,0,none⟩)),(7,.int .i64 (x13)),(24,s4),(25,.int .i64 (((l.aX++l.Global).length:Int))),(26,.int .i64 (x4)),(43,s5),(44,.int .i64 ((x6.aP.length:Int))),(45,.int .i64 (x10)),(56,.bool (x14))] a'∧St (cD w0) w' [zJ b1 [s1,s2],zJ b2 (List.map (fun q:Bool=>Value.bool q) (x11:List Bool))] [wY [s4] (l.aX++l.Global:List aH),wY [s5] (x6.aP:List Int),wY [s1] (l.Global:List aH),wY [s2] (l.aX:List aH)]) ?_ ?_
         ·skip
          refine bZ hA ?_
          clear hA
          refine om rfl rfl ?_
          obtain⟨x16,hx16,hG4⟩:=pW hG4
          refine SD (E5 Tryz.call222 rfl rfl) (bN rfl) rfl rfl (Y3 (slot:=x13) hx16) ?_
          rintro _ w ⟨rfl,hk⟩
          replace hS:=hS.after hk;clear hk
          refine oy (VA rfl rfl) rfl<|om rfl rfl<|DS (s:=52) rfl (fun hc6=>?_) (fun hc6=>?_)
          ·replace hG4:=HE hc6 hG4
           refine eJ (bV rfl rfl rfl (by rw [hc6];rfl)) rfl rfl ?_
           refine eJ (bV rfl rfl rfl (by rw [hc6];rfl)) rfl rfl ?_
           refine eJ (bV rfl rfl rfl (by rw [hc6];rfl)) rfl rfl ?_
           refine oy (rU rfl rfl hc6 rfl) rfl<|bB fun a hA=>?_
           exact⟨true,hG4,hA.part ⟨rfl,rfl,rfl,rfl,rfl,rfl,rfl,rfl,rfl,rfl,trivial⟩,((hS).IL [0,1] rfl).rV [0,1,2,3] rfl⟩
          ·replace hG4:=HF hc6 hG4
           refine eC (lU rfl rfl) (bV rfl rfl rfl (by rw [hc6];rfl)) rfl rfl ?_
           obtain⟨hn3,hG4⟩:=iQ hG4
           refine eC (UT Tryz.underlying238 Tryz.sizeOf4 hn3 rfl rfl rfl) (bV rfl rfl rfl (by rw [hc6];rfl)) rfl rfl ?_
           obtain⟨x17,hx17,hG4⟩:=pW hG4
           refine eC (gP rfl rfl Tryz.isAgg4 (hS.aG5 1 rfl hx17)) (bV rfl rfl rfl (by rw [hc6];rfl)) rfl rfl ?_
           refine oy (wL rfl rfl hc6 rfl) rfl<|bB fun a hA=>?_
           exact⟨x17,hG4,hA.part ⟨rfl,rfl,rfl,rfl,rfl,rfl,rfl,rfl,rfl,rfl,trivial⟩,((hS).IL [0,1] rfl).rV [0,1,2,3] rfl⟩
         ·skip
          clear hA hS hG4
          rintro a w ⟨x14,hG4,hA,hS⟩
          unfold lM at hG4
          refine jT hA rfl (fun hc5=>?_) (fun hc5=>?_)
          ·replace hG4:=HE hc5 hG4
           refine bH<|bZ hA ?_
           clear hA
           refine oa rfl rfl<|bB fun a hA=>v5 ?_
           cases hG4
           have ho:=hr4 _ rfl;subst ho
           replace hG2:some (.stop (Out.ret false))=some q2:=hG2
           cases hG2
           have ho:=hr2 _ rfl;subst ho
           replace hF:some false=some r:=hF
           cases hF
           exact fy Tryz.results123 hA rfl hS
          ·replace hG4:=HF hc5 hG4
           refine mC<|bZ hA ?_
           clear hA
           refine om rfl rfl ?_
           obtain⟨hn2,hG4⟩:=iQ hG4
           refine oy (UT Tryz.underlying238 Tryz.sizeOf4 hn2 rfl rfl rfl) rfl ?_
           obtain⟨x15,hx15,hG4⟩:=pW hG4
           refine K9 (aKF (xd:=true) hS (m:=1) rfl hx15 Tryz.sizeOf4 rfl rfl rfl rfl rfl rfl) (bN rfl) rfl ?_
           clear hS
           intro w hS
           refine bB fun a hA=>bZ hA ?_
           clear hA
           refine oy (F5 rfl rfl rfl) rfl<|om rfl rfl<|bB fun a hA=>?_
           cases hG4
           exact⟨_,rfl,⟨hA.part ⟨rfl,rfl,rfl,rfl,rfl,rfl,rfl,rfl,trivial⟩,((hS).IL [0,1] rfl).rV [0,1,2,3] rfl⟩⟩
        ·replace hG4:=HF hc4 hG4
         refine E1<|zN ?_
         cases hG4
         have ho:=hr4 _ rfl;subst ho
         exact⟨x11,rfl,hA.part ⟨rfl,rfl,rfl,rfl,rfl,trivial⟩,((hS).IL [0,1] rfl).rV [0,2,3] rfl⟩
       ·skip
        clear hA hS hl3
        rintro a w ⟨x12,heq,hA,hS⟩
        replace hG2:vF x4 x12=some q2:=by rw [heq] at hG2;exact hG2
        clear heq
        unfold vF at hG2
        refine bZ hA ?_
        clear hA
        refine oy (F5 rfl rfl rfl) rfl<|om rfl rfl<|bB fun a hA=>?_
        cases hG2
        exact⟨_,rfl,⟨hA.part ⟨rfl,rfl,rfl,rfl,rfl,trivial⟩,((hS).IL [0,1] rfl).rV [0,1,2] rfl⟩⟩
    ·replace hG2:=HF hc2 hG2
     refine E1<|zN ?_
     cases hG2
     have ho:=hr2 _ rfl;subst ho
     exact⟨rfl,hA.part trivial,((hS).IL [] rfl).rV [] rfl⟩
   ·skip
    clear hA hS hl2
    rintro a w ⟨heq,hA,hS⟩
    replace hF:B8=some r:=by rw [heq] at hF;exact hF
    clear heq
    unfold B8 at hF
    refine bH<|bZ hA ?_
    clear hA
    refine oa rfl rfl<|bB fun a hA=>v5 ?_
    cases hF
    exact fy Tryz.results123 hA rfl hS
theorem TM{w0:World}{h:Int}{r:Bool}(hF:fJ h=some r) :
    Calls Tryz.prog 295 #[.int .i64 (h)] w0 (Ret fun v w'=>v=.bool (r)∧St (cD w0) w' [] []):=by
 have hS:St (cD w0) w0 [] []:=St.enter (by
   intro f hf;cases hf)
 refine wM (args:=[_]) Tryz.func295 rfl Tryz.ntmps295 rfl ?_
 unfold fJ at hF
 intro a hA
 refine bH<|bZ hA ?_
 clear hA
 refine oa rfl rfl<|bB fun a hA=>bH<|zP (J:=fun a' w'=>∃(x1:Bool),kL x1=some r∧jO 10 [(2,.bool (x1))] a'∧St (cD w0) w' [] []) ?_ ?_
 ·skip
  refine bZ hA ?_
  clear hA
  refine om rfl rfl ?_
  obtain⟨x2,hx2,hF⟩:=pW hF
  refine SD (E5 Tryz.call107 rfl rfl) (bN rfl) rfl rfl (GO (n:=h) (low:=32) (high:=223) hx2) ?_
  rintro _ w ⟨rfl,hk⟩
  replace hS:=hS.after hk;clear hk
  refine om rfl rfl<|DS (s:=5) rfl (fun hc1=>?_) (fun hc1=>?_)
  ·replace hF:=HE hc1 hF
   refine eC (lU rfl rfl) (bV rfl rfl rfl (by rw [hc1];rfl)) rfl rfl ?_
   refine eC (Q8 rfl rfl rfl (by decide)) (bV rfl rfl rfl (by rw [hc1];rfl)) rfl rfl ?_
   refine eC (BX rfl rfl rfl) (bV rfl rfl rfl (by rw [hc1];rfl)) rfl rfl ?_
   refine oy (rU rfl rfl hc1 rfl) rfl<|oa rfl rfl<|bB fun a hA=>?_
   exact⟨decide ((Int.tmod h 32) < 24),hF,hA.part ⟨rfl,trivial⟩,((hS).IL [] rfl).rV [] rfl⟩
  ·replace hF:=HF hc1 hF
   refine eJ (bV rfl rfl rfl (by rw [hc1];rfl)) rfl rfl ?_
   refine eJ (bV rfl rfl rfl (by rw [hc1];rfl)) rfl rfl ?_
   refine eJ (bV rfl rfl rfl (by rw [hc1];rfl)) rfl rfl ?_
   refine oy (wL rfl rfl hc1 rfl) rfl<|oa rfl rfl<|bB fun a hA=>?_
   exact⟨false,hF,hA.part ⟨rfl,trivial⟩,((hS).IL [] rfl).rV [] rfl⟩
 ·skip
  clear hA hS hF
  rintro a w ⟨x1,hF,hA,hS⟩
  unfold kL at hF
  refine v5 ?_
  cases hF
  exact fy Tryz.results295 hA rfl hS
theorem RS{w0:World}{l:List aR}{s1:Value}{r:Int}(h1:aI.rd (KZ w0) w0 [s1] (l:List aR))(hF:kS l=some r) :
    Calls Tryz.prog 35 #[s1] w0 (Ret fun v w'=>v=.int .i64 (r)∧St (cD w0) w' [] []):=by
 have hS:St (cD w0) w0 [] [wY [s1] (l:List aR)]:=St.enter (by
   intro f hf
   simp only [List.mem_cons,List.not_mem_nil,or_false] at hf
   subst hf;exact h1)
 refine wM (args:=[_]) Tryz.func35 rfl Tryz.ntmps35 rfl ?_
 unfold kS at hF
 intro a hA
 refine bH<|bZ hA ?_
 clear hA
 refine oa rfl rfl<|bB fun a hA=>bH<|bZ hA ?_
 clear hA
 refine oa rfl rfl<|bB fun a hA=>bH<|bH<|bZ hA ?_
 clear hA
 refine om rfl rfl<|oy (mD (hS.rd 0 rfl) Tryz.underlying51 rfl rfl) rfl<|om rfl rfl<|bB fun a hA=>?_
 obtain⟨o1,hl1,hF⟩:=pW hF
 refine zP (J:=fun a' w'=>∃(x5:Int),o1=x5∧jO 19 [(3,.int .i64 (x5))] a'∧St (cD w0) w' [] []) ?_ ?_
 ·refine jP ?_
  refine E2 (body:=gY l) (r:=o1) (fun sg a' w'=>jO 19 [(3,.int .i64 (sg.1)),(6,s1),(7,.int .i64 ((l.length:Int))),(8,.int .i64 (sg.2))] a'∧St (cD w0) w' [] [wY [s1] (l:List aR)]) ?_ hl1 ⟨hA.part ⟨rfl,rfl,rfl,rfl,trivial⟩,((hS).IL [] rfl).rV [0] rfl⟩
  clear hA hS hl1
  rintro⟨x3,x4⟩ a w q1 ⟨hA,hS⟩ hG1 hr1
  try dsimp only at hA hS
  unfold gY at hG1
  refine bH<|bZ hA ?_
  clear hA
  refine oy (BX rfl rfl rfl) rfl<|bB fun a hA=>bH<|jT hA rfl (fun hc1=>?_) (fun hc1=>?_)
  ·replace hG1:=HE hc1 hG1
   refine mC<|bH<|jP<|bH<|bZ hA ?_
   clear hA
   obtain⟨x6,hx6,hG1⟩:=pW hG1
   refine oy (LB (m:=1) (hS.rd 0 rfl) rfl hx6 Tryz.underlying51 Tryz.sizeOf103 rfl rfl rfl) rfl ?_
   obtain⟨s2,hel,hS⟩:=hS.aD0 0 rfl (iP hx6).2.2
   refine oy (LA rfl rfl Tryz.isAgg103 Tryz.sizeOf103 rfl hel) rfl<|FZ (HD (cs:=[(.slice none 0 0)]) hS rfl Tryz.zeroValue103 rfl) (bN rfl) rfl rfl ?_
   clear hS
   rintro _ w ⟨b1,rfl,hS⟩
   refine K9 (OL (vs:=[s2]) hS (i:=0) rfl rfl rfl rfl rfl Tryz.sizeOf103 rfl rfl (aQQ (VH (hS.rd 1 rfl)) rfl)) (bN rfl) rfl ?_
   clear hS
   intro w hS
   refine bB fun a hA=>bZ hA ?_
   clear hA
   refine om rfl rfl<|oy (v7 (m:=0) Tryz.underlying103 rfl rfl Tryz.sizeOf101 rfl rfl) rfl<|oy (gP rfl rfl Tryz.isAgg101 (hS.cell 0 rfl rfl)) rfl<|oy (mD (hS.rd 1 rfl) Tryz.underlying101 rfl rfl) rfl<|oy (F5 rfl rfl rfl) rfl<|oa rfl rfl<|bB fun a hA=>bZ hA ?_
   clear hA
   refine oy (F5 rfl rfl rfl) rfl<|om rfl rfl<|bB fun a hA=>?_
   cases hG1
   exact⟨_,rfl,⟨hA.part ⟨rfl,rfl,rfl,rfl,trivial⟩,((hS).IL [] rfl).rV [0] rfl⟩⟩
  ·replace hG1:=HF hc1 hG1
   refine E1<|zN ?_
   cases hG1
   have ho:=hr1 _ rfl;subst ho
   exact⟨x3,rfl,hA.part ⟨rfl,trivial⟩,((hS).IL [] rfl).rV [] rfl⟩
 ·skip
  clear hA hS hl1
  rintro a w ⟨x5,heq,hA,hS⟩
  replace hF:xT x5=some r:=by rw [heq] at hF;exact hF
  clear heq
  unfold xT at hF
  refine bH<|bZ hA ?_
  clear hA
  refine om rfl rfl<|oa rfl rfl<|bB fun a hA=>v5 ?_
  cases hF
  exact fy Tryz.results35 hA rfl hS
theorem WN{w0:World}{l:List aR}{s1:Value}{r:Bool}(h1:aI.rd (KZ w0) w0 [s1] (l:List aR))(hF:j5 l=some r) :
    Calls Tryz.prog 212 #[s1] w0 (Ret fun v w'=>v=.bool (r)∧St (cD w0) w' [] []):=by
 have hS:St (cD w0) w0 [] [wY [s1] (l:List aR)]:=St.enter (by
   intro f hf
   simp only [List.mem_cons,List.not_mem_nil,or_false] at hf
   subst hf;exact h1)
 refine wM (args:=[_]) Tryz.func212 rfl Tryz.ntmps212 rfl ?_
 unfold j5 at hF
 intro a hA
 refine bH<|bZ hA ?_
 clear hA
 refine oa rfl rfl<|bB fun a hA=>bH<|bH<|bZ hA ?_
 clear hA
 refine om rfl rfl<|oy (mD (hS.rd 0 rfl) Tryz.underlying51 rfl rfl) rfl<|oy (aA2 rfl rfl rfl) rfl<|bB fun a hA=>jT hA rfl (fun hc1=>?_) (fun hc1=>?_)
 ·replace hF:=HE hc1 hF
  refine bH<|bZ hA ?_
  clear hA
  refine oa rfl rfl<|bB fun a hA=>v5 ?_
  cases hF
  exact fy Tryz.results212 hA rfl hS
 ·replace hF:=HF hc1 hF
  refine mC<|bH<|bZ hA ?_
  clear hA
  refine oy (Q9 (cells:=#[.bool (false),.bool (false),.bool (false),.bool (false),.bool (false),.bool (false),.bool (false),.bool (false),.bool (false),.bool (false),.bool (false),.bool (false),.bool (false),.bool (false),.bool (false),.bool (false),.bool (false),.bool (false),.bool (false),.bool (false),.bool (false),.bool (false),.bool (false),.bool (false)]) rfl Tryz.zeroValue238 Tryz.underlying238 Tryz.sizeOf4 rfl rfl) rfl<|FZ (HD (cs:=List.map (fun q:Bool=>Value.bool q) [false,false,false,false,false,false,false,false,false,false,false,false,false,false,false,false,false,false,false,false,false,false,false,false]) hS rfl Tryz.zeroValue238 rfl) (bN rfl) rfl rfl ?_
  clear hS
  rintro _ w ⟨b1,rfl,hS⟩
  refine K9 (OL (vs:=[.bool (false),.bool (false),.bool (false),.bool (false),.bool (false),.bool (false),.bool (false),.bool (false),.bool (false),.bool (false),.bool (false),.bool (false),.bool (false),.bool (false),.bool (false),.bool (false),.bool (false),.bool (false),.bool (false),.bool (false),.bool (false),.bool (false),.bool (false),.bool (false)]) hS (i:=0) rfl rfl rfl rfl rfl Tryz.sizeOf238 rfl rfl rfl) (bN rfl) rfl ?_
  clear hS
  intro w hS
  refine bB fun a hA=>bH<|bH<|bZ hA ?_
  clear hA
  refine om rfl rfl<|oy (mD (hS.rd 0 rfl) Tryz.underlying51 rfl rfl) rfl<|om rfl rfl<|bB fun a hA=>?_
  obtain⟨o1,hl1,hF⟩:=pW hF
  refine zP (J:=fun a' w'=>o1=Out.brk ()∧jO 51 [(0,s1)] a'∧St (cD w0) w' [] [wY [s1] (l:List aR)]) ?_ ?_
  ·refine jP ?_
   refine E2 (body:=jL l) (r:=o1) (fun sg a' w'=>jO 51 [(0,s1),(3,.pointer (some ⟨b1,0,none⟩)),(12,s1),(13,.int .i64 ((l.length:Int))),(14,.int .i64 (sg.1))] a'∧St (cD w0) w' [zJ b1 (List.map (fun q:Bool=>Value.bool q) (sg.2:List Bool))] [wY [s1] (l:List aR)]) ?_ hl1 ⟨hA.part ⟨rfl,rfl,rfl,rfl,rfl,trivial⟩,((hS).IL [0] rfl).rV [0] rfl⟩
   clear hA hS hl1
   rintro⟨x3,x4⟩ a w q1 ⟨hA,hS⟩ hG1 hr1
   try dsimp only at hA hS
   unfold jL at hG1
   refine bH<|bZ hA ?_
   clear hA
   refine oy (BX rfl rfl rfl) rfl<|bB fun a hA=>bH<|jT hA rfl (fun hc2=>?_) (fun hc2=>?_)
   ·replace hG1:=HE hc2 hG1
    refine mC<|bH<|jP<|bH<|bZ hA ?_
    clear hA
    obtain⟨x6,hx6,hG1⟩:=pW hG1
    refine oy (LB (m:=1) (hS.rd 0 rfl) rfl hx6 Tryz.underlying51 Tryz.sizeOf103 rfl rfl rfl) rfl ?_
    obtain⟨s2,hel,hS⟩:=hS.aD0 0 rfl (iP hx6).2.2
    refine oy (LA rfl rfl Tryz.isAgg103 Tryz.sizeOf103 rfl hel) rfl<|FZ (HD (cs:=[(.slice none 0 0)]) hS rfl Tryz.zeroValue103 rfl) (bN rfl) rfl rfl ?_
    clear hS
    rintro _ w ⟨b2,rfl,hS⟩
    refine K9 (OL (vs:=[s2]) hS (i:=1) rfl rfl rfl rfl rfl Tryz.sizeOf103 rfl rfl (aQQ (VH (hS.rd 1 rfl)) rfl)) (bN rfl) rfl ?_
    clear hS
    intro w hS
    refine bB fun a hA=>bH<|bZ hA ?_
    clear hA
    refine oy (v7 (m:=0) Tryz.underlying103 rfl rfl Tryz.sizeOf101 rfl rfl) rfl<|oy (gP rfl rfl Tryz.isAgg101 (hS.cell 1 rfl rfl)) rfl<|oy (mD (hS.rd 1 rfl) Tryz.underlying101 rfl rfl) rfl<|om rfl rfl<|bB fun a hA=>?_
    obtain⟨o2,hl2,hG1⟩:=pW hG1
    refine zP (J:=fun a' w'=>∃(x11:List Bool),o2=Out.brk x11∧jO 51 [(0,s1),(3,.pointer (some ⟨b1,0,none⟩)),(12,s1),(13,.int .i64 ((l.length:Int))),(14,.int .i64 (x3))] a'∧St (cD w0) w' [zJ b1 (List.map (fun q:Bool=>Value.bool q) (x11:List Bool))] [wY [s1] (l:List aR)]) ?_ ?_
    ·refine jP ?_
     refine E2 (body:=jK x6) (r:=o2) (fun sg a' w'=>jO 51 [(0,s1),(3,.pointer (some ⟨b1,0,none⟩)),(12,s1),(13,.int .i64 ((l.length:Int))),(14,.int .i64 (x3)),(19,s2),(20,.int .i64 ((x6.Rows.length:Int))),(21,.int .i64 (sg.1))] a'∧St (cD w0) w' [zJ b1 (List.map (fun q:Bool=>Value.bool q) (sg.2:List Bool))] [wY [s1] (l:List aR),wY [s2] (x6.Rows:List cT)]) ?_ hl2 ⟨hA.part ⟨rfl,rfl,rfl,rfl,rfl,rfl,rfl,rfl,trivial⟩,((hS).IL [0] rfl).rV [0,1] rfl⟩
     clear hA hS hl2
     rintro⟨x9,x10⟩ a w q2 ⟨hA,hS⟩ hG2 hr2
     try dsimp only at hA hS
     unfold jK at hG2
     refine bH<|bZ hA ?_
     clear hA
     refine oy (BX rfl rfl rfl) rfl<|bB fun a hA=>bH<|jT hA rfl (fun hc3=>?_) (fun hc3=>?_)
     ·replace hG2:=HE hc3 hG2
      refine mC<|bH<|jP<|bH<|bZ hA ?_
      clear hA
      obtain⟨x12,hx12,hG2⟩:=pW hG2
      refine oy (LB (m:=2) (hS.rd 1 rfl) rfl hx12 Tryz.underlying101 Tryz.sizeOf105 rfl rfl rfl) rfl<|oy (LA rfl rfl Tryz.isAgg105 Tryz.sizeOf105 rfl (aO0 (hS.rd 1 rfl) (iP hx12).2.2)) rfl<|FZ (HD (cs:=[.int .i64 (0),.int .i64 (0)]) hS rfl Tryz.zeroValue105 rfl) (bN rfl) rfl rfl ?_
      clear hS
      rintro _ w ⟨b3,rfl,hS⟩
      refine K9 (OL (vs:=[.int .i64 (x12.Handle),.int .i64 (x12.aG)]) hS (i:=1) rfl rfl rfl rfl rfl Tryz.sizeOf105 rfl rfl rfl) (bN rfl) rfl ?_
      clear hS
      intro w hS
      refine bB fun a hA=>bH<|bH<|zP (J:=fun a' w'=>∃(x13:Bool),hJ x9 x10 x12 x13=some q2∧jO 51 [(0,s1),(3,.pointer (some ⟨b1,0,none⟩)),(7,.pointer (some ⟨b3,0,none⟩)),(12,s1),(13,.int .i64 ((l.length:Int))),(14,.int .i64 (x3)),(19,s2),(20,.int .i64 ((x6.Rows.length:Int))),(21,.int .i64 (x9)),(41,.bool (x13))] a'∧St (cD w0) w' [zJ b1 (List.map (fun q:Bool=>Value.bool q) (x10:List Bool)),zJ b3 [.int .i64 (x12.Handle),.int .i64 (x12.aG)]] [wY [s1] (l:List aR),wY [s2] (x6.Rows:List cT)]) ?_ ?_
      ·skip
       refine bZ hA ?_
       clear hA
       refine oy (v7 (m:=0) Tryz.underlying105 rfl rfl Tryz.sizeOf3 rfl rfl) rfl<|oy (gP rfl rfl Tryz.isAgg3 (hS.cell 1 rfl rfl)) rfl ?_
       obtain⟨x15,hx15,hG2⟩:=pW hG2
       refine SD (E5 Tryz.call295 rfl rfl) (bN rfl) rfl rfl (TM (h:=x12.Handle) hx15) ?_
       rintro _ w ⟨rfl,hk⟩
       replace hS:=hS.after hk;clear hk
       refine oy (VA rfl rfl) rfl<|om rfl rfl<|DS (s:=29) rfl (fun hc5=>?_) (fun hc5=>?_)
       ·replace hG2:=HE hc5 hG2
        refine eJ (bV rfl rfl rfl (by rw [hc5];rfl)) rfl rfl ?_
        refine eJ (bV rfl rfl rfl (by rw [hc5];rfl)) rfl rfl ?_
        refine eJ (bV rfl rfl rfl (by rw [hc5];rfl)) rfl rfl ?_
        refine eJ (bV rfl rfl rfl (by rw [hc5];rfl)) rfl rfl ?_
        refine oy (rU rfl rfl hc5 rfl) rfl<|om rfl rfl<|eJ (bV rfl rfl rfl rfl) rfl rfl<|eJ (bV rfl rfl rfl rfl) rfl rfl<|eJ (bV rfl rfl rfl rfl) rfl rfl<|eJ (bV rfl rfl rfl rfl) rfl rfl<|eJ (bV rfl rfl rfl rfl) rfl rfl<|oy (rU rfl rfl rfl rfl) rfl<|bB fun a hA=>?_
        exact⟨true,hG2,hA.part ⟨rfl,rfl,rfl,rfl,rfl,rfl,rfl,rfl,rfl,rfl,trivial⟩,((hS).IL [0,1] rfl).rV [0,1] rfl⟩
       ·replace hG2:=HF hc5 hG2
        refine eC (v7 (m:=0) Tryz.underlying105 rfl rfl Tryz.sizeOf3 rfl rfl) (bV rfl rfl rfl (by rw [hc5];rfl)) rfl rfl ?_
        refine eC (gP rfl rfl Tryz.isAgg3 (hS.cell 1 rfl rfl)) (bV rfl rfl rfl (by rw [hc5];rfl)) rfl rfl ?_
        obtain⟨x16,hx16,hG2⟩:=pW hG2
        refine SD (E5 Tryz.call107 rfl rfl) (bV rfl rfl rfl (by rw [hc5];rfl)) rfl rfl (GO (n:=x12.aG) (low:=0) (high:=100000) hx16) ?_
        rintro _ w ⟨rfl,hk⟩
        replace hS:=hS.after hk;clear hk
        refine eC (VA rfl rfl) (bV rfl rfl rfl (by rw [hc5];rfl)) rfl rfl ?_
        refine oy (wL rfl rfl hc5 rfl) rfl<|om rfl rfl<|DS (s:=35) rfl (fun hc6=>?_) (fun hc6=>?_)
        ·replace hG2:=HE hc6 hG2
         refine eJ (bV rfl rfl rfl (by rw [hc6];rfl)) rfl rfl ?_
         refine eJ (bV rfl rfl rfl (by rw [hc6];rfl)) rfl rfl ?_
         refine eJ (bV rfl rfl rfl (by rw [hc6];rfl)) rfl rfl ?_
         refine eJ (bV rfl rfl rfl (by rw [hc6];rfl)) rfl rfl ?_
         refine eJ (bV rfl rfl rfl (by rw [hc6];rfl)) rfl rfl ?_
         refine oy (rU rfl rfl hc6 rfl) rfl<|bB fun a hA=>?_
         exact⟨true,hG2,hA.part ⟨rfl,rfl,rfl,rfl,rfl,rfl,rfl,rfl,rfl,rfl,trivial⟩,((hS).IL [0,1] rfl).rV [0,1] rfl⟩
        ·replace hG2:=HF hc6 hG2
         refine eC (v7 (m:=0) Tryz.underlying105 rfl rfl Tryz.sizeOf3 rfl rfl) (bV rfl rfl rfl (by rw [hc6];rfl)) rfl rfl ?_
         refine eC (gP rfl rfl Tryz.isAgg3 (hS.cell 1 rfl rfl)) (bV rfl rfl rfl (by rw [hc6];rfl)) rfl rfl ?_
         refine eC (Q8 rfl rfl rfl (by decide)) (bV rfl rfl rfl (by rw [hc6];rfl)) rfl rfl ?_
         obtain⟨hn2,hG2⟩:=iQ hG2
         refine eC (UT Tryz.underlying238 Tryz.sizeOf4 hn2 rfl rfl rfl) (bV rfl rfl rfl (by rw [hc6];rfl)) rfl rfl ?_
         obtain⟨x17,hx17,hG2⟩:=pW hG2
         refine eC (gP rfl rfl Tryz.isAgg4 (hS.aG5 0 rfl hx17)) (bV rfl rfl rfl (by rw [hc6];rfl)) rfl rfl ?_
         refine oy (wL rfl rfl hc6 rfl) rfl<|bB fun a hA=>?_
         exact⟨x17,hG2,hA.part ⟨rfl,rfl,rfl,rfl,rfl,rfl,rfl,rfl,rfl,rfl,trivial⟩,((hS).IL [0,1] rfl).rV [0,1] rfl⟩
      ·skip
       clear hA hS hG2
       rintro a w ⟨x13,hG2,hA,hS⟩
       unfold hJ at hG2
       refine jT hA rfl (fun hc4=>?_) (fun hc4=>?_)
       ·replace hG2:=HE hc4 hG2
        refine bH<|bZ hA ?_
        clear hA
        refine oa rfl rfl<|bB fun a hA=>v5 ?_
        cases hG2
        have ho:=hr2 _ rfl;subst ho
        replace hG1:some (.stop (Out.ret false))=some q1:=hG1
        cases hG1
        have ho:=hr1 _ rfl;subst ho
        replace hF:some false=some r:=hF
        cases hF
        exact fy Tryz.results212 hA rfl hS
       ·replace hG2:=HF hc4 hG2
        refine mC<|bZ hA ?_
        clear hA
        refine oy (v7 (m:=0) Tryz.underlying105 rfl rfl Tryz.sizeOf3 rfl rfl) rfl<|oy (gP rfl rfl Tryz.isAgg3 (hS.cell 1 rfl rfl)) rfl<|oy (Q8 rfl rfl rfl (by decide)) rfl ?_
        obtain⟨hn1,hG2⟩:=iQ hG2
        refine oy (UT Tryz.underlying238 Tryz.sizeOf4 hn1 rfl rfl rfl) rfl ?_
        obtain⟨x14,hx14,hG2⟩:=pW hG2
        refine K9 (aKF (xd:=true) hS (m:=0) rfl hx14 Tryz.sizeOf4 rfl rfl rfl rfl rfl rfl) (bN rfl) rfl ?_
        clear hS
        intro w hS
        refine bB fun a hA=>bZ hA ?_
        clear hA
        refine oy (F5 rfl rfl rfl) rfl<|om rfl rfl<|bB fun a hA=>?_
        cases hG2
        exact⟨_,rfl,⟨hA.part ⟨rfl,rfl,rfl,rfl,rfl,rfl,rfl,rfl,trivial⟩,((hS).IL [0] rfl).rV [0,1] rfl⟩⟩
     ·replace hG2:=HF hc3 hG2
      refine E1<|zN ?_
      cases hG2
      have ho:=hr2 _ rfl;subst ho
      exact⟨x10,rfl,hA.part ⟨rfl,rfl,rfl,rfl,rfl,trivial⟩,((hS).IL [0] rfl).rV [0] rfl⟩
    ·skip
     clear hA hS hl2
     rintro a w ⟨x11,heq,hA,hS⟩
     replace hG1:vJ x3 x11=some q1:=by rw [heq] at hG1;exact hG1
     clear heq
     unfold vJ at hG1
     refine bZ hA ?_
     clear hA
     refine oy (F5 rfl rfl rfl) rfl<|om rfl rfl<|bB fun a hA=>?_
     cases hG1
     exact⟨_,rfl,⟨hA.part ⟨rfl,rfl,rfl,rfl,rfl,trivial⟩,((hS).IL [0] rfl).rV [0] rfl⟩⟩
   ·replace hG1:=HF hc2 hG1
    refine E1<|zN ?_
    cases hG1
    have ho:=hr1 _ rfl;subst ho
    exact⟨rfl,hA.part ⟨rfl,trivial⟩,((hS).IL [] rfl).rV [0] rfl⟩
  ·skip
   clear hA hS hl1
   rintro a w ⟨heq,hA,hS⟩
   replace hF:vI l=some r:=by rw [heq] at hF;exact hF
   clear heq
   unfold vI at hF
   refine bH<|bZ hA ?_
   clear hA
   refine om rfl rfl ?_
   obtain⟨x5,hx5,hF⟩:=pW hF
   refine SD (E5 Tryz.call35 rfl rfl) (bN rfl) rfl rfl (RS (l:=l) (hS.rd 0 rfl) hx5) ?_
   rintro _ w ⟨rfl,hk⟩
   replace hS:=hS.after hk;clear hk
   refine oy (aFB rfl rfl rfl) rfl<|oa rfl rfl<|bB fun a hA=>v5 ?_
   cases hF
   exact fy Tryz.results212 hA rfl hS
end Go.Proofs.YtbdmodalljibjaaGreat
end
