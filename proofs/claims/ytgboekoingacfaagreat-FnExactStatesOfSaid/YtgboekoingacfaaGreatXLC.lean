import Derived.Test.YtgboekoingacfaaGreatXLB
import Derived.Test.YtgboekoingacfaaGreatProg
set_option linter.unusedVariables false
set_option linter.unusedSimpArgs false
set_option linter.unusedSectionVars false
set_option linter.constructorNameAsVariable false
set_option linter.unnecessarySimpa false
noncomputable section
set_option linter.unusedVariables false
namespace Go.Gv
def W{ρ:Type}(C:Prop)(r:ρ)(F:Option ρ):Prop:=F=some r→C
theorem wm{ρ:Type}{C:Prop}{r:ρ}{F F':Option ρ}(h:F'=F)(k:W C r F):W C r F':=h ▸ k
theorem wi{ρ:Type}{C:Prop}{r:ρ}{F:Option ρ}(h:F=some r)(k:W C r F):C:=k h
def VS(P:Program)(c:Ctx)(f:FuncId){ρ ex:Type}(F:Option ρ)(xs:List SV)(B0:Bl)(L0:List Ch)(sv:ρ→ex→SV)(Lf:ρ→ex→List Ch):Prop:=∀r,F=some r→FnS P f c xs B0 L0 sv Lf r
abbrev V0(P:Program)(c:Ctx)(f:FuncId){ρ:Type}(F:Option ρ)(xs:List SV)(sv:ρ→SV):Prop:=VS P c f F xs [] [] (fun r (_:Unit)=>sv r) (fun _ _=>[])
theorem VS.r{P:Program}{c:Ctx}{f:FuncId}{ρ ex:Type}{F:Option ρ}{xs:List SV}{B0:Bl}{L0:List Ch}{sv:ρ→ex→SV}{Lf:ρ→ex→List Ch}(h:VS P c f F xs B0 L0 sv Lf){r:ρ}(hF:F=some r):FnS P f c xs B0 L0 sv Lf r:=h r hF
def QR(P:Program)(fn:Func){rs:List ResultVar}(_:fn.results=rs.toArray)(c:Ctx)(B0:Bl){ρ ex:Type}(sv:ρ→ex→SV)(Lf:ρ→ex→List Ch)(r:ρ):Act→World→Prop:=QS P fn c B0 sv Lf r
def a1X(T:TT)(rs:List ResultVar)(is:List Nat)(b0:Nat)(L2:List Ch):Stop→Option (SV×List Ch)
  | .ret m e L => match aWH T e L rs with
    | some x => match V4 b0 (nbS x) with
      | true => match asT b0 m e L is b0 [] L2 with
        | some ([],L3)=>some (nbS x,L3)
        | _=>none
      | false=>none
    | none=>none
  | _=>none
def aYY(is:List Nat)(b0 mj:Nat)(ej:SE)(Lj:List Ch):Stop→Option (SE×List Ch)
  | .fin m e L=>asT b0 m e L is mj ej Lj
  | _=>none
def exQ(is:List Nat)(id b0 mj:Nat)(ej:SE)(Lj:List Ch):Stop→Option (SE×List Ch)
  | .ex i m e L => match Nat.beq i id with
    | true=>asT b0 m e L is mj ej Lj
    | false=>none
  | _=>none
def a7W:Stop→Stop
  | .fin m e L=>.ret m e L
  | _=>.stuck
def ixT(T:TT)(t n:Nat):Bool:=match KG T t with
  | some ⟨.sl el, _, _, _⟩ => match KG T el with
    | some ⟨_,_,sz,_⟩=>Nat.beq n sz
    | none=>false
  | _=>false
noncomputable section
variable {P:Program} {T:TT} {hT:LS P T} {n:Nat} {c:Ctx} {B0:Bl} {N:Act→World→Prop} {X:Nat→Act→World→Prop} {Q:Act→World→Prop} {K K':List Fr} {m m':Nat} {e e':SE} {L L' Lv:List Ch} {cf cf' cf1 cf2:F9} {o:Oper}
theorem bM(hT:LS P T){f:FuncId}{fn:Func}{cd:Code}{xs:List SV}{L0:List Ch}{ρ ex:Type}{sv:ρ→ex→SV}{Lf:ρ→ex→List Ch}{F:Option ρ}{rs:List ResultVar}(hc:∀args w,(callFunc f args).run P w=.ok (.enter f args) w)(hf:P.funcs[f]?=some fn)(hr:fn.results=rs.toArray)(hb:fn.body=some cd)(hm:fn.ntmps=n)
    (k:∀{r},W (G (.mk P T hT n c B0 (QR P fn hr c B0 sv Lf r) (fun _ _ _=>False) (QR P fn hr c B0 sv Lf r)) [] B0.length (aSD 0 xs) L0 (.c cd)) r F) (hl:Nat.ble xs.length n=true:=by exact rfl):VS P c f F xs B0 L0 sv Lf:=
  fun _ hF=>en n hc hf hT hb hm hl (k hF)
theorem aYF{rs:List ResultVar}{is:List Nat}{b0:Nat}{L2 L3:List Ch}{s:SV}{st:Stop}(h:a1X T rs is b0 L2 st=some (s,L3)):∃m' e' L' x,st=.ret m' e' L'∧aWH T e' L' rs=some x∧nbS x=s∧V4 b0 s=true∧asT b0 m' e' L' is b0 [] L2=some ([],L3):=by
  unfold a1X at h
  split at h
  · split at h
    · rename_i h1
      split at h
      · rename_i h2
        split at h
        · rename_i h3
          cases h
          exact⟨_,_,_,_,rfl,h1,rfl,h2,h3⟩
        · cases h
      · cases h
    · cases h
  · cases h
theorem gL{fn:Func}{ρ ex:Type}{sv:ρ→ex→SV}{Lf:ρ→ex→List Ch}{r r':ρ}{rs:List ResultVar}{hr:fn.results=rs.toArray}{zz:Option ρ}(y:ex)(is:List Nat)(hz:zz=some r')(h:a1X T rs is B0.length (Lf r' y) (wD T n K cf m e L)=some (sv r' y,Lf r' y)):W (G (.mk P T hT n c B0 N X (QR P fn hr c B0 sv Lf r)) K m e L cf) r zz:=fun hF=>by
  obtain⟨_,_,_,_,h1,h2,h3,h4,h5⟩:=aYF h
  exact rt y is hF hz h1 hr h2 h3 h4 h5
theorem aY{fn:Func}{ρ:Type}{sv:ρ→Unit→SV}{Lf:ρ→Unit→List Ch}{r r':ρ}{rs:List ResultVar}{hr:fn.results=rs.toArray}{zz:Option ρ}(hz:zz=some r')(h:a1X T rs [] B0.length (Lf r' ()) (wD T n K cf m e L)=some (sv r' (),Lf r' ())):W (G (.mk P T hT n c B0 N X (QR P fn hr c B0 sv Lf r)) K m e L cf) r zz:=gL () [] hz h
theorem Z4{fn:Func}{ρ ex:Type}{sv:ρ→ex→SV}{Lf:ρ→ex→List Ch}{r r':ρ}{rs:List ResultVar}{hr:fn.results=rs.toArray}{zz:Option ρ}(y:ex)(is:List Nat)(hz:zz=some r')(h:a1X T rs is B0.length (Lf r' y) (a7W (wD T n K cf m e L))=some (sv r' y,Lf r' y)):W (G (.mk P T hT n c B0 (QR P fn hr c B0 sv Lf r) X Q) K m e L cf) r zz:=fun hF=>by
  obtain⟨m',e',L',_,h1,h2,h3,h4,h5⟩:=aYF h
  refine rf y is hF hz (m':=m') (e':=e') (L':=L') ?_ hr h2 h3 h4 h5
  unfold a7W at h1
  split at h1
  · rename_i h0;rw [h0];cases h1;rfl
  · cases h1
theorem aYG{is:List Nat}{b0 mj:Nat}{ej e3:SE}{Lj L3:List Ch}{st:Stop}(h:aYY is b0 mj ej Lj st=some (e3,L3)):∃m' e' L',st=.fin m' e' L'∧asT b0 m' e' L' is mj ej Lj=some (e3,L3):=by
  unfold aYY at h
  split at h
  · exact⟨_,_,_,rfl,h⟩
  · cases h
theorem pE{π υ α:Type}{eq:π→Prop}{mj:Nat}{ej:π→υ→SE}{Lj:π→υ→List Ch}{p:π}{q:α}{zz:Option α}(u:υ)(is:List Nat)(hz:(zz=some q)=eq p)(h:aYY is B0.length mj (ej p u) (Lj p u) (wD T n K cf m e L)=some (ej p u,Lj p u)):W (G (.mk P T hT n c B0 (JP n c B0 eq mj ej Lj) X Q) K m e L cf) q zz:=fun hF=>by
  obtain⟨_,_,_,h1,h2⟩:=aYG h
  exact jn u is (hz ▸ hF) h1 h2
theorem cR{π α:Type}{eq:π→Prop}{mj:Nat}{ej:π→Unit→SE}{Lj:π→Unit→List Ch}{p:π}{q:α}{zz:Option α}(is:List Nat)(hz:(zz=some q)=eq p)(h:aYY is B0.length mj (ej p ()) (Lj p ()) (wD T n K cf m e L)=some (ej p (),Lj p ())):W (G (.mk P T hT n c B0 (JP n c B0 eq mj ej Lj) X Q) K m e L cf) q zz:=pE () is hz h
theorem nxW{σ ρ υ:Type}{o:Step σ ρ}{mj:Nat}{el:σ→υ→SE}{Ll:σ→υ→List Ch}{s:σ}(u:υ)(is:List Nat)(h:aYY is B0.length mj (el s u) (Ll s u) (wD T n K cf m e L)=some (el s u,Ll s u)):W (G (.mk P T hT n c B0 (NxP n c B0 o mj el Ll) X Q) K m e L cf) o (some (Step.next s)):=fun hF=>by
  obtain⟨_,_,_,h1,h2⟩:=aYG h
  exact nx u is hF h1 h2
theorem pX{σ ρ:Type}{o:Step σ ρ}{mj:Nat}{el:σ→Unit→SE}{Ll:σ→Unit→List Ch}{s:σ}(is:List Nat)(h:aYY is B0.length mj (el s ()) (Ll s ()) (wD T n K cf m e L)=some (el s (),Ll s ())):W (G (.mk P T hT n c B0 (NxP n c B0 o mj el Ll) X Q) K m e L cf) o (some (Step.next s)):=nxW () is h
def BkR(n:Nat)(c:Ctx)(B0:Bl){β ρ σ υ:Type}{o:Step σ ρ}{ro:ρ}(_:∀p,o=.stop p→p=ro)(enc:β→ρ)(m:Nat)(ej:β→υ→SE)(Lj:β→υ→List Ch)(id:Nat)(X:Nat→Act→World→Prop):Nat→Act→World→Prop:=BkP n c B0 ro enc m ej Lj id X
theorem bkW{σ ρ β υ:Type}{o:Step σ ρ}{ro:ρ}{enc:β→ρ}{mj id:Nat}{ej:β→υ→SE}{Lj:β→υ→List Ch}{b:β}{hr:∀p,o=.stop p→p=ro}(u:υ)(is:List Nat)(h:exQ is id B0.length mj (ej b u) (Lj b u) (wD T n K cf m e L)=some (ej b u,Lj b u)):W (G (.mk P T hT n c B0 N (BkR n c B0 hr enc mj ej Lj id X) Q) K m e L cf) o (some (Step.stop (enc b))):=fun hF=>by
  unfold exQ at h
  split at h
  · rename_i h0
    split at h
    · rename_i hb
      rw [Nat.eq_of_beq_eq_true hb] at h0
      exact bk u is hF hr h0 h
    · cases h
  · cases h
theorem jE{σ ρ β:Type}{o:Step σ ρ}{ro:ρ}{enc:β→ρ}{mj id:Nat}{ej:β→Unit→SE}{Lj:β→Unit→List Ch}{b:β}{hr:∀p,o=.stop p→p=ro}(is:List Nat)(h:exQ is id B0.length mj (ej b ()) (Lj b ()) (wD T n K cf m e L)=some (ej b (),Lj b ())):W (G (.mk P T hT n c B0 N (BkR n c B0 hr enc mj ej Lj id X) Q) K m e L cf) o (some (Step.stop (enc b))):=bkW () is h
theorem eX{σ ρ α:Type}{o:Step σ ρ}{p ro:ρ}{F:ρ→Option α}{q:α}{C:Prop}(hr:∀p,o=.stop p→p=ro)(hF:F ro=some q)(k:W C q (F p)):W C o (some (Step.stop p)):=fun h=>k (re h rfl hr hF)
noncomputable section
variable {b:Bool} {α:Type} {A B':Option α} {q:α}
theorem aV{o:Operand}{x y:Code}(ss:List Nat)(hs:wD T n K cf m e L=.cond o b x y K' m' e' L')(ho:cV (RQ e') ss=some (ss.map fun _=>SV.b b))
    (k1:W (G (.mk P T hT n c B0 N X Q) K' m' (ovr true e' ss) L' (.c x)) q A) (k2:W (G (.mk P T hT n c B0 N X Q) K' m' (ovr false e' ss) L' (.c y)) q B'):W (G (.mk P T hT n c B0 N X Q) K m e L cf) q (if b=true then A else B'):=fun hF=>cs ss hs ho hF k1 k2
theorem aU9{o:Operand}{x y:Code}(ss:List Nat)(hs:wD T n K cf m e L=.cond o b x y K' m' e' L')(ho:cV (RQ e') ss=some (ss.map fun _=>SV.b b))
    (k1:b=true→W (G (.mk P T hT n c B0 N X Q) K' m' (ovr true e' ss) L' (.c x)) q A) (k2:b=false→W (G (.mk P T hT n c B0 N X Q) K' m' (ovr false e' ss) L' (.c y)) q B'):W (G (.mk P T hT n c B0 N X Q) K m e L cf) q (if b=true then A else B'):=fun hF=>csK ss hs ho hF k1 k2
theorem fN(ss:List Nat)(hs:wD T n K cf m e L=.case b cf' K' m' e' L')(ho:cV (RQ e') ss=some (ss.map fun _=>SV.b b))
    (k1:W (G (.mk P T hT n c B0 N X Q) K' m' (ovr true e' ss) L' cf') q A) (k2:W (G (.mk P T hT n c B0 N X Q) K' m' (ovr false e' ss) L' cf') q B'):W (G (.mk P T hT n c B0 N X Q) K m e L cf) q (if b=true then A else B'):=fun hF=>ca ss hs ho hF k1 k2
theorem aVA(ss:List Nat)(hs:wD T n K cf m e L=.case b cf' K' m' e' L')(ho:cV (RQ e') ss=some (ss.map fun _=>SV.b b))
    (k1:b=true→W (G (.mk P T hT n c B0 N X Q) K' m' (ovr true e' ss) L' cf') q A) (k2:b=false→W (G (.mk P T hT n c B0 N X Q) K' m' (ovr false e' ss) L' cf') q B'):W (G (.mk P T hT n c B0 N X Q) K m e L cf) q (if b=true then A else B'):=fun hF=>caK ss hs ho hF k1 k2
end
noncomputable section
variable {α β:Type} {fo:Option α} {kf:α→Option β} {q:β} {d:Nat} {f:FuncId} {xs:List SV}
theorem c0{sv:α→SV}(hs:wD T n K cf m e L=.call o (some d) f xs cf1 cf2 K' m' e' L')
    (hc:∀{w},HS c w L'→V0 P (gA w) f fo xs sv) (k:∀x,W (G (.mk P T hT n c B0 N X Q) K' m' ((d,sv x) :: e') L' cf2) q (kf x)):W (G (.mk P T hT n c B0 N X Q) K m e L cf) q (fo.bind kf):=fun hF=>cl0 hs (fun h _ hx=>hc h _ hx) hF fun x _ h=>k x h
theorem c1{ex:Type}{sv:α→ex→SV}{Lf:α→ex→List Ch}(hs:wD T n K cf m e L=.call o (some d) f xs cf1 cf2 K' m' e' L')
    (hc:∀{w},HS c w L'→VS P (gA w) f fo xs [] [] sv Lf) (k:∀x,∀y:ex,W (G (.mk P T hT n c B0 N X Q) K' m' ((d,sv x y) :: e') (L'++Lf x y) cf2) q (kf x)) (hn:∀x y,noF (Lf x y)=true:=by exact fun _ _=>rfl):W (G (.mk P T hT n c B0 N X Q) K m e L cf) q (fo.bind kf):=fun hF=>cl hs hn (fun h _ hx=>hc h _ hx) hF fun x _ h y=>k x y h
theorem eG{β:Type}{kf:α→Option β}{q:β}{iR:bC α}(C:UA α){d t:Nat}{s:AC}{i:Int}{ls:List α}(hs:wD T n K cf m e L=.idx o d t s ls.length i Lv cf1 cf2 K' m' e' L')(h1:aQ c s ls)(ht:ixT T t (bC.n α)=true)
    (k:∀x,∀y:C.ex,C.sub c.S0 c.w0 x y→W (G (.mk P T hT n c B0 N X Q) K' (m'+1) ((d,.p m' 0) :: e') (L' ++ [.ro m' (C.cs x y)]) (cf2.ext [.ro m' (C.cs x y)])) q (kf x)):W (G (.mk P T hT n c B0 N X Q) K m e L cf) q ((idx ls i).bind kf):=fun hF=>by
  unfold ixT at ht
  split at ht
  · rename_i h2
    split at ht
    · rename_i h3
      exact ix C hs h1 hF h2 h3 (Nat.eq_of_beq_eq_true ht) fun x _ h y hy=>k x y hy h
    · cases ht
  · cases ht
theorem UT{β:Type}{kf:Int→Option β}{q:β}{d t:Nat}{s:AC}{i:Int}{ls:List Int}(hs:wD T n K cf m e L=.idx o d t s ls.length i Lv cf1 cf2 K' m' e' L')(h1:aQ c s ls)(ht:ixT T t 1=true)
    (k:∀x,W (G (.mk P T hT n c B0 N X Q) K' (m'+1) ((d,.p m' 0) :: e') (L' ++ [.ro m' [.i .i64 x]]) (cf2.ext [.ro m' [.i .i64 x]])) q (kf x)):W (G (.mk P T hT n c B0 N X Q) K m e L cf) q ((idx ls i).bind kf):=eG cI hs h1 ht fun x _ _=>k x
theorem jP(hm:P.follows .mixedOrders=true){id:Nat}{ops:Array Oper}{zz:Option β}(is:List Nat)(hs:wD T n K cf m e L=.rgn id ops K' m' e' L')
    (k:∀{B1},W (G (.mk P T hT n c B0 N X Q) K' m' e' L' (.d B1 ops (List.replicate ops.size false) is (kl L' is) (kl L' is))) q zz) (hf:(aUR ops && (okL m' (kl L' is) && (kY is && is.all fun j=>Nat.blt j L'.length)))=true:=by kernel_rfl):W (G (.mk P T hT n c B0 N X Q) K m e L cf) q zz:=fun hF=>dr is hs hm hf fun _=>k hF
theorem mH{π υ:Type}{zz:Option β}(j mj:Nat)(Fj:π→Option β)(ks:List Nat)(ej:π→υ→SE)(is:List Nat)(Lj:π→υ→List Ch)(hs:aHE (wD T n K cf m e L)=some (K',cf',m',e',L'))
    (k1:W (G (.mk P T hT n c B0 (JP n c B0 (fun p=>Fj p=some q) mj (fun p u=>ej p u++kp e' ks) (fun p u=>Lj p u++kl L' is)) (XK (.mk P T hT n c B0 N X Q) (K'.drop j)) Q) (K'.take j) m' e' L' cf') q zz)
    (k2:∀p u,W (G (.mk P T hT n c B0 N X Q) (K'.drop j) mj (ej p u++kp e' ks) (Lj p u++kl L' is) .n) q (Fj p)):W (G (.mk P T hT n c B0 N X Q) K m e L cf) q zz:=fun hF=>cut j mj (fun p=>Fj p=some q) ks ej is Lj hs (k1 hF) fun p u h=>k2 p u h
theorem fS{zz:Option β}(j mj:Nat)(Fj:Bool→Option β)(ks:List Nat)(v:Nat)(is:List Nat)(hs:aHE (wD T n K cf m e L)=some (K',cf',m',e',L'))
    (k1:W (G (.mk P T hT n c B0 (JP n c B0 (fun p=>Fj p=some q) mj (fun p (_:Unit)=>[(v,.b p)]++kp e' ks) (fun _ _=>[]++kl L' is)) (XK (.mk P T hT n c B0 N X Q) (K'.drop j)) Q) (K'.take j) m' e' L' cf') q zz)
    (k2:∀p,W (G (.mk P T hT n c B0 N X Q) (K'.drop j) mj ([(v,.b p)]++kp e' ks) ([]++kl L' is) .n) q (Fj p)):W (G (.mk P T hT n c B0 N X Q) K m e L cf) q zz:=mH j mj Fj ks (fun p (_:Unit)=>[(v,.b p)]) is (fun _ _=>[]) hs k1 fun p _=>k2 p
theorem mQ{σ ρ υ γ ω:Type}{id:Nat}{y:Code}{fb:σ→Option (Step σ ρ)}{s0:σ}{gk:ρ→Option β}(u0:υ)(ks:List Nat)(el:σ→υ→SE)(is0 is:List Nat)(Ll:σ→υ→List Ch)(enc:γ→ρ)(kb:List Nat)(ej:γ→ω→SE)(ib:List Nat)(Lj:γ→ω→List Ch)
    (hs:wD T n K cf m e L=.loop id y K' m' e' L')
    (h0:asT B0.length m' e' L' is0 m' (el s0 u0++kp e' ks) (Ll s0 u0++kl L' is)=some (el s0 u0++kp e' ks,Ll s0 u0++kl L' is))
    (k1:∀{ro o},gk ro=some q→∀s u,(hr:∀p,o=.stop p→p=ro)→W (G (.mk P T hT n c B0 (NxP n c B0 o m' (fun s u=>el s u++kp e' ks) (fun s u=>Ll s u++kl L' is)) (BkR n c B0 hr enc m' (fun b u=>ej b u++kp e' kb) (fun b u=>Lj b u++kl L' ib) id (XK (.mk P T hT n c B0 N X Q) K')) Q) [] m' (el s u++kp e' ks) (Ll s u++kl L' is) (.c y)) o (fb s))
    (k2:∀b u,W (G (.mk P T hT n c B0 N X Q) K' m' (ej b u++kp e' kb) (Lj b u++kl L' ib) .n) q (gk (enc b))):W (G (.mk P T hT n c B0 N X Q) K m e L cf) q ((loop fb s0).bind gk):=fun hF=>
  lp u0 ks el is0 is Ll enc kb ej ib Lj hs hF h0 (fun ro h1 s u o h2 h3=>k1 h1 s u h3 h2) fun b u h=>k2 b u h
theorem CH{ρ:Type}{id:Nat}{y:Code}{fb:Int→Option (Step Int ρ)}{s0:Int}{gk:ρ→Option β}(v:Nat)(ks:List Nat)(is:List Nat)(enc:Unit→ρ)(kb:List Nat)(ib:List Nat)
    (hs:wD T n K cf m e L=.loop id y K' m' e' L')
    (h0:asT B0.length m' e' L' is m' ([(v,.i .i64 s0)]++kp e' ks) ([]++kl L' is)=some ([(v,.i .i64 s0)]++kp e' ks,[]++kl L' is))
    (k1:∀{ro o},gk ro=some q→∀s,(hr:∀p,o=.stop p→p=ro)→W (G (.mk P T hT n c B0 (NxP n c B0 o m' (fun s (_:Unit)=>[(v,.i .i64 s)]++kp e' ks) (fun _ _=>[]++kl L' is)) (BkR n c B0 hr enc m' (fun _ (_:Unit)=>[]++kp e' kb) (fun _ _=>[]++kl L' ib) id (XK (.mk P T hT n c B0 N X Q) K')) Q) [] m' ([(v,.i .i64 s)]++kp e' ks) ([]++kl L' is) (.c y)) o (fb s))
    (k2:W (G (.mk P T hT n c B0 N X Q) K' m' ([]++kp e' kb) ([]++kl L' ib) .n) q (gk (enc ()))):W (G (.mk P T hT n c B0 N X Q) K m e L cf) q ((loop fb s0).bind gk):=
  mQ () ks (fun s (_:Unit)=>[(v,.i .i64 s)]) is is (fun _ _=>[]) enc kb (fun _ (_:Unit)=>[]) ib (fun _ _=>[]) hs h0 (fun h s _ hr=>k1 h s hr) fun _ _=>k2
theorem mP{β:Type}{kf:α→Option β}{q:β}[bC α](E:CO α)(j:Nat){t:TypeId}{s:AC}{i:Int}{ls:List α}(hs:wD T n K cf m e L=.idx o d t s ls.length i Lv cf1 cf2 K' m' e' L')(hj:L'[j]?=some (ow s ls))(hz:pI j cf1.LU=true)
    (k:∀x,idx ls i=some x→∀y:E.ex,Shp s ls.length→W (G (.mk P T hT n c B0 N X Q) K' (m'+1) e' (L'.set j .no++([.o (LI (s.v ls.length) ls i.toNat),.box m' (E.cs x y),wOf α m' s ls.length i.toNat]++E.Lx x y)) (cf1.ext [wOf α m' s ls.length i.toNat])) q (kf x)):W (G (.mk P T hT n c B0 N X Q) K m e L cf) q ((idx ls i).bind kf):=fun hF=>oe E j hs hj hz hF fun x h1 h2 y h3=>k x h1 y h3 h2
end
noncomputable section
variable {α β ex:Type} {fo:Option α} {kf:α→Option β} {q:β} {d:Option Nat} {f:FuncId} {xs xs0:List SV} {M:List Ch} {sv:α→ex→SV} {Lr:α→ex→List Ch}
theorem fZ(is:List Nat)
    (hs:cpS (wD T n K cf m e L)=some (o,d,f,xs,cf1,cf2,K',m',e',L')) (hi:cV (fun i=>L'[i]?) is=some M) (hx:cV (rnP [] 0) xs=some xs0)
    (hk:(aD5 M && (kY is && is.all fun j=>pI j cf1.LU))=true)
    (hc:∀{κ:Ctx},HG c κ L' is→VS P κ f fo xs0 [] M sv Lr)
    (k:∀x,∀y:ex,W (G (.mk P T hT n c B0 N X Q) K' m' (dse d (sv x y) e') (blk L' is++Lr x y) cf2) q (kf x)) (hn:∀x y,(aD5 (Lr x y) && V4 0 (sv x y))=true:=by exact fun _ _=>rfl):W (G (.mk P T hT n c B0 N X Q) K m e L cf) q (fo.bind kf):=fun hF=>
  cw0 is hs hi hx hk hn (fun h _ hx=>hc h _ hx) hF fun x _ h y=>k x y h
theorem pG{c1:List SV}{a1:α→ex→List SV}(i1 n1 o1 k1:Nat)(is:List Nat)
    (hs:cpS (wD T n K cf m e L)=some (o,d,f,xs,cf1,cf2,K',m',e',L')) (hb:aU2 L' [(i1,n1,o1,k1)]=some [c1]) (hi:cV (fun i=>L'[i]?) is=some M) (hx:cV (rnP [(i1,n1,o1,k1)] 0) xs=some xs0)
    (hk:(aD5 M && ([c1].all (V4.okC 0) && (kY (i1 :: is) && (i1 :: is).all fun j=>pI j cf1.LU)))=true)
    (hc:∀{κ:Ctx},HG c κ L' (i1 :: is)→∀{b1:Nat×Nat},VS P κ f fo xs0 [b1] (.box 0 c1 :: M) sv (fun x y=>.box 0 (a1 x y) :: Lr x y))
    (k:∀x,∀y:ex,W (G (.mk P T hT n c B0 N X Q) K' m' (dse d (sv x y) e') (aBN L' (blk L' (i1 :: is)++Lr x y) [(i1,n1,o1,k1)] [a1 x y]) cf2) q (kf x)) (hn:∀x y,(aOI [(i1,n1,o1,k1)] [a1 x y] && ([a1 x y].all (V4.okC 0) && (aD5 (Lr x y) && V4 0 (sv x y))))=true:=by exact fun _ _=>rfl):W (G (.mk P T hT n c B0 N X Q) K m e L cf) q (fo.bind kf):=fun hF=>
  cw1 i1 n1 o1 k1 is hs hb hi hx hk hn (fun h _ _ hx=>hc h _ hx) hF fun x _ h y=>k x y h
theorem aL0{c1 c2:List SV}{a1 a2:α→ex→List SV}(i1 n1 o1 k1:Nat)(i2 n2 o2 k2:Nat)(is:List Nat)
    (hs:cpS (wD T n K cf m e L)=some (o,d,f,xs,cf1,cf2,K',m',e',L')) (hb:aU2 L' [(i1,n1,o1,k1),(i2,n2,o2,k2)]=some [c1,c2]) (hi:cV (fun i=>L'[i]?) is=some M) (hx:cV (rnP [(i1,n1,o1,k1),(i2,n2,o2,k2)] 0) xs=some xs0)
    (hk:(aD5 M && ([c1,c2].all (V4.okC 0) && (kY (i1 :: i2 :: is) && (i1 :: i2 :: is).all fun j=>pI j cf1.LU)))=true)
    (hc:∀{κ:Ctx},HG c κ L' (i1 :: i2 :: is)→∀{b1 b2:Nat×Nat},VS P κ f fo xs0 [b1,b2] (.box 0 c1 :: .box 1 c2 :: M) sv (fun x y=>.box 0 (a1 x y) :: .box 1 (a2 x y) :: Lr x y))
    (k:∀x,∀y:ex,W (G (.mk P T hT n c B0 N X Q) K' m' (dse d (sv x y) e') (aBN L' (blk L' (i1 :: i2 :: is)++Lr x y) [(i1,n1,o1,k1),(i2,n2,o2,k2)] [a1 x y,a2 x y]) cf2) q (kf x)) (hn:∀x y,(aOI [(i1,n1,o1,k1),(i2,n2,o2,k2)] [a1 x y,a2 x y] && ([a1 x y,a2 x y].all (V4.okC 0) && (aD5 (Lr x y) && V4 0 (sv x y))))=true:=by exact fun _ _=>rfl):W (G (.mk P T hT n c B0 N X Q) K m e L cf) q (fo.bind kf):=fun hF=>
  cw2 i1 n1 o1 k1 i2 n2 o2 k2 is hs hb hi hx hk hn (fun h _ _ _ hx=>hc h _ hx) hF fun x _ h y=>k x y h
end
theorem aDP{α β:Type}{iR:bC α}{C:UA α}{sr:β→SV}{g:FuncId}{w:World}{p:α→Option β}(hc:∀args w,(callFunc g args).run P w=.ok (.enter g args) w)(hn:∀{κ:Ctx} {x y},C.sub κ.S0 κ.w0 x y→V0 P κ g (p x) [C.sv x y] sr):Fu1 P (gA w) C sr g [] p:=fu1 hc (by intro κ x y h q hq;exact hn h _ hq)
theorem aHN{α β:Type}{iR:bC α}{C:UA α}{sr:β→SV}{g:FuncId}{w:World}{Bs:Bl}{cs:List (Nat×List SV)}{p:α→Option β}(hc:∀args w,(callFunc g args).run P w=.ok (.enter g args) w)(hB:∀w1,qT F0 w w1→B9 (gA w1) w1 Bs (roL 0 cs))(hl:cV (qU Bs) (a1H 0 cs)=some (aOH Bs))(hn:∀{w1 x y},qT F0 w w1→C.sub (Z6 w1) w1 x y→VS P (gA w1) g (p x) (C.sv x y :: a1H 0 cs) Bs (roL 0 cs) (fun r (_:Unit)=>sr r) (fun _ _=>[]))(hz:∀q,V4 0 (sr q)=true:=by exact fun _=>rfl):Fu1 P (gA w) C sr g (aOH Bs) p:=fk1 hc hB hl hz (by intro w1 x y h h' q hq;exact hn h h' _ hq)
noncomputable section
variable {α β:Type} {fo:Option α} {kf:α→Option β} {q:β} {d:Nat} {f g:FuncId} {xs:List SV} {sv:α→SV}
theorem aHO{n1:Nat}{c1:List SV}(is:List Nat)(hs:wD T n K cf m e L=.callp o (some d) f xs cf1 cf2 K' m' e' L')(hk:kl L' is=[.ro n1 c1])(ho:(aUY [(n1,c1)] && okA xs.dropLast)=true)(hx:xs=xs.dropLast ++ [.f g [n1]])
    (hc:∀{w},HS c w L'→∀{b1:Nat×Nat},(∀w1,qT F0 w w1→B9 (gA w1) w1 [b1] [.ro 0 c1])→V0 P (gA w) f fo (xs.dropLast ++ [.k (.func (.func g) #[] (aOH [b1]).toArray)]) sv)
    (k:∀x,W (G (.mk P T hT n c B0 N X Q) K' m' ((d,sv x) :: e') L' cf2) q (kf x)):W (G (.mk P T hT n c B0 N X Q) K m e L cf) q (fo.bind kf):=fun hF=>
  a8H is hs hk ho hx (fun h _ h2 _ hx=>hc h h2 _ hx) hF fun x _ h=>k x h
end
end
end Go.Gv
end
noncomputable section
namespace Go.Gv
structure aC where
  Bytes:List Int
  Class:List Int
  deriving DecidableEq,Inhabited
instance:bC aC:=bC.via (fun d=>(d.Bytes,d.Class))
instance:Fits aC:=Fits.via (fun d=>(d.Bytes,d.Class))
theorem a37{S:gI}{w:World}{cs:List Value}{d:aC}(h:bC.rd S w cs d):∃v0 v1:Value,cs=[v0,v1]∧bC.rd S w [v0] d.Bytes∧bC.rd S w [v1] d.Class:=by
  obtain⟨c0,r0,e0,h0,n0⟩:=h
  obtain⟨u0,q0⟩:=lU h0
  rw [q0] at h0
  obtain⟨u1,q1⟩:=lU n0
  rw [q1] at n0
  exact⟨u0,u1,by rw [e0,q0,q1];rfl,h0,n0⟩
structure aG where
  bB:List Int
  deriving DecidableEq,Inhabited
instance:bC aG:=bC.via (fun d=>(d.bB))
instance:Fits aG:=Fits.via (fun d=>(d.bB))
theorem aVB{S:gI}{w:World}{cs:List Value}{d:aG}(h:bC.rd S w cs d):∃v0:Value,cs=[v0]∧bC.rd S w [v0] d.bB:=by
  obtain⟨u0,q0⟩:=lU h
  rw [q0] at h
  exact⟨u0,q0,h⟩
theorem mW(d:aG){v0:Value}:OP [v0] d [bH [v0] d.bB]:=(show OP (α:=(List Int)) _ (d.bB) _ from rG)
theorem _root_.Go.Gv.St.a1Y{c:Ctx}{L:List Chunk}{R:List Fact}{w:World}{s:Value}{l:List aG}{i:Nat}{x:aG}(h:St c w L R)(j:Nat)(hj:R[j]?=some (OZ [s] l))(hi:l[i]?=some x):∃v0:Value,fH w (elB s) (elO 1 i s) [v0]∧St c w L (R ++ [OZ [v0] x.bB]):=by
  obtain⟨S,hS,hk⟩:=h.aZX hj
  obtain⟨ec,h1,h2⟩:=aUI hS hi
  obtain⟨v0,q,q0⟩:=aVB h2
  rw [q] at h1
  exact⟨v0,h1,hk _ (by intro f hf;simp only [List.mem_cons,List.not_mem_nil,or_false] at hf;subst hf;exact q0)⟩
structure aB where
  Global:List aG
  bA:List aG
  deriving DecidableEq,Inhabited
instance:bC aB:=bC.via (fun d=>(d.Global,d.bA))
instance:Fits aB:=Fits.via (fun d=>(d.Global,d.bA))
theorem a1Z{S:gI}{w:World}{cs:List Value}{d:aB}(h:bC.rd S w cs d):∃v0 v1:Value,cs=[v0,v1]∧bC.rd S w [v0] d.Global∧bC.rd S w [v1] d.bA:=by
  obtain⟨c0,r0,e0,h0,n0⟩:=h
  obtain⟨u0,q0⟩:=lU h0
  rw [q0] at h0
  obtain⟨u1,q1⟩:=lU n0
  rw [q1] at n0
  exact⟨u0,u1,by rw [e0,q0,q1];rfl,h0,n0⟩
structure Mem where
  aC:aC
  aB:aB
  deriving DecidableEq,Inhabited
instance:bC Mem:=bC.via (fun d=>(d.aC,d.aB))
instance:Fits Mem:=Fits.via (fun d=>(d.aC,d.aB))
theorem a6D{S:gI}{w:World}{cs:List Value}{d:Mem}(h:bC.rd S w cs d):∃v0 v1 v2 v3:Value,cs=[v0,v1,v2,v3]∧bC.rd S w [v0] d.aC.Bytes∧bC.rd S w [v1] d.aC.Class∧bC.rd S w [v2] d.aB.Global∧bC.rd S w [v3] d.aB.bA:=by
  obtain⟨c0,r0,e0,h0,n0⟩:=h
  obtain⟨u0_0,u0_1,q0,hq0_0,hq0_1⟩:=a37 h0
  obtain⟨u1_0,u1_1,q1,hq1_0,hq1_1⟩:=a1Z n0
  exact⟨u0_0,u0_1,u1_0,u1_1,by rw [e0,q0,q1];rfl,hq0_0,hq0_1,hq1_0,hq1_1⟩
structure cQ where
  On:Bool
  aJ:Int
  jD:Bool
  Seen:Int
  deriving DecidableEq,Inhabited
instance:bC cQ:=bC.via (fun d=>(d.On,d.aJ,d.jD,d.Seen))
instance:Fits cQ:=Fits.via (fun d=>(d.On,d.aJ,d.jD,d.Seen))
theorem a6E{S:gI}{w:World}{cs:List Value}{d:cQ}(h:bC.rd S w cs d):cs=[.bool (d.On),.int .i64 (d.aJ),.bool (d.jD),.int .i64 (d.Seen)]:=by
  obtain⟨c0,r0,e0,h0,n0⟩:=h
  have q0:c0=[_]:=h0
  obtain⟨c1,r1,e1,h1,n1⟩:=n0
  have q1:c1=[_]:=h1
  obtain⟨c2,r2,e2,h2,n2⟩:=n1
  have q2:c2=[_]:=h2
  have q3:r2=[_]:=n2
  exact by rw [e0,e1,e2,q0,q1,q2,q3];rfl
theorem ZD{S:gI}{w:World}(d:cQ):bC.rd S w [.bool (d.On),.int .i64 (d.aJ),.bool (d.jD),.int .i64 (d.Seen)] d:=⟨[.bool (d.On)],[.int .i64 (d.aJ),.bool (d.jD),.int .i64 (d.Seen)],rfl,rfl,⟨[.int .i64 (d.aJ)],[.bool (d.jD),.int .i64 (d.Seen)],rfl,rfl,⟨[.bool (d.jD)],[.int .i64 (d.Seen)],rfl,rfl,rfl⟩⟩⟩
instance:Flat cQ:=⟨fun h=>Flat.own_of (α:=Bool×Int×Bool×Int) h,fun h=>Flat.no (α:=Bool×Int×Bool×Int) h⟩
theorem a6F(d:cQ):OP [.bool (d.On),.int .i64 (d.aJ),.bool (d.jD),.int .i64 (d.Seen)] d []:=(show OP (α:=Bool×Int×Bool×Int) _ (d.On,d.aJ,d.jD,d.Seen) _ from (gM (c1:=[.bool (d.On)]) (c2:=[.int .i64 (d.aJ),.bool (d.jD),.int .i64 (d.Seen)]) (A:=[]) (B:=[]) (nL rfl) (gM (c1:=[.int .i64 (d.aJ)]) (c2:=[.bool (d.jD),.int .i64 (d.Seen)]) (A:=[]) (B:=[]) (nL rfl) (gM (c1:=[.bool (d.jD)]) (c2:=[.int .i64 (d.Seen)]) (A:=[]) (B:=[]) (nL rfl) (nL rfl) rfl) rfl) rfl))
structure aD where
  aJ:Int
  aM:List cQ
  deriving DecidableEq,Inhabited
instance:bC aD:=bC.via (fun d=>(d.aJ,d.aM))
instance:Fits aD:=Fits.via (fun d=>(d.aJ,d.aM))
theorem a11{S:gI}{w:World}{cs:List Value}{d:aD}(h:bC.rd S w cs d):∃v0:Value,cs=[.int .i64 (d.aJ),v0]∧bC.rd S w [v0] d.aM:=by
  obtain⟨c0,r0,e0,h0,n0⟩:=h
  have q0:c0=[_]:=h0
  obtain⟨u1,q1⟩:=lU n0
  rw [q1] at n0
  exact⟨u1,by rw [e0,q0,q1];rfl,n0⟩
structure bP where
  Handle:Int
  aJ:Int
  deriving DecidableEq,Inhabited
instance:bC bP:=bC.via (fun d=>(d.Handle,d.aJ))
instance:Fits bP:=Fits.via (fun d=>(d.Handle,d.aJ))
theorem aYH{S:gI}{w:World}{cs:List Value}{d:bP}(h:bC.rd S w cs d):cs=[.int .i64 (d.Handle),.int .i64 (d.aJ)]:=by
  obtain⟨c0,r0,e0,h0,n0⟩:=h
  have q0:c0=[_]:=h0
  have q1:r0=[_]:=n0
  exact by rw [e0,q0,q1];rfl
theorem aIZ{S:gI}{w:World}(d:bP):bC.rd S w [.int .i64 (d.Handle),.int .i64 (d.aJ)] d:=⟨[.int .i64 (d.Handle)],[.int .i64 (d.aJ)],rfl,rfl,rfl⟩
instance:Flat bP:=⟨fun h=>Flat.own_of (α:=Int×Int) h,fun h=>Flat.no (α:=Int×Int) h⟩
theorem a38(d:bP):OP [.int .i64 (d.Handle),.int .i64 (d.aJ)] d []:=(show OP (α:=Int×Int) _ (d.Handle,d.aJ) _ from (gM (c1:=[.int .i64 (d.Handle)]) (c2:=[.int .i64 (d.aJ)]) (A:=[]) (B:=[]) (nL rfl) (nL rfl) rfl))
theorem a39{S:gI}{w:World}{s:Value}{l:List bP}{i:Nat}{x:bP}(h:bC.rd S w [s] l)(hi:l[i]?=some x):fH w (elB s) (elO 2 i s) [.int .i64 (x.Handle),.int .i64 (x.aJ)]:=by
  obtain⟨ec,h1,h2⟩:=aUI h hi
  rw [aYH h2] at h1;exact h1
structure aP where
  Rows:List bP
  deriving DecidableEq,Inhabited
instance:bC aP:=bC.via (fun d=>(d.Rows))
instance:Fits aP:=Fits.via (fun d=>(d.Rows))
theorem aVC{S:gI}{w:World}{cs:List Value}{d:aP}(h:bC.rd S w cs d):∃v0:Value,cs=[v0]∧bC.rd S w [v0] d.Rows:=by
  obtain⟨u0,q0⟩:=lU h
  rw [q0] at h
  exact⟨u0,q0,h⟩
theorem JB(d:aP){v0:Value}:OP [v0] d [bH [v0] d.Rows]:=(show OP (α:=(List bP)) _ (d.Rows) _ from rG)
theorem _root_.Go.Gv.St.aVD{c:Ctx}{L:List Chunk}{R:List Fact}{w:World}{s:Value}{l:List aP}{i:Nat}{x:aP}(h:St c w L R)(j:Nat)(hj:R[j]?=some (OZ [s] l))(hi:l[i]?=some x):∃v0:Value,fH w (elB s) (elO 1 i s) [v0]∧St c w L (R ++ [OZ [v0] x.Rows]):=by
  obtain⟨S,hS,hk⟩:=h.aZX hj
  obtain⟨ec,h1,h2⟩:=aUI hS hi
  obtain⟨v0,q,q0⟩:=aVC h2
  rw [q] at h1
  exact⟨v0,h1,hk _ (by intro f hf;simp only [List.mem_cons,List.not_mem_nil,or_false] at hf;subst hf;exact q0)⟩
structure aA where
  Mem:Mem
  aD:aD
  aH:List aP
  bO:List Int
  deriving DecidableEq,Inhabited
instance:bC aA:=bC.via (fun d=>(d.Mem,d.aD,d.aH,d.bO))
instance:Fits aA:=Fits.via (fun d=>(d.Mem,d.aD,d.aH,d.bO))
theorem a4A{S:gI}{w:World}{cs:List Value}{d:aA}(h:bC.rd S w cs d):∃v0 v1 v2 v3 v4 v5 v6:Value,cs=[v0,v1,v2,v3,.int .i64 (d.aD.aJ),v4,v5,v6]∧bC.rd S w [v0] d.Mem.aC.Bytes∧bC.rd S w [v1] d.Mem.aC.Class∧bC.rd S w [v2] d.Mem.aB.Global∧bC.rd S w [v3] d.Mem.aB.bA∧bC.rd S w [v4] d.aD.aM∧bC.rd S w [v5] d.aH∧bC.rd S w [v6] d.bO:=by
  obtain⟨c0,r0,e0,h0,n0⟩:=h
  obtain⟨u0_0,u0_1,u0_2,u0_3,q0,hq0_0,hq0_1,hq0_2,hq0_3⟩:=a6D h0
  obtain⟨c1,r1,e1,h1,n1⟩:=n0
  obtain⟨u1_0,q1,hq1_0⟩:=a11 h1
  obtain⟨c2,r2,e2,h2,n2⟩:=n1
  obtain⟨u2,q2⟩:=lU h2
  rw [q2] at h2
  obtain⟨u3,q3⟩:=lU n2
  rw [q3] at n2
  exact⟨u0_0,u0_1,u0_2,u0_3,u1_0,u2,u3,by rw [e0,e1,e2,q0,q1,q2,q3];rfl,hq0_0,hq0_1,hq0_2,hq0_3,hq1_0,h2,n2⟩
structure cM where
  Kind:Int
  Cell:Int
  gD:Int
  eY:Int
  deriving DecidableEq,Inhabited
instance:bC cM:=bC.via (fun d=>(d.Kind,d.Cell,d.gD,d.eY))
instance:Fits cM:=Fits.via (fun d=>(d.Kind,d.Cell,d.gD,d.eY))
theorem a12{S:gI}{w:World}{cs:List Value}{d:cM}(h:bC.rd S w cs d):cs=[.int .i64 (d.Kind),.int .i64 (d.Cell),.int .i64 (d.gD),.int .i64 (d.eY)]:=by
  obtain⟨c0,r0,e0,h0,n0⟩:=h
  have q0:c0=[_]:=h0
  obtain⟨c1,r1,e1,h1,n1⟩:=n0
  have q1:c1=[_]:=h1
  obtain⟨c2,r2,e2,h2,n2⟩:=n1
  have q2:c2=[_]:=h2
  have q3:r2=[_]:=n2
  exact by rw [e0,e1,e2,q0,q1,q2,q3];rfl
theorem aON{S:gI}{w:World}(d:cM):bC.rd S w [.int .i64 (d.Kind),.int .i64 (d.Cell),.int .i64 (d.gD),.int .i64 (d.eY)] d:=⟨[.int .i64 (d.Kind)],[.int .i64 (d.Cell),.int .i64 (d.gD),.int .i64 (d.eY)],rfl,rfl,⟨[.int .i64 (d.Cell)],[.int .i64 (d.gD),.int .i64 (d.eY)],rfl,rfl,⟨[.int .i64 (d.gD)],[.int .i64 (d.eY)],rfl,rfl,rfl⟩⟩⟩
instance:Flat cM:=⟨fun h=>Flat.own_of (α:=Int×Int×Int×Int) h,fun h=>Flat.no (α:=Int×Int×Int×Int) h⟩
theorem a6G(d:cM):OP [.int .i64 (d.Kind),.int .i64 (d.Cell),.int .i64 (d.gD),.int .i64 (d.eY)] d []:=(show OP (α:=Int×Int×Int×Int) _ (d.Kind,d.Cell,d.gD,d.eY) _ from (gM (c1:=[.int .i64 (d.Kind)]) (c2:=[.int .i64 (d.Cell),.int .i64 (d.gD),.int .i64 (d.eY)]) (A:=[]) (B:=[]) (nL rfl) (gM (c1:=[.int .i64 (d.Cell)]) (c2:=[.int .i64 (d.gD),.int .i64 (d.eY)]) (A:=[]) (B:=[]) (nL rfl) (gM (c1:=[.int .i64 (d.gD)]) (c2:=[.int .i64 (d.eY)]) (A:=[]) (B:=[]) (nL rfl) (nL rfl) rfl) rfl) rfl))
structure Sub where
  Kind:Int
  A:Int
  Pc:Int
  E:Int
  Row:Int
  B:Int
  H:Int
  Out:Int
  Code:Int
  dW:Bool
  deriving DecidableEq,Inhabited
instance:bC Sub:=bC.via (fun d=>(d.Kind,d.A,d.Pc,d.E,d.Row,d.B,d.H,d.Out,d.Code,d.dW))
instance:Fits Sub:=Fits.via (fun d=>(d.Kind,d.A,d.Pc,d.E,d.Row,d.B,d.H,d.Out,d.Code,d.dW))
theorem a6H{S:gI}{w:World}{cs:List Value}{d:Sub}(h:bC.rd S w cs d):cs=[.int .i64 (d.Kind),.int .i64 (d.A),.int .i64 (d.Pc),.int .i64 (d.E),.int .i64 (d.Row),.int .i64 (d.B),.int .i64 (d.H),.int .i64 (d.Out),.int .i64 (d.Code),.bool (d.dW)]:=by
  obtain⟨c0,r0,e0,h0,n0⟩:=h
  have q0:c0=[_]:=h0
  obtain⟨c1,r1,e1,h1,n1⟩:=n0
  have q1:c1=[_]:=h1
  obtain⟨c2,r2,e2,h2,n2⟩:=n1
  have q2:c2=[_]:=h2
  obtain⟨c3,r3,e3,h3,n3⟩:=n2
  have q3:c3=[_]:=h3
  obtain⟨c4,r4,e4,h4,n4⟩:=n3
  have q4:c4=[_]:=h4
  obtain⟨c5,r5,e5,h5,n5⟩:=n4
  have q5:c5=[_]:=h5
  obtain⟨c6,r6,e6,h6,n6⟩:=n5
  have q6:c6=[_]:=h6
  obtain⟨c7,r7,e7,h7,n7⟩:=n6
  have q7:c7=[_]:=h7
  obtain⟨c8,r8,e8,h8,n8⟩:=n7
  have q8:c8=[_]:=h8
  have q9:r8=[_]:=n8
  exact by rw [e0,e1,e2,e3,e4,e5,e6,e7,e8,q0,q1,q2,q3,q4,q5,q6,q7,q8,q9];rfl
theorem a13{S:gI}{w:World}(d:Sub):bC.rd S w [.int .i64 (d.Kind),.int .i64 (d.A),.int .i64 (d.Pc),.int .i64 (d.E),.int .i64 (d.Row),.int .i64 (d.B),.int .i64 (d.H),.int .i64 (d.Out),.int .i64 (d.Code),.bool (d.dW)] d:=⟨[.int .i64 (d.Kind)],[.int .i64 (d.A),.int .i64 (d.Pc),.int .i64 (d.E),.int .i64 (d.Row),.int .i64 (d.B),.int .i64 (d.H),.int .i64 (d.Out),.int .i64 (d.Code),.bool (d.dW)],rfl,rfl,⟨[.int .i64 (d.A)],[.int .i64 (d.Pc),.int .i64 (d.E),.int .i64 (d.Row),.int .i64 (d.B),.int .i64 (d.H),.int .i64 (d.Out),.int .i64 (d.Code),.bool (d.dW)],rfl,rfl,⟨[.int .i64 (d.Pc)],[.int .i64 (d.E),.int .i64 (d.Row),.int .i64 (d.B),.int .i64 (d.H),.int .i64 (d.Out),.int .i64 (d.Code),.bool (d.dW)],rfl,rfl,⟨[.int .i64 (d.E)],[.int .i64 (d.Row),.int .i64 (d.B),.int .i64 (d.H),.int .i64 (d.Out),.int .i64 (d.Code),.bool (d.dW)],rfl,rfl,⟨[.int .i64 (d.Row)],[.int .i64 (d.B),.int .i64 (d.H),.int .i64 (d.Out),.int .i64 (d.Code),.bool (d.dW)],rfl,rfl,⟨[.int .i64 (d.B)],[.int .i64 (d.H),.int .i64 (d.Out),.int .i64 (d.Code),.bool (d.dW)],rfl,rfl,⟨[.int .i64 (d.H)],[.int .i64 (d.Out),.int .i64 (d.Code),.bool (d.dW)],rfl,rfl,⟨[.int .i64 (d.Out)],[.int .i64 (d.Code),.bool (d.dW)],rfl,rfl,⟨[.int .i64 (d.Code)],[.bool (d.dW)],rfl,rfl,rfl⟩⟩⟩⟩⟩⟩⟩⟩⟩
instance:Flat Sub:=⟨fun h=>Flat.own_of (α:=Int×Int×Int×Int×Int×Int×Int×Int×Int×Bool) h,fun h=>Flat.no (α:=Int×Int×Int×Int×Int×Int×Int×Int×Int×Bool) h⟩
structure bG where
  g7:Bool
  Op:cM
  aK:Int
  Pc:Int
  Sub:Sub
  H:Int
  Old:Int
  eY:Int
  Code:Int
  deriving DecidableEq,Inhabited
instance:bC bG:=bC.via (fun d=>(d.g7,d.Op,d.aK,d.Pc,d.Sub,d.H,d.Old,d.eY,d.Code))
instance:Fits bG:=Fits.via (fun d=>(d.g7,d.Op,d.aK,d.Pc,d.Sub,d.H,d.Old,d.eY,d.Code))
theorem a6I{S:gI}{w:World}{cs:List Value}{d:bG}(h:bC.rd S w cs d):cs=[.bool (d.g7),.int .i64 (d.Op.Kind),.int .i64 (d.Op.Cell),.int .i64 (d.Op.gD),.int .i64 (d.Op.eY),.int .i64 (d.aK),.int .i64 (d.Pc),.int .i64 (d.Sub.Kind),.int .i64 (d.Sub.A),.int .i64 (d.Sub.Pc),.int .i64 (d.Sub.E),.int .i64 (d.Sub.Row),.int .i64 (d.Sub.B),.int .i64 (d.Sub.H),.int .i64 (d.Sub.Out),.int .i64 (d.Sub.Code),.bool (d.Sub.dW),.int .i64 (d.H),.int .i64 (d.Old),.int .i64 (d.eY),.int .i64 (d.Code)]:=by
  obtain⟨c0,r0,e0,h0,n0⟩:=h
  have q0:c0=[_]:=h0
  obtain⟨c1,r1,e1,h1,n1⟩:=n0
  have q1:=a12 h1
  obtain⟨c2,r2,e2,h2,n2⟩:=n1
  have q2:c2=[_]:=h2
  obtain⟨c3,r3,e3,h3,n3⟩:=n2
  have q3:c3=[_]:=h3
  obtain⟨c4,r4,e4,h4,n4⟩:=n3
  have q4:=a6H h4
  obtain⟨c5,r5,e5,h5,n5⟩:=n4
  have q5:c5=[_]:=h5
  obtain⟨c6,r6,e6,h6,n6⟩:=n5
  have q6:c6=[_]:=h6
  obtain⟨c7,r7,e7,h7,n7⟩:=n6
  have q7:c7=[_]:=h7
  have q8:r7=[_]:=n7
  exact by rw [e0,e1,e2,e3,e4,e5,e6,e7,q0,q1,q2,q3,q4,q5,q6,q7,q8];rfl
theorem jQ{S:gI}{w:World}(d:bG):bC.rd S w [.bool (d.g7),.int .i64 (d.Op.Kind),.int .i64 (d.Op.Cell),.int .i64 (d.Op.gD),.int .i64 (d.Op.eY),.int .i64 (d.aK),.int .i64 (d.Pc),.int .i64 (d.Sub.Kind),.int .i64 (d.Sub.A),.int .i64 (d.Sub.Pc),.int .i64 (d.Sub.E),.int .i64 (d.Sub.Row),.int .i64 (d.Sub.B),.int .i64 (d.Sub.H),.int .i64 (d.Sub.Out),.int .i64 (d.Sub.Code),.bool (d.Sub.dW),.int .i64 (d.H),.int .i64 (d.Old),.int .i64 (d.eY),.int .i64 (d.Code)] d:=⟨[.bool (d.g7)],[.int .i64 (d.Op.Kind),.int .i64 (d.Op.Cell),.int .i64 (d.Op.gD),.int .i64 (d.Op.eY),.int .i64 (d.aK),.int .i64 (d.Pc),.int .i64 (d.Sub.Kind),.int .i64 (d.Sub.A),.int .i64 (d.Sub.Pc),.int .i64 (d.Sub.E),.int .i64 (d.Sub.Row),.int .i64 (d.Sub.B),.int .i64 (d.Sub.H),.int .i64 (d.Sub.Out),.int .i64 (d.Sub.Code),.bool (d.Sub.dW),.int .i64 (d.H),.int .i64 (d.Old),.int .i64 (d.eY),.int .i64 (d.Code)],rfl,rfl,⟨[.int .i64 (d.Op.Kind),.int .i64 (d.Op.Cell),.int .i64 (d.Op.gD),.int .i64 (d.Op.eY)],[.int .i64 (d.aK),.int .i64 (d.Pc),.int .i64 (d.Sub.Kind),.int .i64 (d.Sub.A),.int .i64 (d.Sub.Pc),.int .i64 (d.Sub.E),.int .i64 (d.Sub.Row),.int .i64 (d.Sub.B),.int .i64 (d.Sub.H),.int .i64 (d.Sub.Out),.int .i64 (d.Sub.Code),.bool (d.Sub.dW),.int .i64 (d.H),.int .i64 (d.Old),.int .i64 (d.eY),.int .i64 (d.Code)],rfl,(aON _),⟨[.int .i64 (d.aK)],[.int .i64 (d.Pc),.int .i64 (d.Sub.Kind),.int .i64 (d.Sub.A),.int .i64 (d.Sub.Pc),.int .i64 (d.Sub.E),.int .i64 (d.Sub.Row),.int .i64 (d.Sub.B),.int .i64 (d.Sub.H),.int .i64 (d.Sub.Out),.int .i64 (d.Sub.Code),.bool (d.Sub.dW),.int .i64 (d.H),.int .i64 (d.Old),.int .i64 (d.eY),.int .i64 (d.Code)],rfl,rfl,⟨[.int .i64 (d.Pc)],[.int .i64 (d.Sub.Kind),.int .i64 (d.Sub.A),.int .i64 (d.Sub.Pc),.int .i64 (d.Sub.E),.int .i64 (d.Sub.Row),.int .i64 (d.Sub.B),.int .i64 (d.Sub.H),.int .i64 (d.Sub.Out),.int .i64 (d.Sub.Code),.bool (d.Sub.dW),.int .i64 (d.H),.int .i64 (d.Old),.int .i64 (d.eY),.int .i64 (d.Code)],rfl,rfl,⟨[.int .i64 (d.Sub.Kind),.int .i64 (d.Sub.A),.int .i64 (d.Sub.Pc),.int .i64 (d.Sub.E),.int .i64 (d.Sub.Row),.int .i64 (d.Sub.B),.int .i64 (d.Sub.H),.int .i64 (d.Sub.Out),.int .i64 (d.Sub.Code),.bool (d.Sub.dW)],[.int .i64 (d.H),.int .i64 (d.Old),.int .i64 (d.eY),.int .i64 (d.Code)],rfl,(a13 _),⟨[.int .i64 (d.H)],[.int .i64 (d.Old),.int .i64 (d.eY),.int .i64 (d.Code)],rfl,rfl,⟨[.int .i64 (d.Old)],[.int .i64 (d.eY),.int .i64 (d.Code)],rfl,rfl,⟨[.int .i64 (d.eY)],[.int .i64 (d.Code)],rfl,rfl,rfl⟩⟩⟩⟩⟩⟩⟩⟩
instance:Flat bG:=⟨fun h=>Flat.own_of (α:=Bool×cM×Int×Int×Sub×Int×Int×Int×Int) h,fun h=>Flat.no (α:=Bool×cM×Int×Int×Sub×Int×Int×Int×Int) h⟩
theorem a6J(d:bG):OP [.bool (d.g7),.int .i64 (d.Op.Kind),.int .i64 (d.Op.Cell),.int .i64 (d.Op.gD),.int .i64 (d.Op.eY),.int .i64 (d.aK),.int .i64 (d.Pc),.int .i64 (d.Sub.Kind),.int .i64 (d.Sub.A),.int .i64 (d.Sub.Pc),.int .i64 (d.Sub.E),.int .i64 (d.Sub.Row),.int .i64 (d.Sub.B),.int .i64 (d.Sub.H),.int .i64 (d.Sub.Out),.int .i64 (d.Sub.Code),.bool (d.Sub.dW),.int .i64 (d.H),.int .i64 (d.Old),.int .i64 (d.eY),.int .i64 (d.Code)] d []:=(show OP (α:=Bool×cM×Int×Int×Sub×Int×Int×Int×Int) _ (d.g7,d.Op,d.aK,d.Pc,d.Sub,d.H,d.Old,d.eY,d.Code) _ from (gM (c1:=[.bool (d.g7)]) (c2:=[.int .i64 (d.Op.Kind),.int .i64 (d.Op.Cell),.int .i64 (d.Op.gD),.int .i64 (d.Op.eY),.int .i64 (d.aK),.int .i64 (d.Pc),.int .i64 (d.Sub.Kind),.int .i64 (d.Sub.A),.int .i64 (d.Sub.Pc),.int .i64 (d.Sub.E),.int .i64 (d.Sub.Row),.int .i64 (d.Sub.B),.int .i64 (d.Sub.H),.int .i64 (d.Sub.Out),.int .i64 (d.Sub.Code),.bool (d.Sub.dW),.int .i64 (d.H),.int .i64 (d.Old),.int .i64 (d.eY),.int .i64 (d.Code)]) (A:=[]) (B:=[]) (nL rfl) (gM (c1:=[.int .i64 (d.Op.Kind),.int .i64 (d.Op.Cell),.int .i64 (d.Op.gD),.int .i64 (d.Op.eY)]) (c2:=[.int .i64 (d.aK),.int .i64 (d.Pc),.int .i64 (d.Sub.Kind),.int .i64 (d.Sub.A),.int .i64 (d.Sub.Pc),.int .i64 (d.Sub.E),.int .i64 (d.Sub.Row),.int .i64 (d.Sub.B),.int .i64 (d.Sub.H),.int .i64 (d.Sub.Out),.int .i64 (d.Sub.Code),.bool (d.Sub.dW),.int .i64 (d.H),.int .i64 (d.Old),.int .i64 (d.eY),.int .i64 (d.Code)]) (A:=[]) (B:=[]) (nL (aON _)) (gM (c1:=[.int .i64 (d.aK)]) (c2:=[.int .i64 (d.Pc),.int .i64 (d.Sub.Kind),.int .i64 (d.Sub.A),.int .i64 (d.Sub.Pc),.int .i64 (d.Sub.E),.int .i64 (d.Sub.Row),.int .i64 (d.Sub.B),.int .i64 (d.Sub.H),.int .i64 (d.Sub.Out),.int .i64 (d.Sub.Code),.bool (d.Sub.dW),.int .i64 (d.H),.int .i64 (d.Old),.int .i64 (d.eY),.int .i64 (d.Code)]) (A:=[]) (B:=[]) (nL rfl) (gM (c1:=[.int .i64 (d.Pc)]) (c2:=[.int .i64 (d.Sub.Kind),.int .i64 (d.Sub.A),.int .i64 (d.Sub.Pc),.int .i64 (d.Sub.E),.int .i64 (d.Sub.Row),.int .i64 (d.Sub.B),.int .i64 (d.Sub.H),.int .i64 (d.Sub.Out),.int .i64 (d.Sub.Code),.bool (d.Sub.dW),.int .i64 (d.H),.int .i64 (d.Old),.int .i64 (d.eY),.int .i64 (d.Code)]) (A:=[]) (B:=[]) (nL rfl) (gM (c1:=[.int .i64 (d.Sub.Kind),.int .i64 (d.Sub.A),.int .i64 (d.Sub.Pc),.int .i64 (d.Sub.E),.int .i64 (d.Sub.Row),.int .i64 (d.Sub.B),.int .i64 (d.Sub.H),.int .i64 (d.Sub.Out),.int .i64 (d.Sub.Code),.bool (d.Sub.dW)]) (c2:=[.int .i64 (d.H),.int .i64 (d.Old),.int .i64 (d.eY),.int .i64 (d.Code)]) (A:=[]) (B:=[]) (nL (a13 _)) (gM (c1:=[.int .i64 (d.H)]) (c2:=[.int .i64 (d.Old),.int .i64 (d.eY),.int .i64 (d.Code)]) (A:=[]) (B:=[]) (nL rfl) (gM (c1:=[.int .i64 (d.Old)]) (c2:=[.int .i64 (d.eY),.int .i64 (d.Code)]) (A:=[]) (B:=[]) (nL rfl) (gM (c1:=[.int .i64 (d.eY)]) (c2:=[.int .i64 (d.Code)]) (A:=[]) (B:=[]) (nL rfl) (nL rfl) rfl) rfl) rfl) rfl) rfl) rfl) rfl) rfl))
structure Queue where
  kJ:List cM
  deriving DecidableEq,Inhabited
instance:bC Queue:=bC.via (fun d=>(d.kJ))
instance:Fits Queue:=Fits.via (fun d=>(d.kJ))
theorem a14{S:gI}{w:World}{cs:List Value}{d:Queue}(h:bC.rd S w cs d):∃v0:Value,cs=[v0]∧bC.rd S w [v0] d.kJ:=by
  obtain⟨u0,q0⟩:=lU h
  rw [q0] at h
  exact⟨u0,q0,h⟩
theorem aVE(d:Queue){v0:Value}:OP [v0] d [bH [v0] d.kJ]:=(show OP (α:=(List cM)) _ (d.kJ) _ from rG)
structure Ev where
  Kind:Int
  XZ:Int
  aK:Int
  Cell:Int
  Handle:Int
  eY:Int
  Code:Int
  deriving DecidableEq,Inhabited
instance:bC Ev:=bC.via (fun d=>(d.Kind,d.XZ,d.aK,d.Cell,d.Handle,d.eY,d.Code))
instance:Fits Ev:=Fits.via (fun d=>(d.Kind,d.XZ,d.aK,d.Cell,d.Handle,d.eY,d.Code))
theorem a7X{S:gI}{w:World}{cs:List Value}{d:Ev}(h:bC.rd S w cs d):cs=[.int .i64 (d.Kind),.int .i64 (d.XZ),.int .i64 (d.aK),.int .i64 (d.Cell),.int .i64 (d.Handle),.int .i64 (d.eY),.int .i64 (d.Code)]:=by
  obtain⟨c0,r0,e0,h0,n0⟩:=h
  have q0:c0=[_]:=h0
  obtain⟨c1,r1,e1,h1,n1⟩:=n0
  have q1:c1=[_]:=h1
  obtain⟨c2,r2,e2,h2,n2⟩:=n1
  have q2:c2=[_]:=h2
  obtain⟨c3,r3,e3,h3,n3⟩:=n2
  have q3:c3=[_]:=h3
  obtain⟨c4,r4,e4,h4,n4⟩:=n3
  have q4:c4=[_]:=h4
  obtain⟨c5,r5,e5,h5,n5⟩:=n4
  have q5:c5=[_]:=h5
  have q6:r5=[_]:=n5
  exact by rw [e0,e1,e2,e3,e4,e5,q0,q1,q2,q3,q4,q5,q6];rfl
instance:Flat Ev:=⟨fun h=>Flat.own_of (α:=Int×Int×Int×Int×Int×Int×Int) h,fun h=>Flat.no (α:=Int×Int×Int×Int×Int×Int×Int) h⟩
theorem a7Y(d:Ev):OP [.int .i64 (d.Kind),.int .i64 (d.XZ),.int .i64 (d.aK),.int .i64 (d.Cell),.int .i64 (d.Handle),.int .i64 (d.eY),.int .i64 (d.Code)] d []:=(show OP (α:=Int×Int×Int×Int×Int×Int×Int) _ (d.Kind,d.XZ,d.aK,d.Cell,d.Handle,d.eY,d.Code) _ from (gM (c1:=[.int .i64 (d.Kind)]) (c2:=[.int .i64 (d.XZ),.int .i64 (d.aK),.int .i64 (d.Cell),.int .i64 (d.Handle),.int .i64 (d.eY),.int .i64 (d.Code)]) (A:=[]) (B:=[]) (nL rfl) (gM (c1:=[.int .i64 (d.XZ)]) (c2:=[.int .i64 (d.aK),.int .i64 (d.Cell),.int .i64 (d.Handle),.int .i64 (d.eY),.int .i64 (d.Code)]) (A:=[]) (B:=[]) (nL rfl) (gM (c1:=[.int .i64 (d.aK)]) (c2:=[.int .i64 (d.Cell),.int .i64 (d.Handle),.int .i64 (d.eY),.int .i64 (d.Code)]) (A:=[]) (B:=[]) (nL rfl) (gM (c1:=[.int .i64 (d.Cell)]) (c2:=[.int .i64 (d.Handle),.int .i64 (d.eY),.int .i64 (d.Code)]) (A:=[]) (B:=[]) (nL rfl) (gM (c1:=[.int .i64 (d.Handle)]) (c2:=[.int .i64 (d.eY),.int .i64 (d.Code)]) (A:=[]) (B:=[]) (nL rfl) (gM (c1:=[.int .i64 (d.eY)]) (c2:=[.int .i64 (d.Code)]) (A:=[]) (B:=[]) (nL rfl) (nL rfl) rfl) rfl) rfl) rfl) rfl) rfl))
structure aE where
  aA:aA
  Cells:List Int
  aR:List bG
  aU:List Queue
  Log:List Ev
  aK:Int
  deriving DecidableEq,Inhabited
instance:bC aE:=bC.via (fun d=>(d.aA,d.Cells,d.aR,d.aU,d.Log,d.aK))
instance:Fits aE:=Fits.via (fun d=>(d.aA,d.Cells,d.aR,d.aU,d.Log,d.aK))
theorem WA{S:gI}{w:World}{cs:List Value}{d:aE}(h:bC.rd S w cs d):∃v0 v1 v2 v3 v4 v5 v6 v7 v8 v9 v10:Value,cs=[v0,v1,v2,v3,.int .i64 (d.aA.aD.aJ),v4,v5,v6,v7,v8,v9,v10,.int .i64 (d.aK)]∧bC.rd S w [v0] d.aA.Mem.aC.Bytes∧bC.rd S w [v1] d.aA.Mem.aC.Class∧bC.rd S w [v2] d.aA.Mem.aB.Global∧bC.rd S w [v3] d.aA.Mem.aB.bA∧bC.rd S w [v4] d.aA.aD.aM∧bC.rd S w [v5] d.aA.aH∧bC.rd S w [v6] d.aA.bO∧bC.rd S w [v7] d.Cells∧bC.rd S w [v8] d.aR∧bC.rd S w [v9] d.aU∧bC.rd S w [v10] d.Log:=by
  obtain⟨c0,r0,e0,h0,n0⟩:=h
  obtain⟨u0_0,u0_1,u0_2,u0_3,u0_4,u0_5,u0_6,q0,hq0_0,hq0_1,hq0_2,hq0_3,hq0_4,hq0_5,hq0_6⟩:=a4A h0
  obtain⟨c1,r1,e1,h1,n1⟩:=n0
  obtain⟨u1,q1⟩:=lU h1
  rw [q1] at h1
  obtain⟨c2,r2,e2,h2,n2⟩:=n1
  obtain⟨u2,q2⟩:=lU h2
  rw [q2] at h2
  obtain⟨c3,r3,e3,h3,n3⟩:=n2
  obtain⟨u3,q3⟩:=lU h3
  rw [q3] at h3
  obtain⟨c4,r4,e4,h4,n4⟩:=n3
  obtain⟨u4,q4⟩:=lU h4
  rw [q4] at h4
  have q5:r4=[_]:=n4
  exact⟨u0_0,u0_1,u0_2,u0_3,u0_4,u0_5,u0_6,u1,u2,u3,u4,by rw [e0,e1,e2,e3,e4,q0,q1,q2,q3,q4,q5];rfl,hq0_0,hq0_1,hq0_2,hq0_3,hq0_4,hq0_5,hq0_6,h1,h2,h3,h4⟩
structure Span where
  a15:Int
  To:Int
  deriving DecidableEq,Inhabited
instance:bC Span:=bC.via (fun d=>(d.a15,d.To))
instance:Fits Span:=Fits.via (fun d=>(d.a15,d.To))
instance:Flat Span:=⟨fun h=>Flat.own_of (α:=Int×Int) h,fun h=>Flat.no (α:=Int×Int) h⟩
structure dS where
  aU:List Queue
  bW:List Int
  deriving DecidableEq,Inhabited
instance:bC dS:=bC.via (fun d=>(d.aU,d.bW))
instance:Fits dS:=Fits.via (fun d=>(d.aU,d.bW))
end Go.Gv
end
noncomputable section
set_option linter.unusedVariables false
namespace Go.Gv
noncomputable section
def jF(a_:List Int)(left:Int):Option Int:=
  (if decide ((aI (left - (a_.length:Int))) < 0) then some (-1) else some (aI (left - (a_.length:Int))))
def aBO(a_:List cM)(left:Int):Option Int:=
  (if decide ((aI (left - (a_.length:Int))) < 0) then some (-1) else some (aI (left - (a_.length:Int))))
def UY(a_:Queue)(left:Int):Option Int:=
  (aBO a_.kJ left).bind fun x1=>(if decide (x1 < 0) then some (-1) else some x1)
def aAE(x5:Int):Option Int:=
  some x5
def KL(a_:List Queue):(Int×Int)→Option (Step (Int×Int) (Out Int Int))
  | (x3,x4)=>(if decide (x4 < (a_.length:Int)) then (idx a_ x4).bind fun x6=>(UY x6 x3).bind fun x7=>(if decide (x7 < 0) then some (.stop (Out.ret (-1))) else some (.next (x7,aI (x4+1)))) else some (.stop (Out.brk x3)))
def aAF:(Out Int Int)→Option Int
  | .brk x5=>aAE x5
  | .ret r=>some r
def uJ(a_:List Queue)(left:Int):Option Int:=
  (if decide ((aI (left - (a_.length:Int))) < 0) then some (-1) else (loop (KL a_) (aI (left - (a_.length:Int)),0)).bind (aAF))
def AL(b:List Int):Option (List Int):=
  need (([]:List Int).length+b.length≤1073741824) (some (([]:List Int)++b))
def YF(h:aC):Option aC:=
  (AL h.Bytes).bind fun x1=>(AL h.Class).bind fun x2=>some (⟨x1,x2⟩:aC)
def aOO(x5:List aG):Option (List aG):=
  some x5
def WB(l:List aG):((List aG)×Int)→Option (Step ((List aG)×Int) (List aG))
  | (x3,x4)=>(if decide (x4 < (l.length:Int)) then (idx l x4).bind fun x6=>(AL x6.bB).bind fun x7=>need (x3.length+([(⟨x7⟩:aG)]).length≤1073741824) (some (.next (x3++([(⟨x7⟩:aG)]),aI (x4+1)))) else some (.stop (x3)))
def aOP:(List aG)→Option (List aG)
  | x5=>aOO x5
def TN(l:List aG):Option (List aG):=
  (loop (WB l) (([]:List aG),0)).bind (aOP)
def YG(l:aB):Option aB:=
  (TN l.Global).bind fun x1=>(TN l.bA).bind fun x2=>some (⟨x1,x2⟩:aB)
def TO(m:Mem):Option Mem:=
  (YF m.aC).bind fun x1=>(YG m.aB).bind fun x2=>some (⟨x1,x2⟩:Mem)
def C7(c:aD):Option aD:=
  need (([]:List cQ).length+c.aM.length≤1073741824) (some (⟨c.aJ,([]:List cQ)++c.aM⟩:aD))
def aL1(x5:List aP):Option (List aP):=
  some x5
def UB(l:List aP):((List aP)×Int)→Option (Step ((List aP)×Int) (List aP))
  | (x3,x4)=>(if decide (x4 < (l.length:Int)) then (idx l x4).bind fun x6=>need (([]:List bP).length+x6.Rows.length≤1073741824) (need (x3.length+([(⟨([]:List bP)++x6.Rows⟩:aP)]).length≤1073741824) (some (.next (x3++([(⟨([]:List bP)++x6.Rows⟩:aP)]),aI (x4+1))))) else some (.stop (x3)))
def aL2:(List aP)→Option (List aP)
  | x5=>aL1 x5
def UZ(l:List aP):Option (List aP):=
  (loop (UB l) (([]:List aP),0)).bind (aL2)
def U0(b:aA):Option aA:=
  (TO b.Mem).bind fun x1=>(C7 b.aD).bind fun x2=>(UZ b.aH).bind fun x3=>(AL b.bO).bind fun x4=>some (⟨x1,x2,x3,x4⟩:aA)
def aI0(x5:List Queue):Option (List Queue):=
  some x5
def O5(l:List Queue):((List Queue)×Int)→Option (Step ((List Queue)×Int) (List Queue))
  | (x3,x4)=>(if decide (x4 < (l.length:Int)) then (idx l x4).bind fun x6=>need (([]:List cM).length+x6.kJ.length≤1073741824) (need (x3.length+([(⟨([]:List cM)++x6.kJ⟩:Queue)]).length≤1073741824) (some (.next (x3++([(⟨([]:List cM)++x6.kJ⟩:Queue)]),aI (x4+1))))) else some (.stop (x3)))
def aI1:(List Queue)→Option (List Queue)
  | x5=>aI0 x5
def BD(l:List Queue):Option (List Queue):=
  (loop (O5 l) (([]:List Queue),0)).bind (aI1)
def UC(x1:aE):Option aE:=
  some x1
def qW(s:aE):Option aE:=
  (U0 s.aA).bind fun x2=>(AL s.Cells).bind fun x3=>need (([]:List bG).length+s.aR.length≤1073741824)<|(BD s.aU).bind fun x4=>need (([]:List Ev).length+s.Log.length≤1073741824)<|UC (⟨x2,x3,([]:List bG)++s.aR,x4,([]:List Ev)++s.Log,s.aK⟩:aE)
def U1(x1:Bool):Option Bool:=
  some x1
def dD(x low high:Int):Option Bool:=
  (if decide (low≤x) then U1 (decide (x≤high)) else U1 false)
def aOQ(x5:List bP):Option (List bP):=
  some x5
def JC(l:List aP):((List bP)×Int)→Option (Step ((List bP)×Int) (List bP))
  | (x3,x4)=>(if decide (x4 < (l.length:Int)) then (idx l x4).bind fun x6=>need (x3.length+x6.Rows.length≤1073741824) (some (.next (x3++x6.Rows,aI (x4+1)))) else some (.stop (x3)))
def aOR:(List bP)→Option (List bP)
  | x5=>aOQ x5
def rK(l:List aP):Option (List bP):=
  (loop (JC l) (([]:List bP),0)).bind (aOR)
def aCY(b:List Int):Option Bool:=
  some (decide ((b.length:Int)≤1000))
def CI(b:List Int):Int→Option (Step Int (Out Unit Bool))
  | x2=>(if decide (x2 < (b.length:Int)) then (idx b x2).bind fun x3=>(dD x3 0 255).bind fun x4=>(if !x4 then some (.stop (Out.ret false)) else some (.next (aI (x2+1)))) else some (.stop (Out.brk ())))
def UD(b:List Int):(Out Unit Bool)→Option Bool
  | .brk ()=>aCY b
  | .ret r=>some r
def U2(b:List Int):Option Bool:=
  (loop (CI b) 0).bind (UD b)
def aL3:Option Bool:=
  some true
def CJ(h:aC):Int→Option (Step Int (Out Unit Bool))
  | x3=>(if decide (x3 < 6) then (idx h.Class x3).bind fun x4=>(dD x4 (-1) 2).bind fun x5=>(if !x5 then some (.stop (Out.ret false)) else some (.next (aI (x3+1)))) else some (.stop (Out.brk ())))
def aL4:(Out Unit Bool)→Option Bool
  | .brk ()=>aL3
  | .ret r=>some r
def HN(h:aC)(x1:Bool):Option Bool:=
  (if x1 then some false else (loop (CJ h) 0).bind (aL4))
def U3(h:aC):Option Bool:=
  (if (h.Bytes.length:Int) != 384 then HN h true else (if (h.Class.length:Int) != 6 then HN h true else (U2 h.Bytes).bind fun x6=>HN h (!x6)))
def aOS(x5:Int):Option Int:=
  some x5
def JD(b:List Int)(at_ width:Int):(Int×Int)→Option (Step (Int×Int) Int)
  | (x3,x4)=>(if decide (x4 < width) then (idx b (aI (at_+x4))).bind fun x6=>some (.next (aI ((aI (x3 * 256))+x6),aI (x4+1))) else some (.stop (x3)))
def aOT:Int→Option Int
  | x5=>aOS x5
def JE(b:List Int)(at_ width:Int):Option Int:=
  (loop (JD b at_ width) (0,0)).bind (aOT)
def OQ(slot:Int):Option Int:=
  (dD slot 0 23).bind fun x1=>(if !x1 then some (-1) else some (aI (Int.tdiv slot 4)))
def KM(slot:Int):Option Int:=
  (dD slot 0 23).bind fun x1=>(if !x1 then some (-1) else some (Int.tmod slot 4))
def C8(c:Int):Option Int:=
  (if c == 0 then some 8 else (if c == 1 then some 16 else (if c == 2 then some 40 else some 0)))
def LW(c:Int):Option Int:=
  (dD c 0 2).bind fun x1=>(if !x1 then some 0 else (C8 c).bind fun x2=>some (aI (4+x2)))
def zX(c:Int):Option Int:=
  (dD c 0 2).bind fun x1=>(if !x1 then some 0 else (LW c).bind fun x2=>need (x2≠0) (some (aI (Int.tdiv 56 x2))))
def SN(slot c:Int)(x1:Bool):Option Int:=
  (if x1 then some (-1) else (OQ slot).bind fun x2=>(KM slot).bind fun x3=>(LW c).bind fun x4=>some (aI ((aI ((aI (x2 * 64))+8))+(aI (x3 * x4)))))
def JF(slot c:Int):Option Int:=
  (OQ slot).bind fun x5=>(if decide (x5 < 0) then SN slot c true else (KM slot).bind fun x6=>(zX c).bind fun x7=>(dD x6 0 (aI (x7 - 1))).bind fun x8=>SN slot c (!x8))
def JG(page index:Int)(x1:Bool):Option Int:=
  (if x1 then some (-1) else some (aI ((aI (page * 4))+index)))
def GB(page index:Int):Option Int:=
  (dD page 0 5).bind fun x2=>(if !x2 then JG page index true else (dD index 0 3).bind fun x3=>JG page index (!x3))
def aOU:Option Bool:=
  some true
def EZ(h:aC)(p:Int):Int→Option (Step Int (Out Unit Bool))
  | x3=>(if decide (x3 < (aI ((aI (p * 64))+64))) then (idx h.Bytes x3).bind fun x4=>(if x4 != 0 then some (.stop (Out.ret false)) else some (.next (aI (x3+1)))) else some (.stop (Out.brk ())))
def aOV:(Out Unit Bool)→Option Bool
  | .brk ()=>aOU
  | .ret r=>some r
def aOW:Option Bool:=
  some true
def E0(h:aC)(p x1:Int):Int→Option (Step Int (Out Unit Bool))
  | x9=>(zX x1).bind fun x10=>(if decide (x9 < x10) then (GB p x9).bind fun x11=>(JF x11 x1).bind fun x12=>(JE h.Bytes x12 4).bind fun x13=>(dD x13 1 7).bind fun x14=>(if !x14 then some (.stop (Out.ret false)) else some (.next (aI (x9+1)))) else some (.stop (Out.brk ())))
def aOX:(Out Unit Bool)→Option Bool
  | .brk ()=>aOW
  | .ret r=>some r
def aD6(h:aC)(p x1:Int):Option Bool:=
  (loop (E0 h p x1) 0).bind (aOX)
def E1(h:aC)(p:Int):Int→Option (Step Int (Out Unit Bool))
  | x7=>(if decide (x7 < (aI ((aI (p * 64))+8))) then (idx h.Bytes x7).bind fun x15=>(if x15 != 0 then some (.stop (Out.ret false)) else some (.next (aI (x7+1)))) else some (.stop (Out.brk ())))
def aD7(h:aC)(p x1:Int):(Out Unit Bool)→Option Bool
  | .brk ()=>aD6 h p x1
  | .ret r=>some r
def xK(h:aC)(p x1:Int)(x5:Bool):Option Bool:=
  (if x5 then some false else (loop (E1 h p) (aI ((aI (p * 64))+3))).bind (aD7 h p x1))
def YH(h:aC)(p:Int):Option Bool:=
  (idx h.Class p).bind fun x1=>(if decide (x1 < 0) then (loop (EZ h p) (aI (p * 64))).bind (aOV) else (idx h.Bytes (aI (p * 64))).bind fun x16=>(if x16 != 171 then xK h p x1 true else (idx h.Bytes (aI ((aI (p * 64))+1))).bind fun x17=>(if x17 != x1 then xK h p x1 true else (idx h.Bytes (aI ((aI (p * 64))+2))).bind fun x18=>(zX x1).bind fun x19=>xK h p x1 (x18 != x19))))
def aOY:Option Bool:=
  some true
def JH(h:aC):Int→Option (Step Int (Out Unit Bool))
  | x3=>(if decide (x3 < 6) then (YH h x3).bind fun x4=>(if !x4 then some (.stop (Out.ret false)) else some (.next (aI (x3+1)))) else some (.stop (Out.brk ())))
def aOZ:(Out Unit Bool)→Option Bool
  | .brk ()=>aOY
  | .ret r=>some r
def YI(h:aC):Option Bool:=
  (U3 h).bind fun x1=>(if !x1 then some false else (loop (JH h) 0).bind (aOZ))
def aQU:Option Bool:=
  some false
def IL(l:List Int)(x:Int):Int→Option (Step Int (Out Unit Bool))
  | x2=>(if decide (x2 < (l.length:Int)) then (idx l x2).bind fun x3=>(if x3 == x then some (.stop (Out.ret true)) else some (.next (aI (x2+1)))) else some (.stop (Out.brk ())))
def aQV:(Out Unit Bool)→Option Bool
  | .brk ()=>aQU
  | .ret r=>some r
def DQ(l:List Int)(x:Int):Option Bool:=
  (loop (IL l x) 0).bind (aQV)
def aQW(x10:List Int):Option (List Int):=
  some x10
def LX(l:aB):((List Int)×Int)→Option (Step ((List Int)×Int) (List Int))
  | (x8,x9)=>(if decide (x9 < (l.bA.length:Int)) then (idx l.bA x9).bind fun x11=>need (x8.length+x11.bB.length≤1073741824) (some (.next (x8++x11.bB,aI (x9+1)))) else some (.stop (x8)))
def aQX:(List Int)→Option (List Int)
  | x10=>aQW x10
def aGJ(l:aB)(x5:List Int):Option (List Int):=
  (loop (LX l) (x5,0)).bind (aQX)
def LY(l:aB):((List Int)×Int)→Option (Step ((List Int)×Int) (List Int))
  | (x3,x4)=>(if decide (x4 < (l.Global.length:Int)) then (idx l.Global x4).bind fun x12=>need (x3.length+x12.bB.length≤1073741824) (some (.next (x3++x12.bB,aI (x4+1)))) else some (.stop (x3)))
def aGK(l:aB):(List Int)→Option (List Int)
  | x5=>aGJ l x5
def WC(l:aB):Option (List Int):=
  (loop (LY l) (([]:List Int),0)).bind (aGK l)
def aL5:Option Bool:=
  some true
def M3(x6:Int)(x7:Bool):Option (Step Int (Out Unit Bool)):=
  (if x7 then some (.stop (Out.ret false)) else some (.next (aI (x6+1))))
def CK(x4:(List Int)):Int→Option (Step Int (Out Unit Bool))
  | x6=>(if decide (x6 < (x4.length:Int)) then (idx x4 x6).bind fun x8=>(dD x8 0 23).bind fun x9=>(if !x9 then M3 x6 true else need (0≤(x6:Int)∧(x6:Int)≤(x4.length:Int)) ((idx x4 x6).bind fun x10=>(DQ ((x4.take x6.toNat).drop 0) x10).bind fun x11=>M3 x6 x11)) else some (.stop (Out.brk ())))
def aL6:(Out Unit Bool)→Option Bool
  | .brk ()=>aL5
  | .ret r=>some r
def aCZ(l:aB):Option Bool:=
  (WC l).bind fun x4=>(loop (CK x4) 0).bind (aL6)
def CL(l:aB):Int→Option (Step Int (Out Unit Bool))
  | x3=>(if decide (x3 < (l.bA.length:Int)) then (idx l.bA x3).bind fun x12=>(if decide (2 < (x12.bB.length:Int)) then some (.stop (Out.ret false)) else some (.next (aI (x3+1)))) else some (.stop (Out.brk ())))
def aC0(l:aB):(Out Unit Bool)→Option Bool
  | .brk ()=>aCZ l
  | .ret r=>some r
def M4(l:aB)(x1:Bool):Option Bool:=
  (if x1 then some false else (loop (CL l) 0).bind (aC0 l))
def U4(l:aB):Option Bool:=
  (if (l.Global.length:Int) != 3 then M4 l true else M4 l ((l.bA.length:Int) != 9))
def HO(h:aC)(x1:Int)(x2:Bool):Option Int:=
  (if x2 then some (-1) else (idx h.Class x1).bind fun x3=>some x3)
def zY(h:aC)(slot:Int):Option Int:=
  (OQ slot).bind fun x1=>(if decide (x1 < 0) then HO h x1 true else (idx h.Class x1).bind fun x4=>(if decide (x4 < 0) then HO h x1 true else (idx h.Class x1).bind fun x5=>(KM slot).bind fun x6=>(zX x5).bind fun x7=>HO h x1 (decide (x7≤x6))))
def JI(h:aC)(slot:Int):Option Int:=
  (zY h slot).bind fun x1=>(JF slot x1).bind fun x2=>(JE h.Bytes x2 4).bind fun x3=>some x3
def aKN:Option Bool:=
  some true
def KN(x2:Int)(x3:Bool):Option (Step Int (Out Unit Bool)):=
  (if x3 then some (.stop (Out.ret false)) else some (.next (aI (x2+1))))
def AT(h:aC)(l:List Int)(c:Int):Int→Option (Step Int (Out Unit Bool))
  | x2=>(if decide (x2 < (l.length:Int)) then (idx l x2).bind fun x4=>(zY h x4).bind fun x5=>(if x5 != c then KN x2 true else (idx l x2).bind fun x6=>(JI h x6).bind fun x7=>KN x2 (decide (6 < x7))) else some (.stop (Out.brk ())))
def aKO:(Out Unit Bool)→Option Bool
  | .brk ()=>aKN
  | .ret r=>some r
def LZ(h:aC)(l:List Int)(c:Int):Option Bool:=
  (loop (AT h l c) 0).bind (aKO)
def L4(w_ c:Int)(x1:Bool):Option Int:=
  (if x1 then some (-1) else some (aI ((aI (w_ * 3))+c)))
def JJ(w_ c:Int):Option Int:=
  (dD w_ 0 2).bind fun x2=>(if !x2 then L4 w_ c true else (dD c 0 2).bind fun x3=>L4 w_ c (!x3))
def aQY:Option Bool:=
  some true
def aGL(x3:Int):Option (Step Int (Out Unit Bool)):=
  some (.next (aI (x3+1)))
def L5(m:Mem)(x3:Int):Int→Option (Step Int (Out Unit Bool))
  | x7=>(if decide (x7 < 3) then (JJ x7 x3).bind fun x8=>(idx m.aB.bA x8).bind fun x9=>(LZ m.aC x9.bB x3).bind fun x10=>(if !x10 then some (.stop (Out.ret false)) else some (.next (aI (x7+1)))) else some (.stop (Out.brk ())))
def aGM(x3:Int):(Out Unit Bool)→Option (Step Int (Out Unit Bool))
  | .brk ()=>aGL x3
  | .ret r=>some (.stop (Out.ret r))
def L6(m:Mem):Int→Option (Step Int (Out Unit Bool))
  | x3=>(if decide (x3 < 3) then (idx m.aB.Global x3).bind fun x4=>(LZ m.aC x4.bB x3).bind fun x5=>(if !x5 then some (.stop (Out.ret false)) else (loop (L5 m x3) 0).bind (aGM x3)) else some (.stop (Out.brk ())))
def aQZ:(Out Unit Bool)→Option Bool
  | .brk ()=>aQY
  | .ret r=>some r
def SO(m:Mem)(x1:Bool):Option Bool:=
  (if x1 then some false else (loop (L6 m) 0).bind (aQZ))
def GF(m:Mem):Option Bool:=
  (YI m.aC).bind fun x11=>(if !x11 then SO m true else (U4 m.aB).bind fun x12=>SO m (!x12))
def aC1:Option Bool:=
  some true
def yU(x3:Int)(x5:Bool):Option (Step Int (Out Unit Bool)):=
  (if x5 then some (.stop (Out.ret false)) else some (.next (aI (x3+1))))
def HP(c:aD):Int→Option (Step Int (Out Unit Bool))
  | x3=>(if decide (x3 < 3) then (idx c.aM x3).bind fun x4=>(if !x4.On then (if !(decide (x4=(⟨false,0,false,0⟩:cQ))) then yU x3 true else (dD x4.aJ 0 c.aJ).bind fun x6=>(if !x6 then yU x3 true else (dD x4.Seen 0 2).bind fun x7=>yU x3 (!x7))) else (dD x4.aJ 0 c.aJ).bind fun x8=>(if !x8 then yU x3 true else (dD x4.Seen 0 2).bind fun x9=>yU x3 (!x9))) else some (.stop (Out.brk ())))
def UE:(Out Unit Bool)→Option Bool
  | .brk ()=>aC1
  | .ret r=>some r
def CM(c:aD)(x1:Bool):Option Bool:=
  (if x1 then some false else (loop (HP c) 0).bind (UE))
def tG(c:aD):Option Bool:=
  (dD c.aJ 0 100000).bind fun x10=>(if !x10 then CM c true else CM c ((c.aM.length:Int) != 3))
def KO(x1:Bool):Option Bool:=
  some x1
def nE(h:Int):Option Bool:=
  (dD h 32 223).bind fun x2=>(if x2 then KO (decide ((Int.tmod h 32) < 24)) else KO false)
def kL(h:Int):Option Int:=
  (nE h).bind fun x1=>(if !x1 then some (-1) else some (Int.tmod h 32))
def aGN(z:List Int):Option Bool:=
  some ((z.length:Int) == 3)
def SP(x2:Int)(x3:Bool):Option (Step Int (Out Unit Bool)):=
  (if x3 then some (.stop (Out.ret false)) else some (.next (aI (x2+1))))
def L7(z:List Int):Int→Option (Step Int (Out Unit Bool))
  | x2=>(if decide (x2 < (z.length:Int)) then (idx z x2).bind fun x4=>(if x4 != 0 then (idx z x2).bind fun x5=>(nE x5).bind fun x6=>SP x2 (!x6) else SP x2 false) else some (.stop (Out.brk ())))
def aGO(z:List Int):(Out Unit Bool)→Option Bool
  | .brk ()=>aGN z
  | .ret r=>some r
def DR(z:List Int):Option Bool:=
  (loop (L7 z) 0).bind (aGO z)
def YJ(l:aB)(slot:Int):Option Bool:=
  (WC l).bind fun x1=>(DQ x1 slot).bind fun x2=>some x2
def O6(m:Mem)(slot:Int):Option Int:=
  (zY m.aC slot).bind fun x1=>(if decide (x1 < 0) then some 0 else (YJ m.aB slot).bind fun x2=>(if x2 then some 1 else (JI m.aC slot).bind fun x3=>(if decide (6 < x3) then some 2 else some 3)))
def O7(h:Int):Option Int:=
  (nE h).bind fun x1=>(if !x1 then some 0 else some (aI (Int.tdiv h 32)))
def HQ(x1:Bool):Option Bool:=
  some x1
def wZ(m:Mem)(h:Int):Option Bool:=
  (nE h).bind fun x2=>(if x2 then (kL h).bind fun x3=>(O6 m x3).bind fun x4=>(if x4 == 3 then (kL h).bind fun x5=>(JI m.aC x5).bind fun x6=>(O7 h).bind fun x7=>HQ (x6 == x7) else HQ false) else HQ false)
def yF(x1:Bool):Option Bool:=
  some x1
def O8(kind:Int):Option Bool:=
  (if kind == 1 then yF true else (if kind == 2 then yF true else (if kind == 3 then yF true else yF (kind == 7))))
def U5(x3:Bool):Option Bool:=
  some x3
def U6(x4:Bool):Option Bool:=
  some x4
def O9(o_:cM)(x2:Bool):Option Bool:=
  (if x2 then some false else (if o_.Kind != 1 then (if o_.gD == 0 then U5 (o_.eY == 0) else U5 false) else (dD o_.gD 0 100).bind fun x5=>(if x5 then (dD o_.eY 0 65535).bind fun x6=>U6 x6 else U6 false)))
def CN(o_:cM):Option Bool:=
  (dD o_.Kind 1 7).bind fun x1=>(if !x1 then some false else (O8 o_.Kind).bind fun x7=>(if !x7 then (if o_.Cell != 0 then O9 o_ true else (dD o_.Cell 0 1).bind fun x8=>O9 o_ (!x8)) else (dD o_.Cell 0 1).bind fun x9=>O9 o_ (!x9)))
def aC2(todo:List Queue):Option Bool:=
  some ((todo.length:Int) == 3)
def aC3(x2:Int):Option (Step Int (Out Unit Bool)):=
  some (.next (aI (x2+1)))
def CP(todo:List Queue)(x2:Int):Int→Option (Step Int (Out Unit Bool))
  | x5=>(idx todo x2).bind fun x6=>(if decide (x5 < (x6.kJ.length:Int)) then (idx todo x2).bind fun x7=>(idx x7.kJ x5).bind fun x8=>(CN x8).bind fun x9=>(if !x9 then some (.stop (Out.ret false)) else some (.next (aI (x5+1)))) else some (.stop (Out.brk ())))
def aC4(x2:Int):(Out Unit Bool)→Option (Step Int (Out Unit Bool))
  | .brk ()=>aC3 x2
  | .ret r=>some (.stop (Out.ret r))
def CQ(todo:List Queue):Int→Option (Step Int (Out Unit Bool))
  | x2=>(if decide (x2 < (todo.length:Int)) then (idx todo x2).bind fun x3=>(if decide (12 < (x3.kJ.length:Int)) then some (.stop (Out.ret false)) else (loop (CP todo x2) 0).bind (aC4 x2)) else some (.stop (Out.brk ())))
def aC5(todo:List Queue):(Out Unit Bool)→Option Bool
  | .brk ()=>aC2 todo
  | .ret r=>some r
def w3(todo:List Queue):Option Bool:=
  (loop (CQ todo) 0).bind (aC5 todo)
def xL(kind a_:Int):Option Sub:=
  some (⟨kind,a_,0,0,0,0,0,0,0,false⟩:Sub)
def nY(s:aE)(w_:Int)(x2:Queue)(x3:cM)(x4:bG):Option aE:=
  (idx s.aR w_).bind fun x5=>need (s.Log.length+([(⟨1,w_,aI (s.aK+1),x3.Cell,0,0,0⟩:Ev)]).length≤1073741824) (some (⟨s.aA,s.Cells,s.aR.set w_.toNat x4,s.aU.set w_.toNat (⟨(x2.kJ.take x2.kJ.length).drop ((1:Int).toNat)⟩:Queue),s.Log++([(⟨1,w_,aI (s.aK+1),x3.Cell,0,0,0⟩:Ev)]),aI (s.aK+1)⟩:aE))
def AU(s:aE)(w_:Int)(x2:Queue)(x3:cM)(x7:Bool):Option aE:=
  (if x7 then (xL 5 0).bind fun x8=>(idx s.aA.aD.aM w_).bind fun x9=>(if x9.On then nY s w_ x2 x3 (⟨true,x3,aI (s.aK+1),9,x8,0,0,0,1⟩:bG) else nY s w_ x2 x3 (⟨true,x3,aI (s.aK+1),0,x8,0,0,0,0⟩:bG)) else (if x3.Kind == 4 then (xL 3 0).bind fun x10=>nY s w_ x2 x3 (⟨true,x3,aI (s.aK+1),0,x10,0,0,0,0⟩:bG) else nY s w_ x2 x3 (⟨true,x3,aI (s.aK+1),0,(⟨0,0,0,0,0,0,0,0,0,false⟩:Sub),0,0,0,0⟩:bG)))
def KP(s:aE)(w_:Int)(x1:Bool):Option aE:=
  (if x1 then some s else (idx s.aU w_).bind fun x2=>(idx x2.kJ 0).bind fun x3=>need (0≤(1:Int)∧(1:Int)≤(x2.kJ.length:Int)) ((if x3.Kind == 1 then (xL 1 x3.gD).bind fun x6=>nY s w_ x2 x3 (⟨true,x3,aI (s.aK+1),0,x6,0,0,0,0⟩:bG) else (if x3.Kind == 2 then AU s w_ x2 x3 true else AU s w_ x2 x3 (x3.Kind == 5)))))
def SQ(s:aE)(w_:Int):Option aE:=
  (idx s.aU w_).bind fun x11=>(if (x11.kJ.length:Int) == 0 then KP s w_ true else KP s w_ (s.aK == 1000000))
def fW(s:Sub)(code:Int):Option Sub:=
  some ({s with Code:=code,dW:=true}:Sub)
def aL7:Option Int:=
  some (-1)
def vR(size:Int):Int→Option (Step Int (Out Unit Int))
  | x2=>(if decide (x2 < 3) then (C8 x2).bind fun x3=>(dD size 1 x3).bind fun x4=>(if x4 then some (.stop (Out.ret x2)) else some (.next (aI (x2+1)))) else some (.stop (Out.brk ())))
def aL8:(Out Unit Int)→Option Int
  | .brk ()=>aL7
  | .ret r=>some r
def U7(size:Int):Option Int:=
  (loop (vR size) 0).bind (aL8)
def ZE(s:aG)(x1:Int):Option (aG×Int):=
  some ((⟨(s.bB.take ((aI ((s.bB.length:Int) - 1)).toNat)).drop 0⟩:aG),x1)
def NW(s:aG):Option (aG×Int):=
  (if (s.bB.length:Int) == 0 then some (s,(-1)) else need (0≤(aI ((s.bB.length:Int) - 1):Int)∧(aI ((s.bB.length:Int) - 1):Int)≤(s.bB.length:Int)) ((idx s.bB (aI ((s.bB.length:Int) - 1))).bind fun x2=>ZE s x2))
def aL9(x7:List Int):Option (List Int):=
  some x7
def M5(at_:Int):((List Int)×Int×Int)→Option (Step ((List Int)×Int×Int) (List Int))
  | (x4,x5,x6)=>(if decide (0≤x6) then (idx x4 (aI (at_+x6))).bind fun x8=>some (.next (x4.set ((aI (at_+x6)).toNat) (Int.tmod x5 256),aI (Int.tdiv x5 256),aI (x6 - 1))) else some (.stop (x4)))
def aMA:(List Int)→Option (List Int)
  | x7=>aL9 x7
def GG(b:List Int)(at_ width n:Int):Option (List Int):=
  (loop (M5 at_) (b,n,aI (width - 1))).bind (aMA)
def aMB(h:aC):Option (aC×(List Int)):=
  some (h,([]:List Int))
def UF(x2:Int):Option (Step Int (Out Unit (aC×(List Int)))):=
  some (.next (aI (x2+1)))
def aMC(h:aC)(c x2:Int)(x14 x15:List Int):Option (Step Int (Out Unit (aC×(List Int)))):=
  some (.stop (Out.ret ((⟨x15,h.Class.set x2.toNat c⟩:aC),x14)))
def UG(x2:Int)(x11:List Int)(x12:Int)(x17:List Int):Option (Step ((List Int)×Int×(List Int)) ((List Int)×(List Int))):=
  (GB x2 x12).bind fun x18=>need (x11.length+([x18]).length≤1073741824) (some (.next (x11++([x18]),aI (x12+1),x17)))
def M6(c x2:Int):((List Int)×Int×(List Int))→Option (Step ((List Int)×Int×(List Int)) ((List Int)×(List Int)))
  | (x11,x12,x13)=>(zX c).bind fun x16=>(if decide (x12 < x16) then (GB x2 x12).bind fun x19=>(JF x19 c).bind fun x20=>(GG x13 x20 4 1).bind fun x21=>UG x2 x11 x12 x21 else some (.stop ((x11,x13))))
def aMD(h:aC)(c x2:Int):((List Int)×(List Int))→Option (Step Int (Out Unit (aC×(List Int))))
  | (x14,x15)=>aMC h c x2 x14 x15
def yV(h:aC)(c:Int):Int→Option (Step Int (Out Unit (aC×(List Int))))
  | x2=>(if decide (x2 < 6) then (idx h.Class x2).bind fun x3=>(if x3 != (-1) then UF x2 else (idx h.Bytes (aI (x2 * 64))).bind fun x4=>(idx (h.Bytes.set ((aI (x2 * 64)).toNat) 171) (aI ((aI (x2 * 64))+1))).bind fun x5=>(zX c).bind fun x6=>(idx ((h.Bytes.set ((aI (x2 * 64)).toNat) 171).set ((aI ((aI (x2 * 64))+1)).toNat) c) (aI ((aI (x2 * 64))+2))).bind fun x7=>(loop (M6 c x2) (([]:List Int),0,((h.Bytes.set ((aI (x2 * 64)).toNat) 171).set ((aI ((aI (x2 * 64))+1)).toNat) c).set ((aI ((aI (x2 * 64))+2)).toNat) x6)).bind (aMD h c x2)) else some (.stop (Out.brk ())))
def aME(h:aC):(Out Unit (aC×(List Int)))→Option (aC×(List Int))
  | .brk ()=>aMB h
  | .ret r=>some r
def KQ(h:aC)(c:Int):Option (aC×(List Int)):=
  (loop (yV h c) 0).bind (aME h)
def UH(m:Mem)(c:Int)(x1:aC×(List Int))(x2:aG)(x3:Int):Option (Mem×Int):=
  some ((⟨x1.1,(⟨m.aB.Global.set c.toNat (⟨x2.bB++((x1.2.take x1.2.length).drop ((1:Int).toNat))⟩:aG),m.aB.bA⟩:aB)⟩:Mem),x3)
def U8(m:Mem)(c:Int):Option (Mem×Int):=
  (KQ m.aC c).bind fun x1=>(if (x1.2.length:Int) == 0 then some ((⟨x1.1,m.aB⟩:Mem),(-1)) else (idx m.aB.Global c).bind fun x2=>need (0≤(1:Int)∧(1:Int)≤(x1.2.length:Int)) (need (x2.bB.length+((x1.2.take x1.2.length).drop ((1:Int).toNat)).length≤1073741824) ((idx x1.2 0).bind fun x4=>UH m c x1 x2 x4)))
def KR(slot gen:Int)(x1:Bool):Option Int:=
  (if x1 then some 0 else some (aI ((aI (gen * 32))+slot)))
def ZF(slot gen:Int):Option Int:=
  (dD slot 0 23).bind fun x2=>(if !x2 then KR slot gen true else (dD gen 1 6).bind fun x3=>KR slot gen (!x3))
def SR(m:Mem)(slot:Int):Option Int:=
  (JI m.aC slot).bind fun x1=>(ZF slot x1).bind fun x2=>some x2
def aBP(b:aA)(s:Sub)(slot pc:Int):Option Sub:=
  (if decide (0≤slot) then (SR b.Mem slot).bind fun x1=>(fW ({s with Out:=x1}:Sub) 0).bind fun x2=>some x2 else some ({s with Pc:=pc}:Sub))
def KS(s:Sub)(x3:Int)(x5:Bool)(x6:aA):Option (aA×Sub):=
  (if x5 then (fW s 3).bind fun x7=>some (x6,x7) else (aBP x6 s x3 (aI (s.Pc+1))).bind fun x8=>some (x6,x8))
def AV(s:Sub)(x3:Int)(x4:aA):Option (aA×Sub):=
  (if decide (x3 < 0) then KS s x3 (s.Pc == 3) x4 else KS s x3 false x4)
def KT(b:aA)(s:Sub)(x1:Int)(x12:Bool):Option (aA×Sub):=
  (if x12 then (idx b.Mem.aB.Global x1).bind fun x13=>(NW x13).bind fun x14=>AV s x14.2 ({b with Mem:=(⟨b.Mem.aC,(⟨b.Mem.aB.Global.set x1.toNat x14.1,b.Mem.aB.bA⟩:aB)⟩:Mem)}:aA) else (if s.Pc == 2 then (U8 b.Mem x1).bind fun x15=>AV s x15.2 ({b with Mem:=x15.1}:aA) else (fW s 1).bind fun x16=>some (b,x16)))
def SS(b:aA)(w_:Int)(s:Sub):Option (aA×Sub):=
  (U7 s.A).bind fun x1=>(if decide (x1 < 0) then (fW s 2).bind fun x2=>some (b,x2) else (if s.Pc == 0 then (JJ w_ x1).bind fun x9=>(idx b.Mem.aB.bA x9).bind fun x10=>(NW x10).bind fun x11=>AV s x11.2 ({b with Mem:=(⟨b.Mem.aC,(⟨b.Mem.aB.Global,b.Mem.aB.bA.set x9.toNat x11.1⟩:aB)⟩:Mem)}:aA) else (if s.Pc == 1 then KT b s x1 true else KT b s x1 (s.Pc == 3))))
def aMF:Option Bool:=
  some false
def HR(x3:Int)(x4:Bool):Option (Step Int (Out Unit Bool)):=
  (if x4 then some (.stop (Out.ret true)) else some (.next (aI (x3+1))))
def CR(slot:Int)(x1:(List bP)):Int→Option (Step Int (Out Unit Bool))
  | x3=>(if decide (x3 < (x1.length:Int)) then (idx x1 x3).bind fun x5=>(nE x5.Handle).bind fun x6=>(if x6 then (kL x5.Handle).bind fun x7=>HR x3 (x7 == slot) else HR x3 false) else some (.stop (Out.brk ())))
def aMG:(Out Unit Bool)→Option Bool
  | .brk ()=>aMF
  | .ret r=>some r
def PA(l:List aP)(slot:Int):Option Bool:=
  (rK l).bind fun x1=>(loop (CR slot x1) 0).bind (aMG)
def PB(b:aA)(s:Sub)(x5:List aP):Option (aA×Sub):=
  (fW s 0).bind fun x6=>some (({b with aH:=x5}:aA),x6)
def I4(b:aA)(w_:Int)(s:Sub)(x3:Bool):Option (aA×Sub):=
  (if x3 then (fW s 4).bind fun x4=>some (b,x4) else (idx b.aH w_).bind fun x7=>need (x7.Rows.length+([(⟨s.A,s.E⟩:bP)]).length≤1073741824)<|PB b s (b.aH.set w_.toNat (⟨x7.Rows++([(⟨s.A,s.E⟩:bP)])⟩:aP)))
def PC(b:aA)(w_:Int)(s:Sub):Option (aA×Sub):=
  (if s.Pc == 0 then some (b,({s with Pc:=1,E:=b.aD.aJ}:Sub)) else (if s.Pc == 1 then (dD s.E 0 b.aD.aJ).bind fun x1=>(if !x1 then (fW s 1).bind fun x2=>some (b,x2) else (wZ b.Mem s.A).bind fun x8=>(if !x8 then I4 b w_ s true else (kL s.A).bind fun x9=>(PA b.aH x9).bind fun x10=>I4 b w_ s x10)) else (fW s 1).bind fun x11=>some (b,x11)))
def E2(w_:Int)(x1:aD)(x3:cQ)(x4:Bool):Option (aD×Bool):=
  (if x4 then some (x1,true) else (if x3.Seen == 2 then (idx x1.aM w_).bind fun x5=>some ((⟨x1.aJ,x1.aM.set w_.toNat ({x5 with jD:=true,Seen:=0}:cQ)⟩:aD),true) else (idx x1.aM w_).bind fun x6=>some ((⟨x1.aJ,x1.aM.set w_.toNat ({x6 with Seen:=aI (x3.Seen+1)}:cQ)⟩:aD),false)))
def PD(c:aD)(w_ e_:Int)(x1:aD)(x2:Bool):Option (aD×Bool):=
  (if x2 then some (x1,false) else (idx c.aM w_).bind fun x3=>(if !x3.On then E2 w_ x1 x3 true else (if x3.jD then E2 w_ x1 x3 true else E2 w_ x1 x3 (x3.aJ == e_))))
def YK(c:aD)(w_ e_:Int):Option (aD×Bool):=
  (C7 c).bind fun x1=>(tG c).bind fun x7=>(if !x7 then PD c w_ e_ x1 true else (dD w_ 0 2).bind fun x8=>PD c w_ e_ x1 (!x8))
def PE(e_:Int)(x1:aD)(x2:Bool):Option (aD×Bool):=
  (if x2 then some (x1,false) else some ((⟨aI (e_+1),x1.aM⟩:aD),true))
def aFZ(c:aD)(e_:Int):Option (aD×Bool):=
  (C7 c).bind fun x1=>(tG c).bind fun x3=>(if !x3 then PE e_ x1 true else (if c.aJ != e_ then PE e_ x1 true else PE e_ x1 (e_ == 100000)))
def GH(b:aA)(s:Sub)(x3:aD×Bool)(x5:Int):Option (aA×Sub):=
  some (({b with aD:=x3.1}:aA),({s with Pc:=x5,B:=aI (s.B+1)}:Sub))
def GI(b:aA)(s:Sub)(x6:aD×Bool)(x7:Int):Option (aA×Sub):=
  (fW ({s with Out:=x7}:Sub) 0).bind fun x8=>some (({b with aD:=x6.1}:aA),x8)
def M7(b:aA)(s:Sub):Option (aA×Sub):=
  (if s.Pc == 0 then some (b,({s with Pc:=1,E:=b.aD.aJ,B:=0}:Sub)) else (if s.Pc == 1 then (dD s.B 0 2).bind fun x1=>(if !x1 then (fW s 1).bind fun x2=>some (b,x2) else (YK b.aD s.B s.E).bind fun x3=>(if !x3.2 then (fW s 8).bind fun x4=>some (({b with aD:=x3.1}:aA),x4) else (if (aI (s.B+1)) == 3 then GH b s x3 2 else GH b s x3 s.Pc))) else (if s.Pc == 2 then (aFZ b.aD s.E).bind fun x6=>(if x6.2 then GI b s x6 1 else GI b s x6 s.Out) else (fW s 1).bind fun x9=>some (b,x9))))
def U9(x1:Bool):Option Bool:=
  some x1
def aAG(r_:bP)(e_:Int):Option Bool:=
  (if decide (2≤e_) then U9 (decide (r_.aJ≤(aI (e_ - 2)))) else U9 false)
def aMH:Option Int:=
  some (-1)
def tH(l:List bP)(e_:Int):Int→Option (Step Int (Out Unit Int))
  | x2=>(if decide (x2 < (l.length:Int)) then (idx l x2).bind fun x3=>(aAG x3 e_).bind fun x4=>(if x4 then some (.stop (Out.ret x2)) else some (.next (aI (x2+1)))) else some (.stop (Out.brk ())))
def aMI:(Out Unit Int)→Option Int
  | .brk ()=>aMH
  | .ret r=>some r
def PF(l:List bP)(from_ e_:Int):Option Int:=
  (loop (tH l e_) (if 0 < from_ then from_ else 0)).bind (aMI)
def WD(x2 x3:List aG):Option aB:=
  some (⟨x2,x3⟩:aB)
def aD8(x:aB)(slot x1:Int)(x4:aG):Option aB:=
  WD x.Global (x.bA.set x1.toNat (⟨x4.bB++([slot])⟩:aG))
def aD9(x:aB)(x5:List aG):Option aB:=
  WD x5 x.bA
def aEA(x:aB)(w_ c slot:Int):Option aB:=
  (JJ w_ c).bind fun x1=>(idx x.bA x1).bind fun x4=>(if decide ((x4.bB.length:Int) < 2) then need (x4.bB.length+([slot]).length≤1073741824)<|aD8 x slot x1 x4 else (idx x.Global c).bind fun x6=>need (x6.bB.length+([slot]).length≤1073741824)<|aD9 x (x.Global.set c.toNat (⟨x6.bB++([slot])⟩:aG)))
def WE(x:Mem)(x3:List Int)(x4 x5:List aG):Option Mem:=
  some (⟨(⟨x3,x.aC.Class⟩:aC),(⟨x4,x5⟩:aB)⟩:Mem)
def WG(x:Mem)(w_ slot x1 x2:Int)(x3:List Int):Option Mem:=
  (if decide ((aI (x2+1))≤6) then (aEA x.aB w_ x1 slot).bind fun x6=>WE x x3 x6.Global x6.bA else WE x x3 x.aB.Global x.aB.bA)
def YL(x:Mem)(w_ slot:Int):Option Mem:=
  (zY x.aC slot).bind fun x1=>(JI x.aC slot).bind fun x2=>(JF slot x1).bind fun x7=>(GG x.aC.Bytes x7 4 (aI (x2+1))).bind fun x8=>WG x w_ slot x1 x2 x8
def GJ(b:aA)(s:Sub)(x8:Int):Option (aA×Sub):=
  some (b,({s with Pc:=x8,B:=aI (s.B+1)}:Sub))
def nF(b:aA)(s:Sub)(x5:Bool):Option (aA×Sub):=
  (if x5 then (fW s 1).bind fun x6=>some (b,x6) else (idx b.bO s.B).bind fun x7=>(if x7 == s.H then some (b,({s with Pc:=1,Row:=aI (s.Row+1)}:Sub)) else (if (aI (s.B+1)) == 3 then GJ b s 3 else GJ b s s.Pc)))
def NX(s:Sub)(x14:aA):Option (aA×Sub):=
  some (x14,({s with Pc:=1,Out:=aI (s.Out+1)}:Sub))
def nG(b:aA)(w_:Int)(s:Sub)(x1:aP)(x12:Bool):Option (aA×Sub):=
  (if x12 then (fW s 1).bind fun x13=>some (b,x13) else need (0≤(s.Row:Int)∧(s.Row:Int)≤(x1.Rows.length:Int)) (need (0≤(aI (s.Row+1):Int)∧(aI (s.Row+1):Int)≤(x1.Rows.length:Int)) (need (s.Row.toNat≤(aI (s.Row+1)).toNat) ((kL s.H).bind fun x15=>(YL b.Mem w_ x15).bind fun x16=>NX s ({b with Mem:=x16,aH:=b.aH.set w_.toNat (⟨((fD x1.Rows s.Row.toNat (x1.Rows.drop ((aI (s.Row+1)).toNat))).take (s.Row.toNat+(x1.Rows.length - ((aI (s.Row+1)).toNat)))).drop 0⟩:aP)}:aA)))))
def M8(b:aA)(w_:Int)(s:Sub):Option (aA×Sub):=
  (idx b.aH w_).bind fun x1=>(if s.Pc == 0 then some (b,({s with Pc:=1,E:=b.aD.aJ,Row:=0}:Sub)) else (if s.Pc == 1 then (PF x1.Rows s.Row s.E).bind fun x2=>(if decide (x2 < 0) then (fW s 0).bind fun x3=>some (b,x3) else (idx x1.Rows x2).bind fun x4=>some (b,({s with Pc:=2,Row:=x2,B:=0,H:=x4.Handle}:Sub))) else (if s.Pc == 2 then (dD s.B 0 2).bind fun x9=>(if !x9 then nF b s true else (dD s.Row 0 (aI ((x1.Rows.length:Int) - 1))).bind fun x10=>(if !x10 then nF b s true else (idx x1.Rows s.Row).bind fun x11=>nF b s (x11.Handle != s.H))) else (if s.Pc == 3 then (dD s.Row 0 (aI ((x1.Rows.length:Int) - 1))).bind fun x17=>(if !x17 then nG b w_ s x1 true else (idx x1.Rows s.Row).bind fun x18=>(if x18.Handle != s.H then nG b w_ s x1 true else (aAG x18 s.E).bind fun x19=>nG b w_ s x1 (!x19))) else (fW s 1).bind fun x20=>some (b,x20)))))
def L8(w_ e_:Int)(x1:aD)(x2:Bool):Option (aD×Bool):=
  (if x2 then some (x1,false) else (idx x1.aM w_).bind fun x3=>some ((⟨x1.aJ,x1.aM.set w_.toNat (⟨true,e_,false,0⟩:cQ)⟩:aD),true))
def aBQ(c:aD)(w_ e_:Int):Option (aD×Bool):=
  (C7 c).bind fun x1=>(tG c).bind fun x4=>(if !x4 then L8 w_ e_ x1 true else (dD w_ 0 2).bind fun x5=>(if !x5 then L8 w_ e_ x1 true else (dD e_ 0 c.aJ).bind fun x6=>L8 w_ e_ x1 (!x6)))
def YM(b:aA)(w_:Int)(s:Sub):Option (aA×Sub):=
  (if s.Pc == 0 then some (b,({s with Pc:=1,E:=b.aD.aJ}:Sub)) else (if s.Pc == 1 then (aBQ b.aD w_ s.E).bind fun x1=>(if !x1.2 then (fW s 1).bind fun x2=>some (({b with aD:=x1.1}:aA),x2) else some (({b with aD:=x1.1}:aA),({s with Pc:=2}:Sub))) else (if s.Pc == 2 then (if b.aD.aJ == s.E then (fW s 0).bind fun x3=>some (b,x3) else some (b,({s with Pc:=0}:Sub))) else (fW s 1).bind fun x4=>some (b,x4))))
def NY(b:aA)(w_:Int)(s:Sub):Option (aA×Sub):=
  (if s.dW then some (b,s) else (if s.Kind == 1 then (SS b w_ s).bind fun x1=>some (x1.1,x1.2) else (if s.Kind == 2 then (PC b w_ s).bind fun x2=>some (x2.1,x2.2) else (if s.Kind == 3 then (M7 b s).bind fun x3=>some (x3.1,x3.2) else (if s.Kind == 4 then (M8 b w_ s).bind fun x4=>some (x4.1,x4.2) else (if s.Kind == 5 then (YM b w_ s).bind fun x5=>some (x5.1,x5.2) else (fW s 1).bind fun x6=>some (b,x6)))))))
def eF(j:bG)(pc code:Int):Option bG:=
  some ({j with Pc:=pc,Code:=code}:bG)
def PG(slot c:Int):Option Int:=
  (JF slot c).bind fun x1=>(if decide (x1 < 0) then some (-1) else some (aI (x1+4)))
def PH(at_ x3 x4:Int)(x5:Bool):Option (Int×Int):=
  (if x5 then some (0,2) else (PG x3 x4).bind fun x6=>some (aI (x6+at_),0))
def PI(m:Mem)(h at_ width:Int)(x1:Bool):Option (Int×Int):=
  (if x1 then some (0,1) else (wZ m h).bind fun x2=>(if !x2 then some (0,4) else (kL h).bind fun x3=>(zY m.aC x3).bind fun x4=>(C8 x4).bind fun x7=>(dD at_ 0 (aI (x7 - 1))).bind fun x8=>(if !x8 then PH at_ x3 x4 true else (C8 x4).bind fun x9=>PH at_ x3 x4 (decide ((aI (x9 - at_)) < width)))))
def aEB(m:Mem)(h at_ width:Int):Option (Int×Int):=
  (GF m).bind fun x10=>(if !x10 then PI m h at_ width true else (dD width 1 7).bind fun x11=>PI m h at_ width (!x11))
def aGP(x8:Int)(x9:List UInt8):Option (List UInt8):=
  (if decide (0 < x8) then some ([]) else some x9)
def SU(width:Int):(Int×(List UInt8)×Int)→Option (Step (Int×(List UInt8)×Int) (Int×(List UInt8)))
  | (x5,x6,x7)=>(if decide (x7 < width) then need (([u8 (Int.tmod x5 256)]).length+x6.length≤9223372036854775807) (some (.next (aI (Int.tdiv x5 256),([u8 (Int.tmod x5 256)])++x6,aI (x7+1)))) else some (.stop ((x5,x6))))
def aGQ:(Int×(List UInt8))→Option (List UInt8)
  | (x8,x9)=>aGP x8 x9
def SW(n width:Int)(x1:Bool):Option (List UInt8):=
  (if x1 then some ([]) else (loop (SU width) (n,[],0)).bind (aGQ))
def WH(n width:Int):Option (List UInt8):=
  (dD width 1 7).bind fun x10=>(if !x10 then SW n width true else SW n width (decide (n < 0)))
def VA(m:Mem)(h at_ width n:Int):Option (Mem×Int):=
  (TO m).bind fun x1=>(aEB m h at_ width).bind fun x2=>(if x2.2 != 0 then some (x1,x2.2) else (WH n width).bind fun x3=>(if x3 == ([]) then some (x1,1) else (GG x1.aC.Bytes x2.1 width n).bind fun x4=>some ((⟨(⟨x4,x1.aC.Class⟩:aC),x1.aB⟩:Mem),0)))
def YN(s:aE)(w_:Int)(j:bG):Option (aE×bG):=
  (if j.Pc == 0 then (NY s.aA w_ j.Sub).bind fun x1=>(if !x1.2.dW then some (({s with aA:=x1.1}:aE),({j with Sub:=x1.2}:bG)) else (if x1.2.Code != 0 then (eF ({j with Sub:=x1.2}:bG) 9 x1.2.Code).bind fun x2=>some (({s with aA:=x1.1}:aE),x2) else (nE x1.2.Out).bind fun x3=>(if !x3 then (eF ({j with Sub:=x1.2}:bG) 9 1).bind fun x4=>some (({s with aA:=x1.1}:aE),x4) else (eF ({j with Sub:=x1.2,H:=x1.2.Out}:bG) 1 0).bind fun x5=>some (({s with aA:=x1.1}:aE),x5)))) else (if j.Pc == 1 then (VA s.aA.Mem j.H 0 4 j.Op.eY).bind fun x6=>(if x6.2 != 0 then (eF j 9 x6.2).bind fun x7=>some (({s with aA:=(⟨x6.1,s.aA.aD,s.aA.aH,s.aA.bO⟩:aA)}:aE),x7) else (eF j 2 0).bind fun x8=>some (({s with aA:=(⟨x6.1,s.aA.aD,s.aA.aH,s.aA.bO⟩:aA)}:aE),x8)) else (if j.Pc == 2 then (idx s.Cells j.Op.Cell).bind fun x9=>need (s.Log.length+([(⟨2,w_,j.aK,j.Op.Cell,j.H,j.Op.eY,0⟩:Ev)]).length≤1073741824) ((if x9 == 0 then (eF ({j with Old:=x9}:bG) 9 0).bind fun x10=>some (({s with Cells:=s.Cells.set j.Op.Cell.toNat j.H,Log:=s.Log++([(⟨2,w_,j.aK,j.Op.Cell,j.H,j.Op.eY,0⟩:Ev)])}:aE),x10) else (xL 2 x9).bind fun x11=>(eF ({j with Sub:=x11,Old:=x9}:bG) 3 0).bind fun x12=>some (({s with Cells:=s.Cells.set j.Op.Cell.toNat j.H,Log:=s.Log++([(⟨2,w_,j.aK,j.Op.Cell,j.H,j.Op.eY,0⟩:Ev)])}:aE),x12))) else (if j.Pc == 3 then (NY s.aA w_ j.Sub).bind fun x13=>(if !x13.2.dW then some (({s with aA:=x13.1}:aE),({j with Sub:=x13.2}:bG)) else (eF ({j with Sub:=x13.2}:bG) 9 x13.2.Code).bind fun x14=>some (({s with aA:=x13.1}:aE),x14)) else (eF j 9 1).bind fun x15=>some (s,x15)))))
def zZ(s:aE)(w_:Int)(j:bG):Option aE:=
  need (s.Log.length+([(⟨3,w_,j.aK,j.Op.Cell,j.H,0,0⟩:Ev)]).length≤1073741824) (some ({s with Log:=s.Log++([(⟨3,w_,j.aK,j.Op.Cell,j.H,0,0⟩:Ev)])}:aE))
def E3(h:aC)(x at_ width x3:Int)(x4:Bool):Option (Int×Bool):=
  (if x4 then some (0,false) else (kL x).bind fun x5=>(PG x5 x3).bind fun x6=>(JE h.Bytes (aI (x6+at_)) width).bind fun x7=>some (x7,true))
def PJ(h:aC)(x at_ width:Int)(x1:Bool):Option (Int×Bool):=
  (if x1 then some (0,false) else (kL x).bind fun x2=>(zY h x2).bind fun x3=>(if decide (x3 < 0) then E3 h x at_ width x3 true else (C8 x3).bind fun x8=>(dD at_ 0 (aI (x8 - 1))).bind fun x9=>(if !x9 then E3 h x at_ width x3 true else (C8 x3).bind fun x10=>E3 h x at_ width x3 (decide ((aI (x10 - at_)) < width)))))
def YO(h:aC)(x at_ width:Int):Option (Int×Bool):=
  (nE x).bind fun x11=>(if !x11 then PJ h x at_ width true else (dD width 1 7).bind fun x12=>PJ h x at_ width (!x12))
def GK(s:aE)(j:bG):Option Int:=
  (YO s.aA.Mem.aC j.H 0 4).bind fun x1=>some x1.1
def E4(j:bG)(pc:Int)(x2:Bool):Option bG:=
  (if x2 then (eF j pc 0).bind fun x3=>some x3 else (eF ({j with eY:=0}:bG) pc 6).bind fun x4=>some x4)
def L9(s:aE)(w_:Int)(j:bG)(pc:Int):Option bG:=
  (idx s.aA.aD.aM w_).bind fun x1=>(if x1.On then E4 j pc (!x1.jD) else E4 j pc false)
def MA(w_:Int)(x1:aD)(x2:Bool):Option (aD×Bool):=
  (if x2 then some (x1,false) else (idx x1.aM w_).bind fun x3=>some ((⟨x1.aJ,x1.aM.set w_.toNat (⟨false,0,false,0⟩:cQ)⟩:aD),true))
def WI(c:aD)(w_:Int):Option (aD×Bool):=
  (C7 c).bind fun x1=>(tG c).bind fun x4=>(if !x4 then MA w_ x1 true else (dD w_ 0 2).bind fun x5=>(if !x5 then MA w_ x1 true else (idx c.aM w_).bind fun x6=>MA w_ x1 (!x6.On)))
def YP(s:aE)(w_:Int)(j:bG):Option (aE×bG):=
  (if j.Pc == 0 then (NY s.aA w_ j.Sub).bind fun x1=>(if !x1.2.dW then some (({s with aA:=x1.1}:aE),({j with Sub:=x1.2}:bG)) else (eF ({j with Sub:=x1.2}:bG) 1 0).bind fun x2=>some (({s with aA:=x1.1}:aE),x2)) else (if j.Pc == 1 then (idx s.Cells j.Op.Cell).bind fun x3=>(zZ s w_ ({j with H:=x3}:bG)).bind fun x4=>(if x3 == 0 then (eF ({j with H:=x3}:bG) 4 8).bind fun x5=>some (x4,x5) else (eF ({j with H:=x3}:bG) 2 0).bind fun x6=>some (x4,x6)) else (if j.Pc == 2 then (GK s j).bind fun x7=>(eF ({j with eY:=x7}:bG) 3 0).bind fun x8=>some (s,x8) else (if j.Pc == 3 then (L9 s w_ j 4).bind fun x9=>some (s,x9) else (if j.Pc == 4 then (WI s.aA.aD w_).bind fun x10=>(eF j 9 j.Code).bind fun x11=>some (({s with aA:=(⟨s.aA.Mem,x10.1,s.aA.aH,s.aA.bO⟩:aA)}:aE),x11) else (eF j 9 1).bind fun x12=>some (s,x12))))))
def HT(w_ h:Int)(x1:(List Int))(x2:Bool):Option ((List Int)×Bool):=
  (if x2 then some (x1,false) else (idx x1 w_).bind fun x3=>some (x1.set w_.toNat h,true))
def VB(z:List Int)(w_ h:Int):Option ((List Int)×Bool):=
  (AL z).bind fun x1=>(DR z).bind fun x4=>(if !x4 then HT w_ h x1 true else (dD w_ 0 2).bind fun x5=>(if !x5 then HT w_ h x1 true else (nE h).bind fun x6=>HT w_ h x1 (!x6)))
def MB(w_:Int)(x1:(List Int))(x2:Bool):Option ((List Int)×Bool):=
  (if x2 then some (x1,false) else (idx x1 w_).bind fun x3=>some (x1.set w_.toNat 0,true))
def aBR(z:List Int)(w_:Int):Option ((List Int)×Bool):=
  (AL z).bind fun x1=>(DR z).bind fun x4=>(if !x4 then MB w_ x1 true else (dD w_ 0 2).bind fun x5=>(if !x5 then MB w_ x1 true else (idx z w_).bind fun x6=>MB w_ x1 (x6 == 0)))
def YQ(s:aE)(w_:Int)(j:bG):Option (aE×bG):=
  (if j.Pc == 0 then (idx s.Cells j.Op.Cell).bind fun x1=>(if x1 == 0 then (zZ s w_ ({j with H:=x1}:bG)).bind fun x2=>(eF ({j with H:=x1}:bG) 4 8).bind fun x3=>some (x2,x3) else (eF ({j with H:=x1}:bG) 1 0).bind fun x4=>some (s,x4)) else (if j.Pc == 1 then (VB s.aA.bO w_ j.H).bind fun x5=>(eF j 2 0).bind fun x6=>some (({s with aA:=(⟨s.aA.Mem,s.aA.aD,s.aA.aH,x5.1⟩:aA)}:aE),x6) else (if j.Pc == 2 then (idx s.Cells j.Op.Cell).bind fun x7=>(if x7 != j.H then (eF j 0 0).bind fun x8=>some (s,x8) else (zZ s w_ j).bind fun x9=>(eF j 3 0).bind fun x10=>some (x9,x10)) else (if j.Pc == 3 then (GK s j).bind fun x11=>(eF ({j with eY:=x11}:bG) 4 0).bind fun x12=>some (s,x12) else (if j.Pc == 4 then (aBR s.aA.bO w_).bind fun x13=>(eF j 9 j.Code).bind fun x14=>some (({s with aA:=(⟨s.aA.Mem,s.aA.aD,s.aA.aH,x13.1⟩:aA)}:aE),x14) else (eF j 9 1).bind fun x15=>some (s,x15))))))
def VC(s:aE)(w_:Int)(j:bG):Option (aE×bG):=
  (idx s.aA.aD.aM w_).bind fun x1=>(if j.Pc == 0 then (if !x1.On then (eF j 9 5).bind fun x2=>some (s,x2) else (if x1.jD then (eF j 9 6).bind fun x3=>some (s,x3) else (idx s.Cells j.Op.Cell).bind fun x4=>(zZ s w_ ({j with H:=x4}:bG)).bind fun x5=>(if x4 == 0 then (eF ({j with H:=x4}:bG) 9 8).bind fun x6=>some (x5,x6) else (eF ({j with H:=x4}:bG) 1 0).bind fun x7=>some (x5,x7)))) else (if j.Pc == 1 then (GK s j).bind fun x8=>(eF ({j with eY:=x8}:bG) 2 0).bind fun x9=>some (s,x9) else (if j.Pc == 2 then (L9 s w_ j 9).bind fun x10=>some (s,x10) else (eF j 9 1).bind fun x11=>some (s,x11))))
def AW(s:aE)(w_:Int)(j:bG)(x5:Bool):Option (aE×bG):=
  (if x5 then (eF j 9 1).bind fun x6=>some (s,x6) else (NY s.aA w_ j.Sub).bind fun x7=>(if !x7.2.dW then some (({s with aA:=x7.1}:aE),({j with Sub:=x7.2}:bG)) else (if j.Op.Kind == 5 then (eF ({j with Sub:=x7.2}:bG) 9 x7.2.Code).bind fun x8=>some (({s with aA:=x7.1}:aE),x8) else (if j.Pc == 0 then (xL 4 0).bind fun x9=>(eF ({j with Sub:=x9}:bG) 1 0).bind fun x10=>some (({s with aA:=x7.1}:aE),x10) else (eF ({j with Sub:=x7.2,eY:=x7.2.Out}:bG) 9 x7.2.Code).bind fun x11=>some (({s with aA:=x7.1}:aE),x11)))))
def KU(s:aE)(w_:Int)(j:bG)(x1:Bool):Option (aE×bG):=
  (if x1 then (WI s.aA.aD w_).bind fun x2=>(if !x2.2 then (eF j 9 5).bind fun x3=>some (({s with aA:=(⟨s.aA.Mem,x2.1,s.aA.aH,s.aA.bO⟩:aA)}:aE),x3) else (eF j 9 0).bind fun x4=>some (({s with aA:=(⟨s.aA.Mem,x2.1,s.aA.aH,s.aA.bO⟩:aA)}:aE),x4)) else (if j.Op.Kind == 6 then AW s w_ j true else (if j.Pc != 0 then (if j.Pc != 1 then AW s w_ j true else AW s w_ j (j.Op.Kind == 5)) else AW s w_ j false)))
def SX(s:aE)(w_:Int)(j:bG):Option (aE×bG):=
  (if j.Op.Kind == 6 then KU s w_ j (j.Pc == 0) else KU s w_ j false)
def mJ(w_:Int)(x3:aE)(x4:bG):Option aE:=
  (idx x3.aR w_).bind fun x5=>some ({x3 with aR:=x3.aR.set w_.toNat x4}:aE)
def DS(s:aE)(w_:Int):Option aE:=
  (idx s.aR w_).bind fun x1=>(if !x1.g7 then (SQ s w_).bind fun x2=>some x2 else (if x1.Pc == 9 then need (s.Log.length+([(⟨4,w_,x1.aK,x1.Op.Cell,x1.H,x1.eY,x1.Code⟩:Ev)]).length≤1073741824) (some ({s with aR:=s.aR.set w_.toNat (⟨false,(⟨0,0,0,0⟩:cM),0,0,(⟨0,0,0,0,0,0,0,0,0,false⟩:Sub),0,0,0,0⟩:bG),Log:=s.Log++([(⟨4,w_,x1.aK,x1.Op.Cell,x1.H,x1.eY,x1.Code⟩:Ev)])}:aE)) else (if x1.Op.Kind == 1 then (YN s w_ x1).bind fun x6=>mJ w_ x6.1 x6.2 else (if x1.Op.Kind == 2 then (YP s w_ x1).bind fun x7=>mJ w_ x7.1 x7.2 else (if x1.Op.Kind == 3 then (YQ s w_ x1).bind fun x8=>mJ w_ x8.1 x8.2 else (if x1.Op.Kind == 7 then (VC s w_ x1).bind fun x9=>mJ w_ x9.1 x9.2 else (SX s w_ x1).bind fun x10=>mJ w_ x10.1 x10.2))))))
def aEC(x5:List Int):Option (List Int):=
  some x5
def WJ(a_:List Int):((List Int)×Int)→Option (Step ((List Int)×Int) (List Int))
  | (x3,x4)=>(if decide (x4 < (a_.length:Int)) then (idx a_ x4).bind fun x6=>(idx x3 x4).bind fun x7=>some (.next (x3.set x4.toNat x6,aI (x4+1))) else some (.stop (x3)))
def aED:(List Int)→Option (List Int)
  | x5=>aEC x5
def jG(a_:List Int):Option (List Int):=
  need (0≤((a_.length:Int):Int)∧((a_.length:Int):Int)≤4294967296) ((loop (WJ a_) (List.replicate ((a_.length:Int).toNat) 0,0)).bind (aED))
def RR(a_:cM):Option cM:=
  some a_
def aGR(x5:List cM):Option (List cM):=
  some x5
def ZG(a_:List cM):((List cM)×Int)→Option (Step ((List cM)×Int) (List cM))
  | (x3,x4)=>(if decide (x4 < (a_.length:Int)) then (idx a_ x4).bind fun x6=>(RR x6).bind fun x7=>(idx x3 x4).bind fun x8=>some (.next (x3.set x4.toNat x7,aI (x4+1))) else some (.stop (x3)))
def aGS:(List cM)→Option (List cM)
  | x5=>aGR x5
def aBS(a_:List cM):Option (List cM):=
  need (0≤((a_.length:Int):Int)∧((a_.length:Int):Int)≤4294967296) ((loop (ZG a_) (List.replicate ((a_.length:Int).toNat) (⟨0,0,0,0⟩:cM),0)).bind (aGS))
def VD(a_:Queue):Option Queue:=
  (aBS a_.kJ).bind fun x1=>some (⟨x1⟩:Queue)
def aAH(x5:List Queue):Option (List Queue):=
  some x5
def RS(a_:List Queue):((List Queue)×Int)→Option (Step ((List Queue)×Int) (List Queue))
  | (x3,x4)=>(if decide (x4 < (a_.length:Int)) then (idx a_ x4).bind fun x6=>(VD x6).bind fun x7=>(idx x3 x4).bind fun x8=>some (.next (x3.set x4.toNat x7,aI (x4+1))) else some (.stop (x3)))
def aAI:(List Queue)→Option (List Queue)
  | x5=>aAH x5
def uK(a_:List Queue):Option (List Queue):=
  need (0≤((a_.length:Int):Int)∧((a_.length:Int):Int)≤4294967296) ((loop (RS a_) (List.replicate ((a_.length:Int).toNat) (⟨[]⟩:Queue),0)).bind (aAI))
def nZ(s:List Int):Option (List Int):=
  need (([]:List Int).length+s.length≤1073741824) (some (([]:List Int)++s))
def IM(h:aC):Option aC:=
  (nZ h.Bytes).bind fun x1=>(nZ h.Class).bind fun x2=>some (⟨x1,x2⟩:aC)
def aI2(x5 x10:List aG):Option aB:=
  some (⟨x5,x10⟩:aB)
def PK(x8:Int)(x12:List aG):Option (Step (Int×(List aG)) (List aG)):=
  some (.next (aI (x8+1),x12))
def PL(l:aB):(Int×(List aG))→Option (Step (Int×(List aG)) (List aG))
  | (x8,x9)=>(if decide (x8 < (l.bA.length:Int)) then (idx l.bA x8).bind fun x11=>(nZ x11.bB).bind fun x13=>need (x9.length+([(⟨x13⟩:aG)]).length≤1073741824)<|PK x8 (x9++([(⟨x13⟩:aG)])) else some (.stop (x9)))
def aI3(x5:List aG):(List aG)→Option aB
  | x10=>aI2 x5 x10
def YR(l:aB)(x5:List aG):Option aB:=
  (loop (PL l) (0,[])).bind (aI3 x5)
def PM(x3:Int)(x15:List aG):Option (Step (Int×(List aG)) (List aG)):=
  some (.next (aI (x3+1),x15))
def PN(l:aB):(Int×(List aG))→Option (Step (Int×(List aG)) (List aG))
  | (x3,x4)=>(if decide (x3 < (l.Global.length:Int)) then (idx l.Global x3).bind fun x14=>(nZ x14.bB).bind fun x16=>need (x4.length+([(⟨x16⟩:aG)]).length≤1073741824)<|PM x3 (x4++([(⟨x16⟩:aG)])) else some (.stop (x4)))
def YS(l:aB):(List aG)→Option aB
  | x5=>YR l x5
def sT(l:aB):Option aB:=
  (loop (PN l) (0,[])).bind (YS l)
def PO(m:Mem):Option Mem:=
  (IM m.aC).bind fun x1=>(sT m.aB).bind fun x2=>some (⟨x1,x2⟩:Mem)
def KV(s:List cQ):Option (List cQ):=
  need (([]:List cQ).length+s.length≤1073741824) (some (([]:List cQ)++s))
def xM(c:aD):Option aD:=
  (KV c.aM).bind fun x1=>some (⟨c.aJ,x1⟩:aD)
def I5(s:List bP):Option (List bP):=
  need (([]:List bP).length+s.length≤1073741824) (some (([]:List bP)++s))
def aI4(x5:List aP):Option (List aP):=
  some x5
def PQ(l:List aP):((List aP)×Int)→Option (Step ((List aP)×Int) (List aP))
  | (x3,x4)=>(if decide (x4 < (l.length:Int)) then (idx l x4).bind fun x6=>(I5 x6.Rows).bind fun x7=>need (x3.length+([(⟨x7⟩:aP)]).length≤1073741824) (some (.next (x3++([(⟨x7⟩:aP)]),aI (x4+1)))) else some (.stop (x3)))
def aI5:(List aP)→Option (List aP)
  | x5=>aI4 x5
def xN(l:List aP):Option (List aP):=
  (loop (PQ l) (([]:List aP),0)).bind (aI5)
def SY(b:aA):Option aA:=
  (PO b.Mem).bind fun x1=>(xM b.aD).bind fun x2=>(xN b.aH).bind fun x3=>(nZ b.bO).bind fun x4=>some (⟨x1,x2,x3,x4⟩:aA)
def RT(s:List bG):Option (List bG):=
  need (([]:List bG).length+s.length≤1073741824) (some (([]:List bG)++s))
def UI(s:List cM):Option (List cM):=
  need (([]:List cM).length+s.length≤1073741824) (some (([]:List cM)++s))
def aKP(x5:List Queue):Option (List Queue):=
  some x5
def RU(todo:List Queue):((List Queue)×Int)→Option (Step ((List Queue)×Int) (List Queue))
  | (x3,x4)=>(if decide (x4 < (todo.length:Int)) then (idx todo x4).bind fun x6=>(UI x6.kJ).bind fun x7=>need (x3.length+([(⟨x7⟩:Queue)]).length≤1073741824) (some (.next (x3++([(⟨x7⟩:Queue)]),aI (x4+1)))) else some (.stop (x3)))
def aKQ:(List Queue)→Option (List Queue)
  | x5=>aKP x5
def DT(todo:List Queue):Option (List Queue):=
  (loop (RU todo) (([]:List Queue),0)).bind (aKQ)
def UJ(s:List Ev):Option (List Ev):=
  need (([]:List Ev).length+s.length≤1073741824) (some (([]:List Ev)++s))
def mX(s:aE):Option aE:=
  (SY s.aA).bind fun x1=>(nZ s.Cells).bind fun x2=>(RT s.aR).bind fun x3=>(DT s.aU).bind fun x4=>(UJ s.Log).bind fun x5=>some (⟨x1,x2,x3,x4,x5,s.aK⟩:aE)
def OR:Option Int:=
  some (-1)
def uB(s:List Int)(f:(Int→Option Bool)):Int→Option (Step Int (Out Unit Int))
  | x2=>(if decide (x2 < (s.length:Int)) then (idx s x2).bind fun x3=>(f x3).bind fun x4=>(if x4 then some (.stop (Out.ret x2)) else some (.next (aI (x2+1)))) else some (.stop (Out.brk ())))
def E5:(Out Unit Int)→Option Int
  | .brk ()=>OR
  | .ret r=>some r
def JK(s:List Int)(f:(Int→Option Bool)):Option Int:=
  (loop (uB s f) 0).bind (E5)
def iW(s:List Int)(f:(Int→Option Bool)):Option Bool:=
  (JK s f).bind fun x1=>some (decide (0≤x1))
def E6(x1:Bool):Option Bool:=
  some x1
def fO(n low high:Int):Option Bool:=
  (if decide (low≤n) then E6 (decide (n≤high)) else E6 false)
def aEE(x:Int):Option Bool:=
  (fO x 0 255).bind fun x1=>some x1
def PR(x:Int):Option Bool:=
  (aEE x).bind fun x1=>some (!x1)
def M9(x1:Bool):Option Bool:=
  some x1
def VE(b:List Int):Option Bool:=
  (if decide ((b.length:Int)≤1000) then (iW b (fun y0=>PR y0)).bind fun x2=>M9 (!x2) else M9 false)
def SZ(c:Int):Option Bool:=
  (fO c (-1) 2).bind fun x1=>some (!x1)
def E7(x1:Bool):Option Bool:=
  some x1
def TP(h:aC):Option Bool:=
  (if (h.Bytes.length:Int) == 384 then (VE h.Bytes).bind fun x2=>(if x2 then (if (h.Class.length:Int) == 6 then (iW h.Class (fun y0=>SZ y0)).bind fun x3=>E7 (!x3) else E7 false) else E7 false) else E7 false)
def aMJ(x5:Int):Option Int:=
  some x5
def HU(b:List Int)(at_ width:Int):(Int×Int)→Option (Step (Int×Int) Int)
  | (x3,x4)=>(if decide (x4 < (((b.take ((aI (at_+width)).toNat)).drop at_.toNat).length:Int)) then (idx ((b.take ((aI (at_+width)).toNat)).drop at_.toNat) x4).bind fun x6=>some (.next (aI ((aI (256 * x3))+x6),aI (x4+1))) else some (.stop (x3)))
def aMK:Int→Option Int
  | x5=>aMJ x5
def z5(b:List Int)(at_ width:Int):Option Int:=
  need (0≤(at_:Int)∧(at_:Int)≤(aI (at_+width):Int)∧(aI (at_+width):Int)≤(b.length:Int)) ((loop (HU b at_ width) (0,0)).bind (aMK))
def S1(x:Int):Option Bool:=
  some (x != 0)
def TQ(b:List Int):Option Bool:=
  (iW b (fun y0=>S1 y0)).bind fun x1=>some (!x1)
def w5(c:Int):Option Bool:=
  (fO c 0 2).bind fun x1=>some x1
def OS(c:Int):Option Int:=
  (w5 c).bind fun x1=>(if !x1 then some 0 else (idx ([8,16,40]:List Int) c).bind fun x2=>some x2)
def IN(c:Int):Option Int:=
  (w5 c).bind fun x1=>(if !x1 then some 0 else (OS c).bind fun x2=>some (aI (4+x2)))
def C9(c:Int):Option Int:=
  (w5 c).bind fun x1=>(if !x1 then some 0 else (IN c).bind fun x2=>need (x2≠0) (some (aI (Int.tdiv 56 x2))))
def aO0:Option Bool:=
  some true
def E8(h:aC)(page x1 x4:Int):Int→Option (Step Int (Out Unit Bool))
  | x6=>(if decide (x6 < x4) then (IN x1).bind fun x7=>(z5 ((h.Bytes.take ((aI ((aI (page+1)) * 64)).toNat)).drop ((aI (page * 64)).toNat)) (aI (8+(aI (x6 * x7)))) 4).bind fun x8=>(fO x8 1 7).bind fun x9=>(if !x9 then some (.stop (Out.ret false)) else some (.next (aI (x6+1)))) else some (.stop (Out.brk ())))
def aO1:(Out Unit Bool)→Option Bool
  | .brk ()=>aO0
  | .ret r=>some r
def uO(h:aC)(page x1:Int)(x3:Bool):Option Bool:=
  (if x3 then some false else (C9 x1).bind fun x4=>(loop (E8 h page x1 x4) 0).bind (aO1))
def YT(h:aC)(page:Int):Option Bool:=
  (idx h.Class page).bind fun x1=>need (0≤(aI (page * 64):Int)∧(aI (page * 64):Int)≤(aI ((aI (page+1)) * 64):Int)∧(aI ((aI (page+1)) * 64):Int)≤(h.Bytes.length:Int)) ((if decide (x1 < 0) then (TQ ((h.Bytes.take ((aI ((aI (page+1)) * 64)).toNat)).drop ((aI (page * 64)).toNat))).bind fun x2=>some x2 else (idx ((h.Bytes.take ((aI ((aI (page+1)) * 64)).toNat)).drop ((aI (page * 64)).toNat)) 0).bind fun x10=>(if x10 != 171 then uO h page x1 true else (idx ((h.Bytes.take ((aI ((aI (page+1)) * 64)).toNat)).drop ((aI (page * 64)).toNat)) 1).bind fun x11=>(if x11 != x1 then uO h page x1 true else (idx ((h.Bytes.take ((aI ((aI (page+1)) * 64)).toNat)).drop ((aI (page * 64)).toNat)) 2).bind fun x12=>(C9 x1).bind fun x13=>(if x12 != x13 then uO h page x1 true else need (0≤(3:Int)∧(3:Int)≤(8:Int)∧(8:Int)≤(((h.Bytes.take ((aI ((aI (page+1)) * 64)).toNat)).drop ((aI (page * 64)).toNat)).length:Int)) ((TQ ((((h.Bytes.take ((aI ((aI (page+1)) * 64)).toNat)).drop ((aI (page * 64)).toNat)).take ((8:Int).toNat)).drop ((3:Int).toNat))).bind fun x14=>uO h page x1 (!x14)))))))
def aO2:Option Bool:=
  some true
def JL(h:aC):Int→Option (Step Int (Out Unit Bool))
  | x3=>(if decide (x3 < 6) then (YT h x3).bind fun x4=>(if !x4 then some (.stop (Out.ret false)) else some (.next (aI (x3+1)))) else some (.stop (Out.brk ())))
def aO3:(Out Unit Bool)→Option Bool
  | .brk ()=>aO2
  | .ret r=>some r
def TR(h:aC):Option Bool:=
  (TP h).bind fun x1=>(if !x1 then some false else (loop (JL h) 0).bind (aO3))
def AM(slot:Int):Option Bool:=
  (fO slot 0 23).bind fun x1=>some x1
def GL(x10:List Raw):Option (List Raw):=
  some x10
def rY(slices:List (List Raw)):((List Raw)×Int)→Option (Step ((List Raw)×Int) (List Raw))
  | (x8,x9)=>(if decide (x9 < (slices.length:Int)) then (idx slices x9).bind fun x11=>need (x8.length+x11.length≤1073741824) (some (.next (x8++x11,aI (x9+1)))) else some (.stop (x8)))
def aBT:(List Raw)→Option (List Raw)
  | x10=>GL x10
def z6(slices:List (List Raw))(x5:Int):Option (List Raw):=
  need (0≤x5∧x5≤1073741824) ((loop (rY slices) ([],0)).bind (aBT))
def pN(slices:List (List Raw)):(Int×Int)→Option (Step (Int×Int) Int)
  | (x3,x4)=>(if decide (x4 < (slices.length:Int)) then (idx slices x4).bind fun x12=>(if decide ((aI (x3+(x12.length:Int))) < 0) then none else some (.next (aI (x3+(x12.length:Int)),aI (x4+1)))) else some (.stop (x3)))
def PT(slices:List (List Raw)):Int→Option (List Raw)
  | x5=>z6 slices x5
def EI(slices:List (List Raw)):Option (List Raw):=
  (loop (pN slices) (0,0)).bind (PT slices)
theorem X0{u1 u2:List Raw}(h:u1.length+u2.length≤1073741824):loop (pN [u1,u2]) (0,0)=some ((u1.length+u2.length:Nat):Int):=by
  have e1:aI (u1.length:Int)=u1.length:=O2 (by omega)
  have e2:aI ((u1.length:Int)+(u2.length:Int))=((u1.length+u2.length:Nat):Int):=by rw [O2 (by omega)];rfl
  have e3:aI (0+1)=1:=O2 (by omega)
  have e4:aI 2=2:=O2 (by omega)
  have n1:¬(u1.length:Int) < 0:=by omega
  have n2:¬((u1.length+u2.length:Nat):Int) < 0:=by omega
  rw [cO (s':=((u1.length:Int),1)) ?_,cO (s':=(((u1.length+u2.length:Nat):Int),2)) ?_,cX (r:=((u1.length+u2.length:Nat):Int)) ?_]
  · simp [pN]
  · simp [pN,idx,e2,e4]
    omega
  · simp [pN,idx,e1,n1]
    exact e3
theorem aAJ{u1 u2:List Raw}{n1 n2:Nat}(hl:u1.length=n1∧u2.length=n2)(h:n1+n2≤1073741824):EI [u1,u2]=some (u1++u2):=by
  obtain⟨rfl,rfl⟩:=hl
  have e3:aI (0+1)=1:=O2 (by omega)
  have e4:aI 2=2:=O2 (by omega)
  unfold EI
  rw [X0 h]
  simp only [Option.bind_some,PT,z6]
  rw [aO (by omega),cO (s':=(u1,1)) ?_,cO (s':=(u1++u2,2)) ?_,cX (r:=u1++u2) ?_]
  · rfl
  · simp [rY]
  · simp [rY,idx,e4,aO h]
  · have h1:u1.length≤1073741824:=by omega
    simp [rY,idx,aO h1]
    exact e3
def UK:Option Bool:=
  some true
def NA(x4:Int)(x12:List Bool):Option (Step (Int×(List Bool)) (Out Unit Bool)):=
  some (.next (aI (x4+1),x12))
def CS(x10:Int)(x11:List Bool)(x13:Int)(x14:Bool):Option (Step (Int×(List Bool)) (Out (List Bool) Bool)):=
  (if x14 then some (.stop (Out.ret false)) else need (0≤(x13:Int)∧(x13:Int) < 24) ((idx (x11:List Bool) x13).bind fun x15=>some (.next (aI (x10+1),x11.set (x13.toNat) true))))
def yW(x6:aG):(Int×(List Bool))→Option (Step (Int×(List Bool)) (Out (List Bool) Bool))
  | (x10,x11)=>(if decide (x10 < (x6.bB.length:Int)) then (idx x6.bB x10).bind fun x13=>(AM x13).bind fun x16=>(if !x16 then CS x10 x11 x13 true else need (0≤(x13:Int)∧(x13:Int) < 24) ((idx (x11:List Bool) x13).bind fun x17=>CS x10 x11 x13 x17)) else some (.stop (Out.brk x11)))
def aC6(x4:Int):(Out (List Bool) Bool)→Option (Step (Int×(List Bool)) (Out Unit Bool))
  | .brk x12=>NA x4 x12
  | .ret r=>some (.stop (Out.ret r))
def yX(x4:Int)(x5:List Bool)(x6:aG)(x7:Bool):Option (Step (Int×(List Bool)) (Out Unit Bool)):=
  (if x7 then some (.stop (Out.ret false)) else (loop (yW x6) (0,x5)).bind (aC6 x4))
def yY(l:aB):(Int×(List Bool))→Option (Step (Int×(List Bool)) (Out Unit Bool))
  | (x4,x5)=>(if decide (x4 < ((l.bA++l.Global).length:Int)) then (idx (l.bA++l.Global) x4).bind fun x6=>(if decide (x4 < (l.bA.length:Int)) then yX x4 x5 x6 (decide (2 < (x6.bB.length:Int))) else yX x4 x5 x6 false) else some (.stop (Out.brk ())))
def aML:(Out Unit Bool)→Option Bool
  | .brk ()=>UK
  | .ret r=>some r
def HV(l:aB)(x1:Bool):Option Bool:=
  (if x1 then some false else need (l.bA.length+l.Global.length≤1073741824) ((loop (yY l) (0,[false,false,false,false,false,false,false,false,false,false,false,false,false,false,false,false,false,false,false,false,false,false,false,false])).bind (aML)))
def w6(l:aB):Option Bool:=
  (if (l.Global.length:Int) != 3 then HV l true else HV l ((l.bA.length:Int) != 9))
def MC(slot c:Int)(x1:Bool):Option Int:=
  (if x1 then some (-1) else (IN c).bind fun x2=>some (aI ((aI ((aI ((aI (Int.tdiv slot 4)) * 64))+8))+(aI ((Int.tmod slot 4) * x2)))))
def JM(slot c:Int):Option Int:=
  (AM slot).bind fun x3=>(if !x3 then MC slot c true else (w5 c).bind fun x4=>(if !x4 then MC slot c true else (C9 c).bind fun x5=>MC slot c (decide (x5≤(Int.tmod slot 4)))))
def NB(h:aC)(slot:Int)(x1:Bool):Option Int:=
  (if x1 then some (-1) else (idx h.Class (aI (Int.tdiv slot 4))).bind fun x2=>some x2)
def DA(h:aC)(slot:Int):Option Int:=
  (AM slot).bind fun x3=>(if !x3 then NB h slot true else (idx h.Class (aI (Int.tdiv slot 4))).bind fun x4=>(JM slot x4).bind fun x5=>NB h slot (decide (x5 < 0)))
def GM(h:aC)(slot:Int):Option Int:=
  (TP h).bind fun x1=>(if !x1 then some (-1) else (DA h slot).bind fun x2=>some x2)
def NZ(h:aC)(slot:Int):Option Int:=
  (GM h slot).bind fun x1=>(if decide (x1 < 0) then some 0 else (JM slot x1).bind fun x2=>(z5 h.Bytes x2 4).bind fun x3=>some x3)
def aKR:Option Bool:=
  some true
def KW(x2:Int)(x4:Bool):Option (Step Int (Out Unit Bool)):=
  (if x4 then some (.stop (Out.ret false)) else some (.next (aI (x2+1))))
def AX(h:aC)(s:aG)(c:Int):Int→Option (Step Int (Out Unit Bool))
  | x2=>(if decide (x2 < (s.bB.length:Int)) then (idx s.bB x2).bind fun x3=>(DA h x3).bind fun x5=>(if x5 != c then KW x2 true else (NZ h x3).bind fun x6=>KW x2 (decide (6 < x6))) else some (.stop (Out.brk ())))
def aKS:(Out Unit Bool)→Option Bool
  | .brk ()=>aKR
  | .ret r=>some r
def MD(h:aC)(s:aG)(c:Int):Option Bool:=
  (loop (AX h s c) 0).bind (aKS)
def aQ0:Option Bool:=
  some true
def IP(m:Mem):Int→Option (Step Int (Out Unit Bool))
  | x5=>(if decide (x5 < (m.aB.bA.length:Int)) then (idx m.aB.bA x5).bind fun x6=>(MD m.aC x6 (Int.tmod x5 3)).bind fun x7=>(if !x7 then some (.stop (Out.ret false)) else some (.next (aI (x5+1)))) else some (.stop (Out.brk ())))
def aQ1:(Out Unit Bool)→Option Bool
  | .brk ()=>aQ0
  | .ret r=>some r
def aGT(m:Mem):Option Bool:=
  (loop (IP m) 0).bind (aQ1)
def IQ(m:Mem):Int→Option (Step Int (Out Unit Bool))
  | x3=>(if decide (x3 < (m.aB.Global.length:Int)) then (idx m.aB.Global x3).bind fun x8=>(MD m.aC x8 x3).bind fun x9=>(if !x9 then some (.stop (Out.ret false)) else some (.next (aI (x3+1)))) else some (.stop (Out.brk ())))
def aGU(m:Mem):(Out Unit Bool)→Option Bool
  | .brk ()=>aGT m
  | .ret r=>some r
def S2(m:Mem)(x1:Bool):Option Bool:=
  (if x1 then some false else (loop (IQ m) 0).bind (aGU m))
def GN(m:Mem):Option Bool:=
  (TR m.aC).bind fun x10=>(if !x10 then S2 m true else (w6 m.aB).bind fun x11=>S2 m (!x11))
def OT:Option Int:=
  some (-1)
def uC(s:List cQ)(f:(cQ→Option Bool)):Int→Option (Step Int (Out Unit Int))
  | x2=>(if decide (x2 < (s.length:Int)) then (idx s x2).bind fun x3=>(f x3).bind fun x4=>(if x4 then some (.stop (Out.ret x2)) else some (.next (aI (x2+1)))) else some (.stop (Out.brk ())))
def E9:(Out Unit Int)→Option Int
  | .brk ()=>OT
  | .ret r=>some r
def JN(s:List cQ)(f:(cQ→Option Bool)):Option Int:=
  (loop (uC s f) 0).bind (E9)
def yG(s:List cQ)(f:(cQ→Option Bool)):Option Bool:=
  (JN s f).bind fun x1=>some (decide (0≤x1))
def yH(x1:Bool):Option Bool:=
  some x1
def JO(p:cQ)(k0:aD):Option Bool:=
  (fO p.aJ 0 k0.aJ).bind fun x2=>(if !x2 then yH true else (fO p.Seen 0 2).bind fun x3=>(if !x3 then yH true else (if !p.On then yH (!(decide (p=(⟨false,0,false,0⟩:cQ)))) else yH false)))
def HW(x1:Bool):Option Bool:=
  some x1
def tI(c:aD):Option Bool:=
  (fO c.aJ 0 100000).bind fun x2=>(if x2 then (if (c.aM.length:Int) == 3 then (yG c.aM (fun y0=>JO y0 c)).bind fun x3=>HW (!x3) else HW false) else HW false)
def PU(x5:Int):Option Int:=
  some x5
def uP(l:List aP):(Int×Int)→Option (Step (Int×Int) Int)
  | (x3,x4)=>(if decide (x4 < (l.length:Int)) then (idx l x4).bind fun x6=>some (.next (aI (x3+(x6.Rows.length:Int)),aI (x4+1))) else some (.stop (x3)))
def aI6:Int→Option Int
  | x5=>PU x5
def BE(l:List aP):Option Int:=
  (loop (uP l) (0,0)).bind (aI6)
def AY(x1:Bool):Option Bool:=
  some x1
def rU(h:Int):Option Bool:=
  (fO h 32 223).bind fun x2=>(if x2 then AY (decide ((Int.tmod h 32) < 24)) else AY false)
def NC(l:List aP):Option Bool:=
  (BE l).bind fun x5=>some (decide (x5≤24))
def ND(x3:Int)(x11:List Bool):Option (Step (Int×(List Bool)) (Out Unit Bool)):=
  some (.next (aI (x3+1),x11))
def vS(x9:Int)(x10:List Bool)(x12:bP)(x13:Bool):Option (Step (Int×(List Bool)) (Out (List Bool) Bool)):=
  (if x13 then some (.stop (Out.ret false)) else need (0≤(Int.tmod x12.Handle 32:Int)∧(Int.tmod x12.Handle 32:Int) < 24) ((idx (x10:List Bool) (Int.tmod x12.Handle 32)).bind fun x14=>some (.next (aI (x9+1),x10.set ((Int.tmod x12.Handle 32).toNat) true))))
def yZ(x6:aP):(Int×(List Bool))→Option (Step (Int×(List Bool)) (Out (List Bool) Bool))
  | (x9,x10)=>(if decide (x9 < (x6.Rows.length:Int)) then (idx x6.Rows x9).bind fun x12=>(rU x12.Handle).bind fun x15=>(if !x15 then vS x9 x10 x12 true else (fO x12.aJ 0 100000).bind fun x16=>(if !x16 then vS x9 x10 x12 true else need (0≤(Int.tmod x12.Handle 32:Int)∧(Int.tmod x12.Handle 32:Int) < 24) ((idx (x10:List Bool) (Int.tmod x12.Handle 32)).bind fun x17=>vS x9 x10 x12 x17))) else some (.stop (Out.brk x10)))
def aC7(x3:Int):(Out (List Bool) Bool)→Option (Step (Int×(List Bool)) (Out Unit Bool))
  | .brk x11=>ND x3 x11
  | .ret r=>some (.stop (Out.ret r))
def y4(l:List aP):(Int×(List Bool))→Option (Step (Int×(List Bool)) (Out Unit Bool))
  | (x3,x4)=>(if decide (x3 < (l.length:Int)) then (idx l x3).bind fun x6=>(loop (yZ x6) (0,x4)).bind (aC7 x3) else some (.stop (Out.brk ())))
def aC8(l:List aP):(Out Unit Bool)→Option Bool
  | .brk ()=>NC l
  | .ret r=>some r
def rZ(l:List aP):Option Bool:=
  (if (l.length:Int) != 3 then some false else (loop (y4 l) (0,[false,false,false,false,false,false,false,false,false,false,false,false,false,false,false,false,false,false,false,false,false,false,false,false])).bind (aC8 l))
def xO(x1:Bool):Option Bool:=
  some x1
def kU(h:Int):Option Bool:=
  (if h == 0 then xO true else (rU h).bind fun x2=>xO x2)
def VF(h:Int):Option Bool:=
  (kU h).bind fun x1=>some (!x1)
def S3(x1:Bool):Option Bool:=
  some x1
def DU(z:List Int):Option Bool:=
  (if (z.length:Int) == 3 then (iW z (fun y0=>VF y0)).bind fun x2=>S3 (!x2) else S3 false)
def LJ:Option Int:=
  some (-1)
def wA(s:List aP)(f:(aP→Option Bool)):Int→Option (Step Int (Out Unit Int))
  | x2=>(if decide (x2 < (s.length:Int)) then (idx s x2).bind fun x3=>(f x3).bind fun x4=>(if x4 then some (.stop (Out.ret x2)) else some (.next (aI (x2+1)))) else some (.stop (Out.brk ())))
def CE:(Out Unit Int)→Option Int
  | .brk ()=>LJ
  | .ret r=>some r
def GO(s:List aP)(f:(aP→Option Bool)):Option Int:=
  (loop (wA s f) 0).bind (CE)
def j4(s:List aP)(f:(aP→Option Bool)):Option Bool:=
  (GO s f).bind fun x1=>some (decide (0≤x1))
def ME:Option Int:=
  some (-1)
def w7(s:List bP)(f:(bP→Option Bool)):Int→Option (Step Int (Out Unit Int))
  | x2=>(if decide (x2 < (s.length:Int)) then (idx s x2).bind fun x3=>(f x3).bind fun x4=>(if x4 then some (.stop (Out.ret x2)) else some (.next (aI (x2+1)))) else some (.stop (Out.brk ())))
def DV:(Out Unit Int)→Option Int
  | .brk ()=>ME
  | .ret r=>some r
def I1(s:List bP)(f:(bP→Option Bool)):Option Int:=
  (loop (w7 s f) 0).bind (DV)
def kO(s:List bP)(f:(bP→Option Bool)):Option Bool:=
  (I1 s f).bind fun x1=>some (decide (0≤x1))
def UU:Option Int:=
  some (-1)
def mK(s:List Int)(v:Int):Int→Option (Step Int (Out Unit Int))
  | x2=>(if decide (x2 < (s.length:Int)) then (idx s x2).bind fun x3=>(if v == x3 then some (.stop (Out.ret x2)) else some (.next (aI (x2+1)))) else some (.stop (Out.brk ())))
def EJ:(Out Unit Int)→Option Int
  | .brk ()=>UU
  | .ret r=>some r
def AZ(s:List Int)(v:Int):Option Int:=
  (loop (mK s v) 0).bind (EJ)
def EK(s:List Int)(v:Int):Option Bool:=
  (AZ s v).bind fun x1=>some (decide (0≤x1))
def DW(s:aG)(k0:Int):Option Bool:=
  (EK s.bB k0).bind fun x1=>some x1
def LK:Option Int:=
  some (-1)
def wB(s:List aG)(f:(aG→Option Bool)):Int→Option (Step Int (Out Unit Int))
  | x2=>(if decide (x2 < (s.length:Int)) then (idx s x2).bind fun x3=>(f x3).bind fun x4=>(if x4 then some (.stop (Out.ret x2)) else some (.next (aI (x2+1)))) else some (.stop (Out.brk ())))
def CF:(Out Unit Int)→Option Int
  | .brk ()=>LK
  | .ret r=>some r
def GP(s:List aG)(f:(aG→Option Bool)):Option Int:=
  (loop (wB s f) 0).bind (CF)
def sH(s:List aG)(f:(aG→Option Bool)):Option Bool:=
  (GP s f).bind fun x1=>some (decide (0≤x1))
def PW(x1:Bool):Option Bool:=
  some x1
def TS(l:aB)(slot:Int):Option Bool:=
  (sH l.Global (fun y0=>DW y0 slot)).bind fun x2=>(if x2 then PW true else (sH l.bA (fun y0=>DW y0 slot)).bind fun x3=>PW x3)
def PX(m:Mem)(slot:Int):Option Int:=
  (DA m.aC slot).bind fun x1=>(if decide (x1 < 0) then some 0 else (TS m.aB slot).bind fun x2=>(if x2 then some 1 else (NZ m.aC slot).bind fun x3=>(if decide (6 < x3) then some 2 else some 3)))
def JQ(x1:Bool):Option Bool:=
  some x1
def AN(m:Mem)(h:Int):Option Bool:=
  (rU h).bind fun x2=>(if x2 then (PX m (Int.tmod h 32)).bind fun x3=>(if x3 == 3 then (NZ m.aC (Int.tmod h 32)).bind fun x4=>JQ (x4 == (aI (Int.tdiv h 32))) else JQ false) else JQ false)
def LL:Option Int:=
  some (-1)
def wC(s:List Queue)(f:(Queue→Option Bool)):Int→Option (Step Int (Out Unit Int))
  | x2=>(if decide (x2 < (s.length:Int)) then (idx s x2).bind fun x3=>(f x3).bind fun x4=>(if x4 then some (.stop (Out.ret x2)) else some (.next (aI (x2+1)))) else some (.stop (Out.brk ())))
def CG:(Out Unit Int)→Option Int
  | .brk ()=>LL
  | .ret r=>some r
def GQ(s:List Queue)(f:(Queue→Option Bool)):Option Int:=
  (loop (wC s f) 0).bind (CG)
def pM(s:List Queue)(f:(Queue→Option Bool)):Option Bool:=
  (GQ s f).bind fun x1=>some (decide (0≤x1))
def PY:Option Int:=
  some (-1)
def z7(s:List cM)(f:(cM→Option Bool)):Int→Option (Step Int (Out Unit Int))
  | x2=>(if decide (x2 < (s.length:Int)) then (idx s x2).bind fun x3=>(f x3).bind fun x4=>(if x4 then some (.stop (Out.ret x2)) else some (.next (aI (x2+1)))) else some (.stop (Out.brk ())))
def GR:(Out Unit Int)→Option Int
  | .brk ()=>PY
  | .ret r=>some r
def LO(s:List cM)(f:(cM→Option Bool)):Option Int:=
  (loop (z7 s f) 0).bind (GR)
def z8(s:List cM)(f:(cM→Option Bool)):Option Bool:=
  (LO s f).bind fun x1=>some (decide (0≤x1))
def VG(x4:Bool):Option Bool:=
  some x4
def VH(x7:Bool):Option Bool:=
  some x7
def PZ(o_:cM)(x3:Bool):Option Bool:=
  (if x3 then some false else (if o_.Kind == 1 then (fO o_.gD 0 100).bind fun x5=>(if x5 then (fO o_.eY 0 65535).bind fun x6=>VG x6 else VG false) else (if o_.gD == 0 then VH (o_.eY == 0) else VH false)))
def DB(o_:cM)(x1:Bool):Option Bool:=
  (fO o_.Kind 1 7).bind fun x2=>(if !x2 then some false else (if x1 then (fO o_.Cell 0 1).bind fun x8=>(if !x8 then PZ o_ true else PZ o_ false) else PZ o_ (o_.Cell != 0)))
def KX(o_:cM):Option Bool:=
  (if o_.Kind == 1 then DB o_ true else (if o_.Kind == 2 then DB o_ true else (if o_.Kind == 3 then DB o_ true else DB o_ (o_.Kind == 7))))
def NF(o_:cM):Option Bool:=
  (KX o_).bind fun x1=>some (!x1)
def KY(x1:Bool):Option Bool:=
  some x1
def S4(q:Queue):Option Bool:=
  (if decide (12 < (q.kJ.length:Int)) then KY true else (z8 q.kJ (fun y0=>NF y0)).bind fun x2=>KY x2)
def P0(x1:Bool):Option Bool:=
  some x1
def AO(todo:List Queue):Option Bool:=
  (if (todo.length:Int) == 3 then (pM todo (fun y0=>S4 y0)).bind fun x2=>P0 (!x2) else P0 false)
def lW(w_:Int):Option Bool:=
  (fO w_ 0 2).bind fun x1=>some x1
def kC(s:aE)(kind w_ handle val code:Int)(x1:bG):Option aE:=
  some ({s with Log:=s.Log++([(⟨kind,w_,x1.aK,x1.Op.Cell,handle,val,code⟩:Ev)])}:aE)
def jB(s:aE)(kind w_ handle val code:Int):Option aE:=
  (idx s.aR w_).bind fun x1=>need (s.Log.length+([(⟨kind,w_,x1.aK,x1.Op.Cell,handle,val,code⟩:Ev)]).length≤1073741824)<|kC s kind w_ handle val code x1
def KZ(s:List cM)(i j:Int):Option (List cM):=
  need (0≤(i:Int)∧(i:Int)≤(j:Int)∧(j:Int)≤((s.length:Int):Int)∧((s.length:Int):Int)≤(s.length:Int)) ((if i == j then some s else need (0≤(i:Int)∧(i:Int)≤(s.length:Int)) (need (0≤(j:Int)∧(j:Int)≤(s.length:Int)) (need (i.toNat≤j.toNat) (need (0≤(((((fD s i.toNat (s.drop j.toNat)).take (i.toNat+(s.length - j.toNat))).drop 0).length:Int):Int)∧(((((fD s i.toNat (s.drop j.toNat)).take (i.toNat+(s.length - j.toNat))).drop 0).length:Int):Int)≤((s.length:Int):Int)∧((s.length:Int):Int)≤((fD s i.toNat (s.drop j.toNat)).length:Int)) (some (((fD s i.toNat (s.drop j.toNat)).take (i.toNat+(s.length - j.toNat))).drop 0)))))))
def vT(kind a_:Int):Option Sub:=
  some (⟨kind,a_,0,0,0,0,0,0,0,false⟩:Sub)
def eD(j:bG)(code:Int):Option bG:=
  some ({j with Pc:=9,Code:=code}:bG)
def lE(s:aE)(w_:Int)(x4:(List cM))(x5:bG):Option aE:=
  (idx s.aR w_).bind fun x6=>(jB ({s with aR:=s.aR.set w_.toNat x5,aU:=s.aU.set w_.toNat (⟨x4⟩:Queue),aK:=aI (s.aK+1)}:aE) 1 w_ 0 0 0).bind fun x7=>some x7
def vP(s:aE)(w_:Int)(x3:cM)(x4:(List cM))(x9:Bool):Option aE:=
  (if x9 then (vT 5 0).bind fun x10=>(idx s.aA.aD.aM w_).bind fun x11=>(if x11.On then (eD (⟨true,x3,aI (s.aK+1),0,x10,0,0,0,0⟩:bG) 1).bind fun x12=>lE s w_ x4 x12 else lE s w_ x4 (⟨true,x3,aI (s.aK+1),0,x10,0,0,0,0⟩:bG)) else (if x3.Kind == 4 then (vT 3 0).bind fun x13=>lE s w_ x4 (⟨true,x3,aI (s.aK+1),0,x13,0,0,0,0⟩:bG) else lE s w_ x4 (⟨true,x3,aI (s.aK+1),0,(⟨0,0,0,0,0,0,0,0,0,false⟩:Sub),0,0,0,0⟩:bG)))
def EL(s:aE)(w_:Int)(x1:Bool):Option aE:=
  (if x1 then some s else (idx s.aU w_).bind fun x2=>(idx x2.kJ 0).bind fun x3=>(KZ x2.kJ 0 1).bind fun x4=>(if x3.Kind == 1 then (vT 1 x3.gD).bind fun x8=>lE s w_ x4 (⟨true,x3,aI (s.aK+1),0,x8,0,0,0,0⟩:bG) else (if x3.Kind == 2 then vP s w_ x3 x4 true else vP s w_ x3 x4 (x3.Kind == 5))))
def K0(s:aE)(w_:Int):Option aE:=
  (idx s.aU w_).bind fun x14=>(if (x14.kJ.length:Int) == 0 then EL s w_ true else EL s w_ (s.aK == 1000000))
def dK(s:Sub)(code:Int):Option Sub:=
  some ({s with Code:=code,dW:=true}:Sub)
def aMM:Option Int:=
  some (-1)
def NG(x2:Int)(x3:Bool):Option (Step Int (Out Unit Int)):=
  (if x3 then some (.stop (Out.ret x2)) else some (.next (aI (x2+1))))
def vU(size:Int):Int→Option (Step Int (Out Unit Int))
  | x2=>(if decide (x2 < 3) then (if decide (1≤size) then (OS x2).bind fun x4=>NG x2 (decide (size≤x4)) else NG x2 false) else some (.stop (Out.brk ())))
def aMN:(Out Unit Int)→Option Int
  | .brk ()=>aMM
  | .ret r=>some r
def VI(size:Int):Option Int:=
  (loop (vU size) 0).bind (aMN)
def S5(w_ c:Int)(x1:Bool):Option Int:=
  (if x1 then some (-1) else some (aI ((aI (w_ * 3))+c)))
def WK(w_ c:Int):Option Int:=
  (lW w_).bind fun x2=>(if !x2 then S5 w_ c true else (w5 c).bind fun x3=>S5 w_ c (!x3))
def JR(s:aG):Option (Int×aG):=
  (if decide ((aI ((s.bB.length:Int) - 1)) < 0) then some ((-1),s) else (idx s.bB (aI ((s.bB.length:Int) - 1))).bind fun x1=>need (0≤(aI ((s.bB.length:Int) - 1):Int)∧(aI ((s.bB.length:Int) - 1):Int)≤(aI ((s.bB.length:Int) - 1):Int)∧(aI ((s.bB.length:Int) - 1):Int)≤(s.bB.length:Int)) (some (x1,(⟨(s.bB.take ((aI ((s.bB.length:Int) - 1)).toNat)).drop 0⟩:aG))))
def NH(x1:aB)(x2:Int)(x3:Bool):Option (aB×Int):=
  (if x3 then some (x1,(-1)) else (idx x1.bA x2).bind fun x4=>(JR x4).bind fun x5=>some ((⟨x1.Global,x1.bA.set x2.toNat x5.2⟩:aB),x5.1))
def VJ(l:aB)(w_ c:Int):Option (aB×Int):=
  (sT l).bind fun x1=>(WK w_ c).bind fun x2=>(w6 l).bind fun x6=>(if !x6 then NH x1 x2 true else NH x1 x2 (decide (x2 < 0)))
def GS(c:Int)(x1:aB)(x2:Bool):Option (aB×Int):=
  (if x2 then some (x1,(-1)) else (idx x1.Global c).bind fun x3=>(JR x3).bind fun x4=>some ((⟨x1.Global.set c.toNat x4.2,x1.bA⟩:aB),x4.1))
def NI(l:aB)(c:Int):Option (aB×Int):=
  (sT l).bind fun x1=>(w6 l).bind fun x5=>(if !x5 then GS c x1 true else (w5 c).bind fun x6=>GS c x1 (!x6))
def w8(width:Int):Option Bool:=
  (fO width 1 7).bind fun x1=>some x1
def aQ2(x8:List UInt8):Option (List UInt8):=
  some x8
def S6:(Int×(List UInt8)×Int)→Option (Step (Int×(List UInt8)×Int) (List UInt8))
  | (x5,x6,x7)=>(if decide (0≤x7) then (idx x6 x7).bind fun x9=>some (.next (tV .i64 x5 8,x6.set x7.toNat (u8 x5),aI (x7 - 1))) else some (.stop (x6)))
def aQ3:(List UInt8)→Option (List UInt8)
  | x8=>aQ2 x8
def MF(n width:Int)(x1:Bool):Option (List UInt8):=
  (if x1 then some ([]) else need (0≤(width:Int)∧(width:Int)≤4294967296) ((loop (S6) (n,List.replicate (width.toNat) 0,aI (width - 1))).bind (aQ3)))
def N0(n width:Int):Option (List UInt8):=
  (w8 width).bind fun x10=>(if !x10 then MF n width true else (if decide (n < 0) then MF n width true else need (0≤(IntKind.u64.wrap (aI (8 * width)):Int)) (MF n width (decide ((aR3 .i64 1 (IntKind.u64.wrap (aI (8 * width))))≤n)))))
def aEF(b x5:List Int):Option (List Int):=
  need (x5.length=b.length) (some x5)
def P1(b:List Int)(at_:Int)(text:List UInt8):((List Int)×Int)→Option (Step ((List Int)×Int) (List Int))
  | (x3,x4)=>need (x3.length=b.length) ((if decide (x4 < (text.length:Int)) then (idx text x4).bind fun x6=>(idx x3 (aI (at_+x4))).bind fun x7=>some (.next (x3.set ((aI (at_+x4)).toNat) (x6.toNat:Int),aI (x4+1))) else some (.stop (x3))))
def aEG(b:List Int):(List Int)→Option (List Int)
  | x5=>aEF b x5
def JS(b:List Int)(at_:Int)(text:List UInt8):Option (List Int):=
  (loop (P1 b at_ text) (b,0)).bind (aEG b)
def P2(page index:Int)(x1:Bool):Option Int:=
  (if x1 then some (-1) else some (aI ((aI (page * 4))+index)))
def YU(page index:Int):Option Int:=
  (fO page 0 5).bind fun x2=>(if !x2 then P2 page index true else (fO index 0 3).bind fun x3=>P2 page index (!x3))
def aQ4(c:Int)(x1:aC)(x2:Int)(x13 x14:List Int):Option (aC×(List Int)):=
  some ((⟨x14,x1.Class.set x2.toNat c⟩:aC),x13)
def ZH(x10:List Int)(x11 x15:Int)(x16:List Int):Option (Step ((List Int)×Int×(List Int)) ((List Int)×(List Int))):=
  need (x10.length+([x15]).length≤1073741824) (some (.next (x10++([x15]),aI (x11+1),x16)))
def S7(c x2 x6:Int):((List Int)×Int×(List Int))→Option (Step ((List Int)×Int×(List Int)) ((List Int)×(List Int)))
  | (x10,x11,x12)=>(if decide (x11 < x6) then (YU x2 x11).bind fun x15=>(JM x15 c).bind fun x17=>(N0 1 4).bind fun x18=>(JS x12 x17 x18).bind fun x19=>ZH x10 x11 x15 x19 else some (.stop ((x10,x12))))
def aQ5(c:Int)(x1:aC)(x2:Int):((List Int)×(List Int))→Option (aC×(List Int))
  | (x13,x14)=>aQ4 c x1 x2 x13 x14
def ZI(c:Int)(x1:aC)(x2:Int)(x5:List Int):Option (aC×(List Int)):=
  (C9 c).bind fun x6=>(loop (S7 c x2 x6) (([]:List Int),0,x5)).bind (aQ5 c x1 x2)
def MG(c:Int)(x1:aC)(x2:Int)(x3:Bool):Option (aC×(List Int)):=
  (if x3 then some (x1,([]:List Int)) else (idx x1.Class x2).bind fun x4=>need (0≤(aI (x2 * 64):Int)∧(aI (x2 * 64):Int)≤(x1.Bytes.length:Int))<|(C9 c).bind fun x20=>ZI c x1 x2 (fD x1.Bytes ((aI (x2 * 64)).toNat) ([171,c,x20]:List Int)))
def RV(h:aC)(c:Int):Option (aC×(List Int)):=
  (IM h).bind fun x1=>(AZ h.Class (-1)).bind fun x2=>(TR h).bind fun x21=>(if !x21 then MG c x1 x2 true else (w5 c).bind fun x22=>(if !x22 then MG c x1 x2 true else MG c x1 x2 (decide (x2 < 0))))
def UL(x4:Int)(x5:Mem):Option (Mem×Int):=
  some (x5,x4)
def UM(c:Int)(x1:aC×(List Int))(x2:Mem):Option (Mem×Int):=
  (if (x1.2.length:Int) == 0 then some (x2,(-1)) else (idx x2.aB.Global c).bind fun x3=>need (0≤(1:Int)∧(1:Int)≤(x1.2.length:Int)) (need (x3.bB.length+((x1.2.take x1.2.length).drop ((1:Int).toNat)).length≤1073741824) ((idx x1.2 0).bind fun x6=>UL x6 (⟨x2.aC,(⟨x2.aB.Global.set c.toNat (⟨x3.bB++((x1.2.take x1.2.length).drop ((1:Int).toNat))⟩:aG),x2.aB.bA⟩:aB)⟩:Mem))))
def VK(m:Mem)(c:Int):Option (Mem×Int):=
  (RV m.aC c).bind fun x1=>(sT m.aB).bind fun x7=>UM c x1 (⟨x1.1,x7⟩:Mem)
def K1(slot gen:Int)(x1:Bool):Option Int:=
  (if x1 then some 0 else some (aI ((aI (gen * 32))+slot)))
def ZJ(slot gen:Int):Option Int:=
  (AM slot).bind fun x2=>(if !x2 then K1 slot gen true else (fO gen 1 6).bind fun x3=>K1 slot gen (!x3))
def S8(m:Mem)(slot:Int):Option Int:=
  (NZ m.aC slot).bind fun x1=>(ZJ slot x1).bind fun x2=>some x2
def sQ(s:Sub)(x3:Int)(x4:aA):Option (Sub×aA):=
  (if decide (0≤x3) then (S8 x4.Mem x3).bind fun x5=>(dK ({s with Out:=x5}:Sub) 0).bind fun x6=>some (x6,x4) else (if s.Pc == 3 then (dK s 3).bind fun x7=>some (x7,x4) else some (({s with Pc:=aI (s.Pc+1)}:Sub),x4)))
def CA(s:Sub)(b:aA)(x1:Int)(x9:Bool):Option (Sub×aA):=
  (if x9 then (NI b.Mem.aB x1).bind fun x10=>sQ s x10.2 ({b with Mem:=(⟨b.Mem.aC,x10.1⟩:Mem)}:aA) else (if s.Pc == 2 then (VK b.Mem x1).bind fun x11=>sQ s x11.2 ({b with Mem:=x11.1}:aA) else (dK s 1).bind fun x12=>some (x12,b)))
def GU(s:Sub)(b:aA)(w_:Int):Option (Sub×aA):=
  (VI s.A).bind fun x1=>(if decide (x1 < 0) then (dK s 2).bind fun x2=>some (x2,b) else (if s.Pc == 0 then (VJ b.Mem.aB w_ x1).bind fun x8=>sQ s x8.2 ({b with Mem:=(⟨b.Mem.aC,x8.1⟩:Mem)}:aA) else (if s.Pc == 1 then CA s b x1 true else CA s b x1 (s.Pc == 3))))
def EM(x1:Bool):Option Bool:=
  some x1
def FA(r_:bP)(k0:Int):Option Bool:=
  (rU r_.Handle).bind fun x2=>(if x2 then EM ((Int.tmod r_.Handle 32) == k0) else EM false)
def P3(own:aP)(k0:Int):Option Bool:=
  (kO own.Rows (fun y0=>FA y0 k0)).bind fun x1=>some x1
def P4(l:List aP)(slot:Int):Option Bool:=
  (j4 l (fun y0=>P3 y0 slot)).bind fun x1=>some x1
def K2(l:List aP)(w_ h e_:Int)(x1:Bool):Option ((List aP)×Bool):=
  (if x1 then (xN l).bind fun x2=>some (x2,false) else (xN l).bind fun x3=>(idx x3 w_).bind fun x4=>need (x4.Rows.length+([(⟨h,e_⟩:bP)]).length≤1073741824) ((rZ (x3.set w_.toNat (⟨x4.Rows++([(⟨h,e_⟩:bP)])⟩:aP))).bind fun x5=>(if !x5 then (xN l).bind fun x6=>some (x6,false) else some (x3.set w_.toNat (⟨x4.Rows++([(⟨h,e_⟩:bP)])⟩:aP),true))))
def S9(l:List aP)(w_ h e_:Int):Option ((List aP)×Bool):=
  (rZ l).bind fun x7=>(if !x7 then K2 l w_ h e_ true else (lW w_).bind fun x8=>K2 l w_ h e_ (!x8))
def z9(s:Sub)(b:aA)(w_:Int)(x3:Bool):Option (Sub×aA):=
  (if x3 then (dK s 4).bind fun x4=>some (x4,b) else (S9 b.aH w_ s.A s.E).bind fun x5=>(dK s 0).bind fun x6=>some (x6,({b with aH:=x5.1}:aA)))
def AA(s:Sub)(b:aA)(w_:Int)(x1:Bool):Option (Sub×aA):=
  (if x1 then (dK s 1).bind fun x2=>some (x2,b) else (AN b.Mem s.A).bind fun x7=>(if !x7 then z9 s b w_ true else (P4 b.aH (Int.tmod s.A 32)).bind fun x8=>z9 s b w_ x8))
def EN(s:Sub)(b:aA)(w_:Int):Option (Sub×aA):=
  (if s.Pc == 0 then some (({s with Pc:=1,E:=b.aD.aJ}:Sub),b) else (if s.Pc != 1 then AA s b w_ true else (fO s.E 0 b.aD.aJ).bind fun x9=>AA s b w_ (!x9)))
def FB(w_:Int)(x1:aD)(x4:Bool):Option (aD×Bool):=
  (if x4 then some (x1,true) else (idx x1.aM w_).bind fun x5=>(if decide (x5.Seen < 2) then some ((⟨x1.aJ,x1.aM.set w_.toNat ({x5 with Seen:=aI (x5.Seen+1)}:cQ)⟩:aD),false) else some ((⟨x1.aJ,x1.aM.set w_.toNat ({x5 with jD:=true,Seen:=0}:cQ)⟩:aD),true)))
def P5(w_ e_:Int)(x1:aD)(x2:Bool):Option (aD×Bool):=
  (if x2 then some (x1,false) else (idx x1.aM w_).bind fun x3=>(if !x3.On then FB w_ x1 true else (if x3.jD then FB w_ x1 true else FB w_ x1 (x3.aJ == e_))))
def YV(c:aD)(w_ e_:Int):Option (aD×Bool):=
  (xM c).bind fun x1=>(tI c).bind fun x6=>(if !x6 then P5 w_ e_ x1 true else (lW w_).bind fun x7=>P5 w_ e_ x1 (!x7))
def P6(x1:aD)(x2:Bool):Option (aD×Bool):=
  (if x2 then some (x1,false) else some ((⟨aI (x1.aJ+1),x1.aM⟩:aD),true))
def aF0(c:aD)(e_:Int):Option (aD×Bool):=
  (xM c).bind fun x1=>(tI c).bind fun x3=>(if !x3 then P6 x1 true else (if c.aJ != e_ then P6 x1 true else P6 x1 (c.aJ == 100000)))
def yI(s:Sub)(b:aA)(x4:aD×Bool)(x5:Int):Option (Sub×aA):=
  (dK ({s with Out:=x5}:Sub) 0).bind fun x6=>some (x6,({b with aD:=x4.1}:aA))
def yJ(s:Sub)(b:aA)(x1:Bool):Option (Sub×aA):=
  (if x1 then (YV b.aD s.B s.E).bind fun x2=>(if !x2.2 then (dK s 8).bind fun x3=>some (x3,({b with aD:=x2.1}:aA)) else (if (aI (s.B+1)) == 3 then some (({s with Pc:=2,B:=aI (s.B+1)}:Sub),({b with aD:=x2.1}:aA)) else some (({s with B:=aI (s.B+1)}:Sub),({b with aD:=x2.1}:aA)))) else (if s.Pc == 2 then (aF0 b.aD s.E).bind fun x4=>(if x4.2 then yI s b x4 1 else yI s b x4 s.Out) else (dK s 1).bind fun x7=>some (x7,b)))
def DC(s:Sub)(b:aA):Option (Sub×aA):=
  (if s.Pc == 0 then some (({s with Pc:=1,E:=b.aD.aJ,B:=0}:Sub),b) else (if s.Pc == 1 then (lW s.B).bind fun x8=>yJ s b x8 else yJ s b false))
def P7(x1:Bool):Option Bool:=
  some x1
def TU(l:List aP)(w_ i:Int):Option Bool:=
  (lW w_).bind fun x2=>(if x2 then (idx l w_).bind fun x3=>(fO i 0 (aI ((x3.Rows.length:Int) - 1))).bind fun x4=>P7 x4 else P7 false)
def VL(x1:Bool):Option Bool:=
  some x1
def aAK(r_:bP)(e_:Int):Option Bool:=
  (if decide (2≤e_) then VL (decide (r_.aJ≤(aI (e_ - 2)))) else VL false)
def TV(s:Sub)(b:aA):Option (Sub×aA):=
  (dK s 0).bind fun x3=>some (x3,b)
def mY(s:Sub)(b:aA)(w_:Int):Int→Option (Step Int (Out Unit (Sub×aA)))
  | x2=>(idx b.aH w_).bind fun x4=>(if decide (x2 < (x4.Rows.length:Int)) then (idx x4.Rows x2).bind fun x5=>(aAK x5 s.E).bind fun x6=>(if x6 then some (.stop (Out.ret (({s with Pc:=2,Row:=x2,B:=0,H:=x5.Handle}:Sub),b))) else some (.next (aI (x2+1)))) else some (.stop (Out.brk ())))
def aEH(s:Sub)(b:aA):(Out Unit (Sub×aA))→Option (Sub×aA)
  | .brk ()=>TV s b
  | .ret r=>some r
def DD(s:Sub)(b:aA)(w_:Int):Option (Sub×aA):=
  (loop (mY s b w_) (if s.Row < 0 then 0 else s.Row)).bind (aEH s b)
def N2(s:List bP)(i j:Int):Option (List bP):=
  need (0≤(i:Int)∧(i:Int)≤(j:Int)∧(j:Int)≤((s.length:Int):Int)∧((s.length:Int):Int)≤(s.length:Int)) ((if i == j then some s else need (0≤(i:Int)∧(i:Int)≤(s.length:Int)) (need (0≤(j:Int)∧(j:Int)≤(s.length:Int)) (need (i.toNat≤j.toNat) (need (0≤(((((fD s i.toNat (s.drop j.toNat)).take (i.toNat+(s.length - j.toNat))).drop 0).length:Int):Int)∧(((((fD s i.toNat (s.drop j.toNat)).take (i.toNat+(s.length - j.toNat))).drop 0).length:Int):Int)≤((s.length:Int):Int)∧((s.length:Int):Int)≤((fD s i.toNat (s.drop j.toNat)).length:Int)) (some (((fD s i.toNat (s.drop j.toNat)).take (i.toNat+(s.length - j.toNat))).drop 0)))))))
def NJ(w_ i:Int)(x1:(List aP))(x2:Bool):Option ((List aP)×Bool):=
  (if x2 then some (x1,false) else (idx x1 w_).bind fun x3=>(N2 x3.Rows i (aI (i+1))).bind fun x4=>some (x1.set w_.toNat (⟨x4⟩:aP),true))
def VM(l:List aP)(w_ i:Int):Option ((List aP)×Bool):=
  (xN l).bind fun x1=>(rZ l).bind fun x5=>(if !x5 then NJ w_ i x1 true else (TU l w_ i).bind fun x6=>NJ w_ i x1 (!x6))
def WL(x3 x5:List Int):Option (aC×Bool):=
  some ((⟨x5,x3⟩:aC),true)
def P8(slot gen x1:Int)(x2 x3:List Int)(x4:Bool):Option (aC×Bool):=
  (if x4 then some ((⟨x2,x3⟩:aC),false) else (JM slot x1).bind fun x6=>(N0 gen 4).bind fun x7=>(JS x2 x6 x7).bind fun x8=>WL x3 x8)
def WM(slot gen x1:Int)(x2 x3:List Int):Option (aC×Bool):=
  (if decide (x1 < 0) then P8 slot gen x1 x2 x3 true else (fO gen 1 7).bind fun x9=>P8 slot gen x1 x2 x3 (!x9))
def aEI(h:aC)(slot gen:Int):Option (aC×Bool):=
  (IM h).bind fun x10=>(GM h slot).bind fun x11=>WM slot gen x11 x10.Bytes x10.Class
def K3(c slot:Int)(x1:aB)(x2:Int)(x3:Bool):Option (aB×Bool):=
  (if x3 then some (x1,false) else (idx x1.bA x2).bind fun x4=>(if decide (2≤(x4.bB.length:Int)) then (idx x1.Global c).bind fun x5=>need (x5.bB.length+([slot]).length≤1073741824) (some ((⟨x1.Global.set c.toNat (⟨x5.bB++([slot])⟩:aG),x1.bA⟩:aB),true)) else need (x4.bB.length+([slot]).length≤1073741824) (some ((⟨x1.Global,x1.bA.set x2.toNat (⟨x4.bB++([slot])⟩:aG)⟩:aB),true))))
def aKT(l:aB)(w_ c slot:Int):Option (aB×Bool):=
  (sT l).bind fun x1=>(WK w_ c).bind fun x2=>(w6 l).bind fun x6=>(if !x6 then K3 c slot x1 x2 true else (if decide (x2 < 0) then K3 c slot x1 x2 true else (AM slot).bind fun x7=>(if !x7 then K3 c slot x1 x2 true else (TS l slot).bind fun x8=>K3 c slot x1 x2 x8)))
def ZK(x3:Mem):Option Mem:=
  some x3
def ZL(m:Mem)(w_ h:Int)(x2:Mem):Option Mem:=
  (if decide ((aI ((aI (Int.tdiv h 32))+1))≤6) then (DA m.aC (Int.tmod h 32)).bind fun x4=>(aKT m.aB w_ x4 (Int.tmod h 32)).bind fun x5=>ZK (⟨x2.aC,x5.1⟩:Mem) else ZK x2)
def aBU(m:Mem)(w_ h:Int):Option Mem:=
  (aEI m.aC (Int.tmod h 32) (aI ((aI (Int.tdiv h 32))+1))).bind fun x1=>(sT m.aB).bind fun x6=>ZL m w_ h (⟨x1.1,x6⟩:Mem)
def jY(s:Sub)(b:aA)(w_:Int)(x5:Bool):Option (Sub×aA):=
  (if x5 then (VM b.aH w_ s.Row).bind fun x6=>(aBU b.Mem w_ s.H).bind fun x7=>some (({s with Pc:=1,Out:=aI (s.Out+1)}:Sub),({b with Mem:=x7,aH:=x6.1}:aA)) else (dK s 1).bind fun x8=>some (x8,b))
def mF(s:Sub)(b:aA)(w_:Int)(x1 x3:Bool):Option (Sub×aA):=
  (if x3 then (idx b.bO s.B).bind fun x4=>(if x4 == s.H then some (({s with Pc:=1,Row:=aI (s.Row+1)}:Sub),b) else (if (aI (s.B+1)) == 3 then some (({s with Pc:=3,B:=aI (s.B+1)}:Sub),b) else some (({s with B:=aI (s.B+1)}:Sub),b))) else (if s.Pc == 3 then (if x1 then (idx b.aH w_).bind fun x9=>(idx x9.Rows s.Row).bind fun x10=>(aAK x10 s.E).bind fun x11=>jY s b w_ x11 else jY s b w_ false) else jY s b w_ false))
def oA(s:Sub)(b:aA)(w_:Int)(x1:Bool):Option (Sub×aA):=
  (if s.Pc == 0 then some (({s with Pc:=1,E:=b.aD.aJ,Row:=0}:Sub),b) else (if s.Pc == 1 then (DD s b w_).bind fun x2=>some (x2.1,x2.2) else (if s.Pc == 2 then (lW s.B).bind fun x12=>(if x12 then mF s b w_ x1 x1 else mF s b w_ x1 false) else mF s b w_ x1 false)))
def DE(s:Sub)(b:aA)(w_:Int):Option (Sub×aA):=
  (TU b.aH w_ s.Row).bind fun x13=>(if x13 then (idx b.aH w_).bind fun x14=>(idx x14.Rows s.Row).bind fun x15=>oA s b w_ (x15.Handle == s.H) else oA s b w_ false)
def MH(w_ e_:Int)(x1:aD)(x2:Bool):Option (aD×Bool):=
  (if x2 then some (x1,false) else (idx x1.aM w_).bind fun x3=>some ((⟨x1.aJ,x1.aM.set w_.toNat (⟨true,e_,false,0⟩:cQ)⟩:aD),true))
def aBV(c:aD)(w_ e_:Int):Option (aD×Bool):=
  (xM c).bind fun x1=>(tI c).bind fun x4=>(if !x4 then MH w_ e_ x1 true else (lW w_).bind fun x5=>(if !x5 then MH w_ e_ x1 true else (fO e_ 0 c.aJ).bind fun x6=>MH w_ e_ x1 (!x6)))
def LP(s:Sub)(b:aA)(x1:Bool)(x2:Int)(x3:List cQ):Option (Sub×aA):=
  (if !x1 then (dK s 1).bind fun x4=>some (x4,b) else some (({s with Pc:=2}:Sub),({b with aD:=(⟨x2,x3⟩:aD)}:aA)))
def K4(s:Sub)(b:aA)(w_:Int):Option (Sub×aA):=
  (if s.Pc == 0 then some (({s with Pc:=1,E:=b.aD.aJ}:Sub),b) else (if s.Pc == 1 then (aBV b.aD w_ s.E).bind fun x5=>LP s b x5.2 x5.1.aJ x5.1.aM else (if s.Pc == 2 then (if b.aD.aJ == s.E then (dK s 0).bind fun x6=>some (x6,b) else some (({s with Pc:=0}:Sub),b)) else (dK s 1).bind fun x7=>some (x7,b))))
def w9(s:Sub)(b:aA)(w_:Int):Option (Sub×aA):=
  (if s.dW then some (s,b) else (if s.Kind == 1 then (GU s b w_).bind fun x1=>some (x1.1,x1.2) else (if s.Kind == 2 then (EN s b w_).bind fun x2=>some (x2.1,x2.2) else (if s.Kind == 3 then (DC s b).bind fun x3=>some (x3.1,x3.2) else (if s.Kind == 4 then (DE s b w_).bind fun x4=>some (x4.1,x4.2) else (if s.Kind == 5 then (K4 s b w_).bind fun x5=>some (x5.1,x5.2) else (dK s 1).bind fun x6=>some (x6,b)))))))
def jR(j:bG)(pc:Int):Option bG:=
  some ({j with Pc:=pc,Code:=0}:bG)
def VN(slot c:Int):Option Int:=
  (JM slot c).bind fun x1=>(if decide (x1 < 0) then some (-1) else some (aI (x1+4)))
def aBW(slot c:Int):Option Span:=
  (VN slot c).bind fun x1=>(if decide (x1 < 0) then some (⟨0,0⟩:Span) else (OS c).bind fun x2=>some (⟨x1,aI (x1+x2)⟩:Span))
def K5(h:aC)(slot at_ width:Int):Option Int:=
  (DA h slot).bind fun x1=>(aBW slot x1).bind fun x2=>(fO at_ 0 (aI ((aI (x2.To - x2.a15)) - width))).bind fun x3=>(if !x3 then some (-1) else some (aI (x2.a15+at_)))
def P9(m:Mem)(h at_ width:Int)(x1:Bool):Option (Int×Int):=
  (if x1 then some (0,1) else (AN m h).bind fun x2=>(if !x2 then some (0,4) else (K5 m.aC (Int.tmod h 32) at_ width).bind fun x3=>(if decide (x3 < 0) then some (0,2) else (z5 m.aC.Bytes x3 width).bind fun x4=>some (x4,0))))
def aEJ(m:Mem)(h at_ width:Int):Option (Int×Int):=
  (GN m).bind fun x5=>(if !x5 then P9 m h at_ width true else (w8 width).bind fun x6=>P9 m h at_ width (!x6))
def aC9(x4:Mem):Option (Mem×Int):=
  some (x4,0)
def VO(m:Mem)(h at_ width n:Int):Option (Mem×Int):=
  (PO m).bind fun x1=>(N0 n width).bind fun x2=>(aEJ m h at_ width).bind fun x3=>(if x3.2 != 0 then some (x1,x3.2) else (if x2 == ([]) then some (x1,1) else (K5 m.aC (Int.tmod h 32) at_ width).bind fun x5=>(JS x1.aC.Bytes x5 x2).bind fun x6=>aC9 (⟨(⟨x6,x1.aC.Class⟩:aC),x1.aB⟩:Mem)))
def QA(s:aE)(w_ x7:Int)(x8:Mem):Option aE:=
  (if x7 != 0 then (idx s.aR w_).bind fun x9=>(eD x9 x7).bind fun x10=>some ({s with aR:=s.aR.set w_.toNat x10}:aE) else (idx s.aR w_).bind fun x11=>(jR x11 2).bind fun x12=>some ({s with aA:=(⟨x8,s.aA.aD,s.aA.aH,s.aA.bO⟩:aA),aR:=s.aR.set w_.toNat x12}:aE))
def QB(w_:Int)(x17:aE):Option aE:=
  (idx x17.aR w_).bind fun x18=>(if x18.Old == 0 then (eD x18 0).bind fun x19=>some ({x17 with aR:=x17.aR.set w_.toNat x19}:aE) else (vT 2 x18.Old).bind fun x20=>(jR ({x18 with Sub:=x20}:bG) 3).bind fun x21=>some ({x17 with aR:=x17.aR.set w_.toNat x21}:aE))
def QC(s:aE)(w_:Int)(x14:bG)(x15:Int)(x16:List Int):Option aE:=
  (idx (s.aR.set w_.toNat ({x14 with Old:=x15}:bG)) w_).bind fun x22=>(jB ({s with Cells:=x16,aR:=s.aR.set w_.toNat ({x14 with Old:=x15}:bG)}:aE) 2 w_ x22.H x22.Op.eY 0).bind fun x23=>QB w_ x23
def QD(s:aE)(w_:Int):Option aE:=
  (idx s.aR w_).bind fun x1=>(if x1.Pc == 0 then (w9 x1.Sub s.aA w_).bind fun x2=>(if !x2.1.dW then some ({s with aA:=x2.2,aR:=s.aR.set w_.toNat ({x1 with Sub:=x2.1}:bG)}:aE) else (if x2.1.Code != 0 then (eD ({x1 with Sub:=x2.1}:bG) x2.1.Code).bind fun x3=>some ({s with aA:=x2.2,aR:=s.aR.set w_.toNat x3}:aE) else (rU x2.1.Out).bind fun x4=>(if !x4 then (eD ({x1 with Sub:=x2.1}:bG) 1).bind fun x5=>some ({s with aA:=x2.2,aR:=s.aR.set w_.toNat x5}:aE) else (jR ({x1 with Sub:=x2.1,H:=x2.1.Out}:bG) 1).bind fun x6=>some ({s with aA:=x2.2,aR:=s.aR.set w_.toNat x6}:aE)))) else (if x1.Pc == 1 then (VO s.aA.Mem x1.H 0 4 x1.Op.eY).bind fun x13=>QA s w_ x13.2 x13.1 else (if x1.Pc == 2 then (idx s.aR w_).bind fun x14=>(idx s.Cells x14.Op.Cell).bind fun x15=>(idx (s.aR.set w_.toNat ({x14 with Old:=x15}:bG)) w_).bind fun x24=>(idx s.Cells x24.Op.Cell).bind fun x25=>QC s w_ x14 x15 (s.Cells.set x24.Op.Cell.toNat x24.H) else (if x1.Pc == 3 then (w9 x1.Sub s.aA w_).bind fun x26=>(if x26.1.dW then (eD ({x1 with Sub:=x26.1}:bG) x26.1.Code).bind fun x27=>some ({s with aA:=x26.2,aR:=s.aR.set w_.toNat x27}:aE) else some ({s with aA:=x26.2,aR:=s.aR.set w_.toNat ({x1 with Sub:=x26.1}:bG)}:aE)) else (eD x1 1).bind fun x28=>some ({s with aR:=s.aR.set w_.toNat x28}:aE)))))
def JT(s:aE)(w_:Int):Option aE:=
  (idx s.aR w_).bind fun x1=>(idx s.aR w_).bind fun x2=>(idx s.Cells x2.Op.Cell).bind fun x3=>(jB ({s with aR:=s.aR.set w_.toNat ({x2 with H:=x3}:bG)}:aE) 3 w_ x3 0 0).bind fun x4=>some x4
def HX(b:aA)(h at_ width:Int)(x1:Bool):Option (Int×Bool):=
  (if x1 then some (0,false) else (K5 b.Mem.aC (Int.tmod h 32) at_ width).bind fun x2=>(if decide (x2 < 0) then some (0,false) else (z5 b.Mem.aC.Bytes x2 width).bind fun x3=>some (x3,true)))
def VP(b:aA)(h at_ width:Int):Option (Int×Bool):=
  (rU h).bind fun x4=>(if !x4 then HX b h at_ width true else (GM b.Mem.aC (Int.tmod h 32)).bind fun x5=>(if decide (x5 < 0) then HX b h at_ width true else (w8 width).bind fun x6=>HX b h at_ width (!x6)))
def y5(s:aE)(w_:Int):Option aE:=
  (idx s.aR w_).bind fun x1=>(VP s.aA x1.H 0 4).bind fun x2=>some ({s with aR:=s.aR.set w_.toNat ({x1 with eY:=x2.1}:bG)}:aE)
def wF(x1:Bool):Option Bool:=
  some x1
def GV(p:cQ):Option Bool:=
  (if p.On then wF (!p.jD) else wF false)
def zS(s:aE)(w_ pc:Int):Option aE:=
  (idx s.aR w_).bind fun x1=>(jR x1 pc).bind fun x2=>(idx s.aA.aD.aM w_).bind fun x3=>(GV x3).bind fun x4=>(if !x4 then some ({s with aR:=s.aR.set w_.toNat ({x2 with eY:=0,Code:=6}:bG)}:aE) else some ({s with aR:=s.aR.set w_.toNat x2}:aE))
def MI(w_:Int)(x1:aD)(x2:Bool):Option (aD×Bool):=
  (if x2 then some (x1,false) else (idx x1.aM w_).bind fun x3=>some ((⟨x1.aJ,x1.aM.set w_.toNat (⟨false,0,false,0⟩:cQ)⟩:aD),true))
def aBX(c:aD)(w_:Int):Option (aD×Bool):=
  (xM c).bind fun x1=>(tI c).bind fun x4=>(if !x4 then MI w_ x1 true else (lW w_).bind fun x5=>(if !x5 then MI w_ x1 true else (idx c.aM w_).bind fun x6=>MI w_ x1 (!x6.On)))
def HY(b:aA)(w_:Int):Option (Bool×aA):=
  (aBX b.aD w_).bind fun x1=>some (x1.2,({b with aD:=x1.1}:aA))
def QE(s:aE)(w_:Int):Option aE:=
  (idx s.aR w_).bind fun x1=>(if x1.Pc == 0 then (w9 x1.Sub s.aA w_).bind fun x2=>(if x2.1.dW then (jR ({x1 with Sub:=x2.1}:bG) 1).bind fun x3=>some ({s with aA:=x2.2,aR:=s.aR.set w_.toNat x3}:aE) else some ({s with aA:=x2.2,aR:=s.aR.set w_.toNat ({x1 with Sub:=x2.1}:bG)}:aE)) else (if x1.Pc == 1 then (JT s w_).bind fun x4=>(idx x4.aR w_).bind fun x5=>(jR x5 2).bind fun x6=>(if x6.H == 0 then some ({x4 with aR:=x4.aR.set w_.toNat ({x6 with Pc:=4,Code:=8}:bG)}:aE) else some ({x4 with aR:=x4.aR.set w_.toNat x6}:aE)) else (if x1.Pc == 2 then (y5 s w_).bind fun x7=>(idx x7.aR w_).bind fun x8=>(jR x8 3).bind fun x9=>some ({x7 with aR:=x7.aR.set w_.toNat x9}:aE) else (if x1.Pc == 3 then (zS s w_ 4).bind fun x10=>some x10 else (if x1.Pc == 4 then (HY s.aA w_).bind fun x11=>(eD x1 x1.Code).bind fun x12=>some ({s with aA:=x11.2,aR:=s.aR.set w_.toNat x12}:aE) else (eD x1 1).bind fun x13=>some ({s with aR:=s.aR.set w_.toNat x13}:aE))))))
def HZ(w_ h:Int)(x1:(List Int))(x2:Bool):Option ((List Int)×Bool):=
  (if x2 then some (x1,false) else (idx x1 w_).bind fun x3=>some (x1.set w_.toNat h,true))
def VQ(z:List Int)(w_ h:Int):Option ((List Int)×Bool):=
  (nZ z).bind fun x1=>(DU z).bind fun x4=>(if !x4 then HZ w_ h x1 true else (lW w_).bind fun x5=>(if !x5 then HZ w_ h x1 true else (rU h).bind fun x6=>HZ w_ h x1 (!x6)))
def MJ(w_:Int)(x1:(List Int))(x2:Bool):Option ((List Int)×Bool):=
  (if x2 then some (x1,false) else (idx x1 w_).bind fun x3=>some (x1.set w_.toNat 0,true))
def aBY(z:List Int)(w_:Int):Option ((List Int)×Bool):=
  (nZ z).bind fun x1=>(DU z).bind fun x4=>(if !x4 then MJ w_ x1 true else (lW w_).bind fun x5=>(if !x5 then MJ w_ x1 true else (idx z w_).bind fun x6=>MJ w_ x1 (x6 == 0)))
def QF(s:aE)(w_:Int)(x7:List Int):Option aE:=
  (idx s.aR w_).bind fun x8=>(jR x8 2).bind fun x9=>some ({s with aA:=(⟨s.aA.Mem,s.aA.aD,s.aA.aH,x7⟩:aA),aR:=s.aR.set w_.toNat x9}:aE)
def QG(s:aE)(w_:Int)(x11:Bool):Option aE:=
  (if x11 then (idx s.aR w_).bind fun x12=>(jR x12 0).bind fun x13=>some ({s with aR:=s.aR.set w_.toNat x13}:aE) else (idx s.aR w_).bind fun x14=>(jB s 3 w_ x14.H 0 0).bind fun x15=>(idx x15.aR w_).bind fun x16=>(jR x16 3).bind fun x17=>some ({x15 with aR:=x15.aR.set w_.toNat x17}:aE))
def QH(s:aE)(w_:Int):Option aE:=
  (idx s.aR w_).bind fun x1=>(if x1.Pc == 0 then (idx s.aR w_).bind fun x2=>(idx s.Cells x2.Op.Cell).bind fun x3=>(jR ({x2 with H:=x3}:bG) 1).bind fun x4=>(if x4.H == 0 then (jB ({s with aR:=s.aR.set w_.toNat x4}:aE) 3 w_ 0 0 0).bind fun x5=>(idx x5.aR w_).bind fun x6=>some ({x5 with aR:=x5.aR.set w_.toNat ({x6 with Pc:=4,Code:=8}:bG)}:aE) else some ({s with aR:=s.aR.set w_.toNat x4}:aE)) else (if x1.Pc == 1 then (VQ s.aA.bO w_ x1.H).bind fun x10=>QF s w_ x10.1 else (if x1.Pc == 2 then (idx s.aR w_).bind fun x18=>(idx s.Cells x18.Op.Cell).bind fun x19=>QG s w_ (x19 != x18.H) else (if x1.Pc == 3 then (y5 s w_).bind fun x20=>(idx x20.aR w_).bind fun x21=>(jR x21 4).bind fun x22=>some ({x20 with aR:=x20.aR.set w_.toNat x22}:aE) else (if x1.Pc == 4 then (aBY s.aA.bO w_).bind fun x23=>(eD x1 x1.Code).bind fun x24=>some ({s with aA:=(⟨s.aA.Mem,s.aA.aD,s.aA.aH,x23.1⟩:aA),aR:=s.aR.set w_.toNat x24}:aE) else (eD x1 1).bind fun x25=>some ({s with aR:=s.aR.set w_.toNat x25}:aE))))))
def GW(s:aE)(w_:Int)(x5:Bool):Option aE:=
  (if x5 then (idx s.aR w_).bind fun x6=>(eD x6 6).bind fun x7=>some ({s with aR:=s.aR.set w_.toNat x7}:aE) else (idx s.aR w_).bind fun x8=>(if x8.Pc == 0 then (JT s w_).bind fun x9=>(idx x9.aR w_).bind fun x10=>(jR x10 1).bind fun x11=>(if x11.H == 0 then (eD x11 8).bind fun x12=>some ({x9 with aR:=x9.aR.set w_.toNat x12}:aE) else some ({x9 with aR:=x9.aR.set w_.toNat x11}:aE)) else (if x8.Pc == 1 then (y5 s w_).bind fun x13=>(idx x13.aR w_).bind fun x14=>(jR x14 2).bind fun x15=>some ({x13 with aR:=x13.aR.set w_.toNat x15}:aE) else (if x8.Pc == 2 then (zS s w_ 9).bind fun x16=>some x16 else (eD x8 1).bind fun x17=>some ({s with aR:=s.aR.set w_.toNat x17}:aE)))))
def GX(s:aE)(w_:Int)(x1:cQ)(x2:Bool):Option aE:=
  (if x2 then (idx s.aR w_).bind fun x3=>(eD x3 5).bind fun x4=>some ({s with aR:=s.aR.set w_.toNat x4}:aE) else (idx s.aR w_).bind fun x18=>(if x18.Pc == 0 then GW s w_ x1.jD else GW s w_ false))
def N3(s:aE)(w_:Int)(x1:cQ):Option aE:=
  (idx s.aR w_).bind fun x19=>(if x19.Pc == 0 then GX s w_ x1 (!x1.On) else GX s w_ x1 false)
def NL(s:aE)(w_:Int):Option aE:=
  (idx s.aR w_).bind fun x20=>(idx s.aA.aD.aM w_).bind fun x21=>N3 s w_ x21
def EO(w_ x3:Int)(x4:aE):Option aE:=
  (idx x4.aR w_).bind fun x5=>(eD x5 x3).bind fun x6=>some ({x4 with aR:=x4.aR.set w_.toNat x6}:aE)
def EP(s:aE)(w_:Int)(x17:Bool):Option aE:=
  (if x17 then (idx s.aR w_).bind fun x18=>(w9 x18.Sub s.aA w_).bind fun x19=>(if x19.1.dW then (eD ({x18 with Sub:=x19.1,eY:=x19.1.Out}:bG) x19.1.Code).bind fun x20=>some ({s with aA:=x19.2,aR:=s.aR.set w_.toNat x20}:aE) else some ({s with aA:=x19.2,aR:=s.aR.set w_.toNat ({x18 with Sub:=x19.1}:bG)}:aE)) else (idx s.aR w_).bind fun x21=>(eD x21 1).bind fun x22=>some ({s with aR:=s.aR.set w_.toNat x22}:aE))
def ER(s:aE)(w_:Int)(x12:Bool):Option aE:=
  (if x12 then (idx s.aR w_).bind fun x13=>(w9 x13.Sub s.aA w_).bind fun x14=>(if x14.1.dW then (vT 4 0).bind fun x15=>(jR ({x13 with Sub:=x15}:bG) 1).bind fun x16=>some ({s with aA:=x14.2,aR:=s.aR.set w_.toNat x16}:aE) else some ({s with aA:=x14.2,aR:=s.aR.set w_.toNat ({x13 with Sub:=x14.1}:bG)}:aE)) else (idx s.aR w_).bind fun x23=>(if x23.Op.Kind == 4 then EP s w_ (x23.Pc == 1) else EP s w_ false))
def ES(s:aE)(w_:Int)(x8:Bool):Option aE:=
  (if x8 then (idx s.aR w_).bind fun x9=>(w9 x9.Sub s.aA w_).bind fun x10=>(if x10.1.dW then (eD ({x9 with Sub:=x10.1}:bG) x10.1.Code).bind fun x11=>some ({s with aA:=x10.2,aR:=s.aR.set w_.toNat x11}:aE) else some ({s with aA:=x10.2,aR:=s.aR.set w_.toNat ({x9 with Sub:=x10.1}:bG)}:aE)) else (idx s.aR w_).bind fun x24=>(if x24.Op.Kind == 4 then ER s w_ (x24.Pc == 0) else ER s w_ false))
def ET(s:aE)(w_:Int)(x2:Bool):Option aE:=
  (if x2 then (HY s.aA w_).bind fun x7=>(if !x7.1 then EO w_ 5 ({s with aA:=x7.2}:aE) else EO w_ 0 ({s with aA:=x7.2}:aE)) else (idx s.aR w_).bind fun x25=>(if x25.Op.Kind == 5 then ES s w_ (x25.Pc == 0) else ES s w_ false))
def K6(s:aE)(w_:Int):Option aE:=
  (idx s.aR w_).bind fun x1=>(if x1.Op.Kind == 6 then ET s w_ (x1.Pc == 0) else ET s w_ false)
def rV(s:aE)(w_:Int):Option aE:=
  (idx s.aR w_).bind fun x1=>(if !x1.g7 then (K0 s w_).bind fun x2=>some x2 else (if x1.Pc == 9 then (jB s 4 w_ x1.H x1.eY x1.Code).bind fun x3=>(idx x3.aR w_).bind fun x4=>some ({x3 with aR:=x3.aR.set w_.toNat (⟨false,(⟨0,0,0,0⟩:cM),0,0,(⟨0,0,0,0,0,0,0,0,0,false⟩:Sub),0,0,0,0⟩:bG)}:aE) else (if x1.Op.Kind == 1 then (QD s w_).bind fun x5=>some x5 else (if x1.Op.Kind == 2 then (QE s w_).bind fun x6=>some x6 else (if x1.Op.Kind == 3 then (QH s w_).bind fun x7=>some x7 else (if x1.Op.Kind == 7 then (NL s w_).bind fun x8=>some x8 else (K6 s w_).bind fun x9=>some x9))))))
def aEK:Option Bool:=
  some true
def JU(a_ b:List Int):Int→Option (Step Int (Out Unit Bool))
  | x2=>(if decide (x2 < (a_.length:Int)) then (idx a_ x2).bind fun x3=>(idx b x2).bind fun x4=>(if x3 != x4 then some (.stop (Out.ret false)) else some (.next (aI (x2+1)))) else some (.stop (Out.brk ())))
def aEL:(Out Unit Bool)→Option Bool
  | .brk ()=>aEK
  | .ret r=>some r
def xP(a_ b:List Int):Option Bool:=
  (if (a_.length:Int) != (b.length:Int) then some false else (loop (JU a_ b) 0).bind (aEL))
def qK(a_ b:aC):Option Bool:=
  (xP a_.Bytes b.Bytes).bind fun x1=>(if !x1 then some false else (xP a_.Class b.Class).bind fun x2=>(if !x2 then some false else some true))
def nP(a_ b:aG):Option Bool:=
  (xP a_.bB b.bB).bind fun x1=>(if !x1 then some false else some true)
def A0:Option Bool:=
  some true
def fT(a_ b:List aG):Int→Option (Step Int (Out Unit Bool))
  | x2=>(if decide (x2 < (a_.length:Int)) then (idx a_ x2).bind fun x3=>(idx b x2).bind fun x4=>(nP x3 x4).bind fun x5=>(if !x5 then some (.stop (Out.ret false)) else some (.next (aI (x2+1)))) else some (.stop (Out.brk ())))
def A1:(Out Unit Bool)→Option Bool
  | .brk ()=>A0
  | .ret r=>some r
def lX(a_ b:List aG):Option Bool:=
  (if (a_.length:Int) != (b.length:Int) then some false else (loop (fT a_ b) 0).bind (A1))
def nQ(a_ b:aB):Option Bool:=
  (lX a_.Global b.Global).bind fun x1=>(if !x1 then some false else (lX a_.bA b.bA).bind fun x2=>(if !x2 then some false else some true))
def sJ(a_ b:Mem):Option Bool:=
  (qK a_.aC b.aC).bind fun x1=>(if !x1 then some false else (nQ a_.aB b.aB).bind fun x2=>(if !x2 then some false else some true))
def sK(a_ b:cQ):Option Bool:=
  (if !(a_.On == b.On) then some false else (if a_.aJ != b.aJ then some false else (if !(a_.jD == b.jD) then some false else (if a_.Seen != b.Seen then some false else some true))))
def FC:Option Bool:=
  some true
def iD(a_ b:List cQ):Int→Option (Step Int (Out Unit Bool))
  | x2=>(if decide (x2 < (a_.length:Int)) then (idx a_ x2).bind fun x3=>(idx b x2).bind fun x4=>(sK x3 x4).bind fun x5=>(if !x5 then some (.stop (Out.ret false)) else some (.next (aI (x2+1)))) else some (.stop (Out.brk ())))
def FD:(Out Unit Bool)→Option Bool
  | .brk ()=>FC
  | .ret r=>some r
def qL(a_ b:List cQ):Option Bool:=
  (if (a_.length:Int) != (b.length:Int) then some false else (loop (iD a_ b) 0).bind (FD))
def nR(a_ b:aD):Option Bool:=
  (if a_.aJ != b.aJ then some false else (qL a_.aM b.aM).bind fun x1=>(if !x1 then some false else some true))
def qM(a_ b:bP):Option Bool:=
  (if a_.Handle != b.Handle then some false else (if a_.aJ != b.aJ then some false else some true))
def CT:Option Bool:=
  some true
def gT(a_ b:List bP):Int→Option (Step Int (Out Unit Bool))
  | x2=>(if decide (x2 < (a_.length:Int)) then (idx a_ x2).bind fun x3=>(idx b x2).bind fun x4=>(qM x3 x4).bind fun x5=>(if !x5 then some (.stop (Out.ret false)) else some (.next (aI (x2+1)))) else some (.stop (Out.brk ())))
def CU:(Out Unit Bool)→Option Bool
  | .brk ()=>CT
  | .ret r=>some r
def nS(a_ b:List bP):Option Bool:=
  (if (a_.length:Int) != (b.length:Int) then some false else (loop (gT a_ b) 0).bind (CU))
def nT(a_ b:aP):Option Bool:=
  (nS a_.Rows b.Rows).bind fun x1=>(if !x1 then some false else some true)
def A2:Option Bool:=
  some true
def fU(a_ b:List aP):Int→Option (Step Int (Out Unit Bool))
  | x2=>(if decide (x2 < (a_.length:Int)) then (idx a_ x2).bind fun x3=>(idx b x2).bind fun x4=>(nT x3 x4).bind fun x5=>(if !x5 then some (.stop (Out.ret false)) else some (.next (aI (x2+1)))) else some (.stop (Out.brk ())))
def A3:(Out Unit Bool)→Option Bool
  | .brk ()=>A2
  | .ret r=>some r
def mL(a_ b:List aP):Option Bool:=
  (if (a_.length:Int) != (b.length:Int) then some false else (loop (fU a_ b) 0).bind (A3))
def qN(a_ b:aA):Option Bool:=
  (sJ a_.Mem b.Mem).bind fun x1=>(if !x1 then some false else (nR a_.aD b.aD).bind fun x2=>(if !x2 then some false else (mL a_.aH b.aH).bind fun x3=>(if !x3 then some false else (xP a_.bO b.bO).bind fun x4=>(if !x4 then some false else some true))))
def aAL(a_ b:cM):Option Bool:=
  (if a_.Kind != b.Kind then some false else (if a_.Cell != b.Cell then some false else (if a_.gD != b.gD then some false else (if a_.eY != b.eY then some false else some true))))
def sL(a_ b:Sub):Option Bool:=
  (if a_.Kind != b.Kind then some false else (if a_.A != b.A then some false else (if a_.Pc != b.Pc then some false else (if a_.E != b.E then some false else (if a_.Row != b.Row then some false else (if a_.B != b.B then some false else (if a_.H != b.H then some false else (if a_.Out != b.Out then some false else (if a_.Code != b.Code then some false else (if !(a_.dW == b.dW) then some false else some true))))))))))
def sM(a_ b:bG):Option Bool:=
  (if !(a_.g7 == b.g7) then some false else (aAL a_.Op b.Op).bind fun x1=>(if !x1 then some false else (if a_.aK != b.aK then some false else (if a_.Pc != b.Pc then some false else (sL a_.Sub b.Sub).bind fun x2=>(if !x2 then some false else (if a_.H != b.H then some false else (if a_.Old != b.Old then some false else (if a_.eY != b.eY then some false else (if a_.Code != b.Code then some false else some true)))))))))
def FE:Option Bool:=
  some true
def iE(a_ b:List bG):Int→Option (Step Int (Out Unit Bool))
  | x2=>(if decide (x2 < (a_.length:Int)) then (idx a_ x2).bind fun x3=>(idx b x2).bind fun x4=>(sM x3 x4).bind fun x5=>(if !x5 then some (.stop (Out.ret false)) else some (.next (aI (x2+1)))) else some (.stop (Out.brk ())))
def FF:(Out Unit Bool)→Option Bool
  | .brk ()=>FE
  | .ret r=>some r
def qO(a_ b:List bG):Option Bool:=
  (if (a_.length:Int) != (b.length:Int) then some false else (loop (iE a_ b) 0).bind (FF))
def aGV:Option Bool:=
  some true
def MK(a_ b:List cM):Int→Option (Step Int (Out Unit Bool))
  | x2=>(if decide (x2 < (a_.length:Int)) then (idx a_ x2).bind fun x3=>(idx b x2).bind fun x4=>(aAL x3 x4).bind fun x5=>(if !x5 then some (.stop (Out.ret false)) else some (.next (aI (x2+1)))) else some (.stop (Out.brk ())))
def aGW:(Out Unit Bool)→Option Bool
  | .brk ()=>aGV
  | .ret r=>some r
def aBZ(a_ b:List cM):Option Bool:=
  (if (a_.length:Int) != (b.length:Int) then some false else (loop (MK a_ b) 0).bind (aGW))
def VR(a_ b:Queue):Option Bool:=
  (aBZ a_.kJ b.kJ).bind fun x1=>(if !x1 then some false else some true)
def aAM:Option Bool:=
  some true
def FG(a_ b:List Queue):Int→Option (Step Int (Out Unit Bool))
  | x2=>(if decide (x2 < (a_.length:Int)) then (idx a_ x2).bind fun x3=>(idx b x2).bind fun x4=>(VR x3 x4).bind fun x5=>(if !x5 then some (.stop (Out.ret false)) else some (.next (aI (x2+1)))) else some (.stop (Out.brk ())))
def aAN:(Out Unit Bool)→Option Bool
  | .brk ()=>aAM
  | .ret r=>some r
def DX(a_ b:List Queue):Option Bool:=
  (if (a_.length:Int) != (b.length:Int) then some false else (loop (FG a_ b) 0).bind (aAN))
def vQ(a_ b:Ev):Option Bool:=
  (if a_.Kind != b.Kind then some false else (if a_.XZ != b.XZ then some false else (if a_.aK != b.aK then some false else (if a_.Cell != b.Cell then some false else (if a_.Handle != b.Handle then some false else (if a_.eY != b.eY then some false else (if a_.Code != b.Code then some false else some true)))))))
def IS:Option Bool:=
  some true
def jI(a_ b:List Ev):Int→Option (Step Int (Out Unit Bool))
  | x2=>(if decide (x2 < (a_.length:Int)) then (idx a_ x2).bind fun x3=>(idx b x2).bind fun x4=>(vQ x3 x4).bind fun x5=>(if !x5 then some (.stop (Out.ret false)) else some (.next (aI (x2+1)))) else some (.stop (Out.brk ())))
def IT:(Out Unit Bool)→Option Bool
  | .brk ()=>IS
  | .ret r=>some r
def sN(a_ b:List Ev):Option Bool:=
  (if (a_.length:Int) != (b.length:Int) then some false else (loop (jI a_ b) 0).bind (IT))
def cL(a_ b:aE):Option Bool:=
  (qN a_.aA b.aA).bind fun x1=>(if !x1 then some false else (xP a_.Cells b.Cells).bind fun x2=>(if !x2 then some false else (qO a_.aR b.aR).bind fun x3=>(if !x3 then some false else (DX a_.aU b.aU).bind fun x4=>(if !x4 then some false else (sN a_.Log b.Log).bind fun x5=>(if !x5 then some false else (if a_.aK != b.aK then some false else some true))))))
def A4(a_ x7:List Int)(x8:Int):Option (Int×(List Int)):=
  need (x7.length=a_.length) (some (x8,x7))
def jM(a_:List Int):((List Int)×Int×Int)→Option (Step ((List Int)×Int×Int) ((List Int)×Int))
  | (x4,x5,x6)=>need (x4.length=a_.length) ((if decide (x6 < (x4.length:Int)) then (idx x4 x6).bind fun x9=>some (.next (x4.set x6.toNat x5,aI (x5+1),aI (x6+1))) else some (.stop ((x4,x5)))))
def A5(a_:List Int):((List Int)×Int)→Option (Int×(List Int))
  | (x7,x8)=>A4 a_ x7 x8
def gU(a_:List Int)(k:Int):Option (Int×(List Int)):=
  (loop (jM a_) (a_,k,0)).bind (A5 a_)
def yK(a_ x7:List bP)(x8:Int):Option (Int×(List bP)):=
  need (x7.length=a_.length) (some (x8,x7))
def iS(a_:List bP):((List bP)×Int×Int)→Option (Step ((List bP)×Int×Int) ((List bP)×Int))
  | (x4,x5,x6)=>need (x4.length=a_.length) ((if decide (x6 < (x4.length:Int)) then (idx x4 x6).bind fun x9=>some (.next (x4.set x6.toNat (⟨x5,aI (x5+1)⟩:bP),aI ((aI (x5+1))+1),aI (x6+1))) else some (.stop ((x4,x5)))))
def yL(a_:List bP):((List bP)×Int)→Option (Int×(List bP))
  | (x7,x8)=>yK a_ x7 x8
def lF(a_:List bP)(k:Int):Option (Int×(List bP)):=
  (loop (iS a_) (a_,k,0)).bind (yL a_)
def wI(a_ x7:List aP)(x8:Int):Option (Int×(List aP)):=
  need (x7.length=a_.length) (some (x8,x7))
def hC(a_:List aP):((List aP)×Int×Int)→Option (Step ((List aP)×Int×Int) ((List aP)×Int))
  | (x4,x5,x6)=>need (x4.length=a_.length) ((if decide (x6 < (x4.length:Int)) then (idx x4 x6).bind fun x9=>(lF x9.Rows x5).bind fun x10=>some (.next (x4.set x6.toNat (⟨x10.2⟩:aP),x10.1,aI (x6+1))) else some (.stop ((x4,x5)))))
def wJ(a_:List aP):((List aP)×Int)→Option (Int×(List aP))
  | (x7,x8)=>wI a_ x7 x8
def jS(a_:List aP)(k:Int):Option (Int×(List aP)):=
  (loop (hC a_) (a_,k,0)).bind (wJ a_)
def qD(a_:aC)(k:Int):Option (Int×(List Int)×(List Int)):=
  (gU a_.Bytes k).bind fun x1=>(gU a_.Class x1.1).bind fun x2=>some (x2.1,x1.2,x2.2)
def wK(a_ x7:List aG)(x8:Int):Option (Int×(List aG)):=
  need (x7.length=a_.length) (some (x8,x7))
def hO(a_:List aG):((List aG)×Int×Int)→Option (Step ((List aG)×Int×Int) ((List aG)×Int))
  | (x4,x5,x6)=>need (x4.length=a_.length) ((if decide (x6 < (x4.length:Int)) then (idx x4 x6).bind fun x9=>(gU x9.bB x5).bind fun x10=>some (.next (x4.set x6.toNat (⟨x10.2⟩:aG),x10.1,aI (x6+1))) else some (.stop ((x4,x5)))))
def wL(a_:List aG):((List aG)×Int)→Option (Int×(List aG))
  | (x7,x8)=>wK a_ x7 x8
def iO(a_:List aG)(k:Int):Option (Int×(List aG)):=
  (loop (hO a_) (a_,k,0)).bind (wL a_)
def oB(a_:aB)(k:Int):Option (Int×(List aG)×(List aG)):=
  (iO a_.Global k).bind fun x1=>(iO a_.bA x1.1).bind fun x2=>some (x2.1,x1.2,x2.2)
def r9(a_:Mem)(k:Int):Option (Int×(List Int)×(List Int)×(List aG)×(List aG)):=
  (qD a_.aC k).bind fun x1=>(oB a_.aB x1.1).bind fun x2=>some (x2.1,x1.2.1,x1.2.2,x2.2.1,x2.2.2)
def A6(a_ x7:List cQ)(x8:Int):Option (Int×(List cQ)):=
  need (x7.length=a_.length) (some (x8,x7))
def jN(a_:List cQ):((List cQ)×Int×Int)→Option (Step ((List cQ)×Int×Int) ((List cQ)×Int))
  | (x4,x5,x6)=>need (x4.length=a_.length) ((if decide (x6 < (x4.length:Int)) then (idx x4 x6).bind fun x9=>some (.next (x4.set x6.toNat (⟨(Int.tmod x5 3) == 0,aI (x5+1),(Int.tmod (aI ((aI (x5+1))+1)) 3) == 0,aI ((aI ((aI (x5+1))+1))+1)⟩:cQ),aI ((aI ((aI ((aI (x5+1))+1))+1))+1),aI (x6+1))) else some (.stop ((x4,x5)))))
def A7(a_:List cQ):((List cQ)×Int)→Option (Int×(List cQ))
  | (x7,x8)=>A6 a_ x7 x8
def lY(a_:List cQ)(k:Int):Option (Int×(List cQ)):=
  (loop (jN a_) (a_,k,0)).bind (A7 a_)
def oC(a_:aD)(k:Int):Option (Int×(List cQ)):=
  (lY a_.aM k).bind fun x1=>some (x1.1,x1.2)
def qE(a_:aA)(k:Int):Option (Int×(List Int)×(List Int)×(List aG)×(List aG)×(List cQ)×(List aP)×(List Int)):=
  (r9 a_.Mem k).bind fun x1=>(oC a_.aD x1.1).bind fun x2=>(jS a_.aH x2.1).bind fun x3=>(gU a_.bO x3.1).bind fun x4=>some (x4.1,x1.2.1,x1.2.2.1,x1.2.2.2.1,x1.2.2.2.2,x2.2,x3.2,x4.2)
def A8(a_ x7:List bG)(x8:Int):Option (Int×(List bG)):=
  need (x7.length=a_.length) (some (x8,x7))
def jO(a_:List bG):((List bG)×Int×Int)→Option (Step ((List bG)×Int×Int) ((List bG)×Int))
  | (x4,x5,x6)=>need (x4.length=a_.length) ((if decide (x6 < (x4.length:Int)) then (idx x4 x6).bind fun x9=>some (.next (x4.set x6.toNat (⟨(Int.tmod x5 3) == 0,(⟨aI (x5+1),aI ((aI (x5+1))+1),aI ((aI ((aI (x5+1))+1))+1),aI ((aI ((aI ((aI (x5+1))+1))+1))+1)⟩:cM),aI ((aI ((aI ((aI ((aI (x5+1))+1))+1))+1))+1),aI ((aI ((aI ((aI ((aI ((aI (x5+1))+1))+1))+1))+1))+1),(⟨aI ((aI ((aI ((aI ((aI ((aI ((aI (x5+1))+1))+1))+1))+1))+1))+1),aI ((aI ((aI ((aI ((aI ((aI ((aI ((aI (x5+1))+1))+1))+1))+1))+1))+1))+1),aI ((aI ((aI ((aI ((aI ((aI ((aI ((aI ((aI (x5+1))+1))+1))+1))+1))+1))+1))+1))+1),aI ((aI ((aI ((aI ((aI ((aI ((aI ((aI ((aI ((aI (x5+1))+1))+1))+1))+1))+1))+1))+1))+1))+1),aI ((aI ((aI ((aI ((aI ((aI ((aI ((aI ((aI ((aI ((aI (x5+1))+1))+1))+1))+1))+1))+1))+1))+1))+1))+1),aI ((aI ((aI ((aI ((aI ((aI ((aI ((aI ((aI ((aI ((aI ((aI (x5+1))+1))+1))+1))+1))+1))+1))+1))+1))+1))+1))+1),aI ((aI ((aI ((aI ((aI ((aI ((aI ((aI ((aI ((aI ((aI ((aI ((aI (x5+1))+1))+1))+1))+1))+1))+1))+1))+1))+1))+1))+1))+1),aI ((aI ((aI ((aI ((aI ((aI ((aI ((aI ((aI ((aI ((aI ((aI ((aI ((aI (x5+1))+1))+1))+1))+1))+1))+1))+1))+1))+1))+1))+1))+1))+1),aI ((aI ((aI ((aI ((aI ((aI ((aI ((aI ((aI ((aI ((aI ((aI ((aI ((aI ((aI (x5+1))+1))+1))+1))+1))+1))+1))+1))+1))+1))+1))+1))+1))+1))+1),(Int.tmod (aI ((aI ((aI ((aI ((aI ((aI ((aI ((aI ((aI ((aI ((aI ((aI ((aI ((aI ((aI ((aI (x5+1))+1))+1))+1))+1))+1))+1))+1))+1))+1))+1))+1))+1))+1))+1))+1)) 3) == 0⟩:Sub),aI ((aI ((aI ((aI ((aI ((aI ((aI ((aI ((aI ((aI ((aI ((aI ((aI ((aI ((aI ((aI ((aI (x5+1))+1))+1))+1))+1))+1))+1))+1))+1))+1))+1))+1))+1))+1))+1))+1))+1),aI ((aI ((aI ((aI ((aI ((aI ((aI ((aI ((aI ((aI ((aI ((aI ((aI ((aI ((aI ((aI ((aI ((aI (x5+1))+1))+1))+1))+1))+1))+1))+1))+1))+1))+1))+1))+1))+1))+1))+1))+1))+1),aI ((aI ((aI ((aI ((aI ((aI ((aI ((aI ((aI ((aI ((aI ((aI ((aI ((aI ((aI ((aI ((aI ((aI ((aI (x5+1))+1))+1))+1))+1))+1))+1))+1))+1))+1))+1))+1))+1))+1))+1))+1))+1))+1))+1),aI ((aI ((aI ((aI ((aI ((aI ((aI ((aI ((aI ((aI ((aI ((aI ((aI ((aI ((aI ((aI ((aI ((aI ((aI ((aI (x5+1))+1))+1))+1))+1))+1))+1))+1))+1))+1))+1))+1))+1))+1))+1))+1))+1))+1))+1))+1)⟩:bG),aI ((aI ((aI ((aI ((aI ((aI ((aI ((aI ((aI ((aI ((aI ((aI ((aI ((aI ((aI ((aI ((aI ((aI ((aI ((aI ((aI (x5+1))+1))+1))+1))+1))+1))+1))+1))+1))+1))+1))+1))+1))+1))+1))+1))+1))+1))+1))+1))+1),aI (x6+1))) else some (.stop ((x4,x5)))))
def A9(a_:List bG):((List bG)×Int)→Option (Int×(List bG))
  | (x7,x8)=>A8 a_ x7 x8
def lZ(a_:List bG)(k:Int):Option (Int×(List bG)):=
  (loop (jO a_) (a_,k,0)).bind (A9 a_)
def CV(a_ x7:List cM)(x8:Int):Option (Int×(List cM)):=
  need (x7.length=a_.length) (some (x8,x7))
def kM(a_:List cM):((List cM)×Int×Int)→Option (Step ((List cM)×Int×Int) ((List cM)×Int))
  | (x4,x5,x6)=>need (x4.length=a_.length) ((if decide (x6 < (x4.length:Int)) then (idx x4 x6).bind fun x9=>some (.next (x4.set x6.toNat (⟨x5,aI (x5+1),aI ((aI (x5+1))+1),aI ((aI ((aI (x5+1))+1))+1)⟩:cM),aI ((aI ((aI ((aI (x5+1))+1))+1))+1),aI (x6+1))) else some (.stop ((x4,x5)))))
def CX(a_:List cM):((List cM)×Int)→Option (Int×(List cM))
  | (x7,x8)=>CV a_ x7 x8
def nU(a_:List cM)(k:Int):Option (Int×(List cM)):=
  (loop (kM a_) (a_,k,0)).bind (CX a_)
def wM(a_ x7:List Queue)(x8:Int):Option (Int×(List Queue)):=
  need (x7.length=a_.length) (some (x8,x7))
def hQ(a_:List Queue):((List Queue)×Int×Int)→Option (Step ((List Queue)×Int×Int) ((List Queue)×Int))
  | (x4,x5,x6)=>need (x4.length=a_.length) ((if decide (x6 < (x4.length:Int)) then (idx x4 x6).bind fun x9=>(nU x9.kJ x5).bind fun x10=>some (.next (x4.set x6.toNat (⟨x10.2⟩:Queue),x10.1,aI (x6+1))) else some (.stop ((x4,x5)))))
def wN(a_:List Queue):((List Queue)×Int)→Option (Int×(List Queue))
  | (x7,x8)=>wM a_ x7 x8
def jC(a_:List Queue)(k:Int):Option (Int×(List Queue)):=
  (loop (hQ a_) (a_,k,0)).bind (wN a_)
def CY(a_ x7:List Ev)(x8:Int):Option (Int×(List Ev)):=
  need (x7.length=a_.length) (some (x8,x7))
def kN(a_:List Ev):((List Ev)×Int×Int)→Option (Step ((List Ev)×Int×Int) ((List Ev)×Int))
  | (x4,x5,x6)=>need (x4.length=a_.length) ((if decide (x6 < (x4.length:Int)) then (idx x4 x6).bind fun x9=>some (.next (x4.set x6.toNat (⟨x5,aI (x5+1),aI ((aI (x5+1))+1),aI ((aI ((aI (x5+1))+1))+1),aI ((aI ((aI ((aI (x5+1))+1))+1))+1),aI ((aI ((aI ((aI ((aI (x5+1))+1))+1))+1))+1),aI ((aI ((aI ((aI ((aI ((aI (x5+1))+1))+1))+1))+1))+1)⟩:Ev),aI ((aI ((aI ((aI ((aI ((aI ((aI (x5+1))+1))+1))+1))+1))+1))+1),aI (x6+1))) else some (.stop ((x4,x5)))))
def CZ(a_:List Ev):((List Ev)×Int)→Option (Int×(List Ev))
  | (x7,x8)=>CY a_ x7 x8
def mZ(a_:List Ev)(k:Int):Option (Int×(List Ev)):=
  (loop (kN a_) (a_,k,0)).bind (CZ a_)
def eK(a_:aE)(k:Int):Option (Int×(List Int)×(List Int)×(List aG)×(List aG)×(List cQ)×(List aP)×(List Int)×(List Int)×(List bG)×(List Queue)×(List Ev)):=
  (qE a_.aA k).bind fun x1=>(gU a_.Cells x1.1).bind fun x2=>(lZ a_.aR x2.1).bind fun x3=>(jC a_.aU x3.1).bind fun x4=>(mZ a_.Log x4.1).bind fun x5=>some (x5.1,x1.2.1,x1.2.2.1,x1.2.2.2.1,x1.2.2.2.2.1,x1.2.2.2.2.2.1,x1.2.2.2.2.2.2.1,x1.2.2.2.2.2.2.2,x2.2,x3.2,x4.2,x5.2)
def aKU(x5:Int):Option Int:=
  some x5
def eA(a_:List Int):(Int×Int)→Option (Step (Int×Int) (Out Int Int))
  | (x3,x4)=>(if decide (x4 < (a_.length:Int)) then (idx a_ x4).bind fun x6=>(if x6 != x3 then some (.stop (Out.ret (-1))) else some (.next (aI (x3+1),aI (x4+1)))) else some (.stop (Out.brk x3)))
def aKV:(Out Int Int)→Option Int
  | .brk x5=>aKU x5
  | .ret r=>some r
def d8(a_:List Int)(k:Int):Option Int:=
  (loop (eA a_) (k,0)).bind (aKV)
def aI7(x5:Int):Option Int:=
  some x5
def dR(a_:List bP):(Int×Int)→Option (Step (Int×Int) (Out Int Int))
  | (x3,x4)=>(if decide (x4 < (a_.length:Int)) then (idx a_ x4).bind fun x6=>(if x6.Handle != x3 then some (.stop (Out.ret (-1))) else (idx a_ x4).bind fun x7=>(if x7.aJ != (aI (x3+1)) then some (.stop (Out.ret (-1))) else some (.next (aI ((aI (x3+1))+1),aI (x4+1))))) else some (.stop (Out.brk x3)))
def aI8:(Out Int Int)→Option Int
  | .brk x5=>aI7 x5
  | .ret r=>some r
def fE(a_:List bP)(k:Int):Option Int:=
  (loop (dR a_) (k,0)).bind (aI8)
def aHP(x5:Int):Option Int:=
  some x5
def hU(a_:List aP):(Int×Int)→Option (Step (Int×Int) (Out Int Int))
  | (x3,x4)=>(if decide (x4 < (a_.length:Int)) then (idx a_ x4).bind fun x6=>(fE x6.Rows x3).bind fun x7=>(if decide (x7 < 0) then some (.stop (Out.ret (-1))) else some (.next (x7,aI (x4+1)))) else some (.stop (Out.brk x3)))
def aHQ:(Out Int Int)→Option Int
  | .brk x5=>aHP x5
  | .ret r=>some r
def jT(a_:List aP)(k:Int):Option Int:=
  (loop (hU a_) (k,0)).bind (aHQ)
def qF(a_:aC)(k:Int):Option Int:=
  (d8 a_.Bytes k).bind fun x1=>(if decide (x1 < 0) then some (-1) else (d8 a_.Class x1).bind fun x2=>(if decide (x2 < 0) then some (-1) else some x2))
def aHR(x5:Int):Option Int:=
  some x5
def hY(a_:List aG):(Int×Int)→Option (Step (Int×Int) (Out Int Int))
  | (x3,x4)=>(if decide (x4 < (a_.length:Int)) then (idx a_ x4).bind fun x6=>(d8 x6.bB x3).bind fun x7=>(if decide (x7 < 0) then some (.stop (Out.ret (-1))) else some (.next (x7,aI (x4+1)))) else some (.stop (Out.brk x3)))
def aHS:(Out Int Int)→Option Int
  | .brk x5=>aHR x5
  | .ret r=>some r
def iP(a_:List aG)(k:Int):Option Int:=
  (loop (hY a_) (k,0)).bind (aHS)
def oD(a_:aB)(k:Int):Option Int:=
  (iP a_.Global k).bind fun x1=>(if decide (x1 < 0) then some (-1) else (iP a_.bA x1).bind fun x2=>(if decide (x2 < 0) then some (-1) else some x2))
def sA(a_:Mem)(k:Int):Option Int:=
  (qF a_.aC k).bind fun x1=>(if decide (x1 < 0) then some (-1) else (oD a_.aB x1).bind fun x2=>(if decide (x2 < 0) then some (-1) else some x2))
def aKW(x5:Int):Option Int:=
  some x5
def eB(a_:List cQ):(Int×Int)→Option (Step (Int×Int) (Out Int Int))
  | (x3,x4)=>(if decide (x4 < (a_.length:Int)) then (idx a_ x4).bind fun x6=>(if !(x6.On == ((Int.tmod x3 3) == 0)) then some (.stop (Out.ret (-1))) else (idx a_ x4).bind fun x7=>(if x7.aJ != (aI (x3+1)) then some (.stop (Out.ret (-1))) else (idx a_ x4).bind fun x8=>(if !(x8.jD == ((Int.tmod (aI ((aI (x3+1))+1)) 3) == 0)) then some (.stop (Out.ret (-1))) else (idx a_ x4).bind fun x9=>(if x9.Seen != (aI ((aI ((aI (x3+1))+1))+1)) then some (.stop (Out.ret (-1))) else some (.next (aI ((aI ((aI ((aI (x3+1))+1))+1))+1),aI (x4+1))))))) else some (.stop (Out.brk x3)))
def aKX:(Out Int Int)→Option Int
  | .brk x5=>aKW x5
  | .ret r=>some r
def l4(a_:List cQ)(k:Int):Option Int:=
  (loop (eB a_) (k,0)).bind (aKX)
def oE(a_:aD)(k:Int):Option Int:=
  (l4 a_.aM k).bind fun x1=>(if decide (x1 < 0) then some (-1) else some x1)
def qG(a_:aA)(k:Int):Option Int:=
  (sA a_.Mem k).bind fun x1=>(if decide (x1 < 0) then some (-1) else (oE a_.aD x1).bind fun x2=>(if decide (x2 < 0) then some (-1) else (jT a_.aH x2).bind fun x3=>(if decide (x3 < 0) then some (-1) else (d8 a_.bO x3).bind fun x4=>(if decide (x4 < 0) then some (-1) else some x4))))
def aKY(x5:Int):Option Int:=
  some x5
def eC(a_:List bG):(Int×Int)→Option (Step (Int×Int) (Out Int Int))
  | (x3,x4)=>(if decide (x4 < (a_.length:Int)) then (idx a_ x4).bind fun x6=>(if !(x6.g7 == ((Int.tmod x3 3) == 0)) then some (.stop (Out.ret (-1))) else (idx a_ x4).bind fun x7=>(if x7.Op.Kind != (aI (x3+1)) then some (.stop (Out.ret (-1))) else (idx a_ x4).bind fun x8=>(if x8.Op.Cell != (aI ((aI (x3+1))+1)) then some (.stop (Out.ret (-1))) else (idx a_ x4).bind fun x9=>(if x9.Op.gD != (aI ((aI ((aI (x3+1))+1))+1)) then some (.stop (Out.ret (-1))) else (idx a_ x4).bind fun x10=>(if x10.Op.eY != (aI ((aI ((aI ((aI (x3+1))+1))+1))+1)) then some (.stop (Out.ret (-1))) else (idx a_ x4).bind fun x11=>(if x11.aK != (aI ((aI ((aI ((aI ((aI (x3+1))+1))+1))+1))+1)) then some (.stop (Out.ret (-1))) else (idx a_ x4).bind fun x12=>(if x12.Pc != (aI ((aI ((aI ((aI ((aI ((aI (x3+1))+1))+1))+1))+1))+1)) then some (.stop (Out.ret (-1))) else (idx a_ x4).bind fun x13=>(if x13.Sub.Kind != (aI ((aI ((aI ((aI ((aI ((aI ((aI (x3+1))+1))+1))+1))+1))+1))+1)) then some (.stop (Out.ret (-1))) else (idx a_ x4).bind fun x14=>(if x14.Sub.A != (aI ((aI ((aI ((aI ((aI ((aI ((aI ((aI (x3+1))+1))+1))+1))+1))+1))+1))+1)) then some (.stop (Out.ret (-1))) else (idx a_ x4).bind fun x15=>(if x15.Sub.Pc != (aI ((aI ((aI ((aI ((aI ((aI ((aI ((aI ((aI (x3+1))+1))+1))+1))+1))+1))+1))+1))+1)) then some (.stop (Out.ret (-1))) else (idx a_ x4).bind fun x16=>(if x16.Sub.E != (aI ((aI ((aI ((aI ((aI ((aI ((aI ((aI ((aI ((aI (x3+1))+1))+1))+1))+1))+1))+1))+1))+1))+1)) then some (.stop (Out.ret (-1))) else (idx a_ x4).bind fun x17=>(if x17.Sub.Row != (aI ((aI ((aI ((aI ((aI ((aI ((aI ((aI ((aI ((aI ((aI (x3+1))+1))+1))+1))+1))+1))+1))+1))+1))+1))+1)) then some (.stop (Out.ret (-1))) else (idx a_ x4).bind fun x18=>(if x18.Sub.B != (aI ((aI ((aI ((aI ((aI ((aI ((aI ((aI ((aI ((aI ((aI ((aI (x3+1))+1))+1))+1))+1))+1))+1))+1))+1))+1))+1))+1)) then some (.stop (Out.ret (-1))) else (idx a_ x4).bind fun x19=>(if x19.Sub.H != (aI ((aI ((aI ((aI ((aI ((aI ((aI ((aI ((aI ((aI ((aI ((aI ((aI (x3+1))+1))+1))+1))+1))+1))+1))+1))+1))+1))+1))+1))+1)) then some (.stop (Out.ret (-1))) else (idx a_ x4).bind fun x20=>(if x20.Sub.Out != (aI ((aI ((aI ((aI ((aI ((aI ((aI ((aI ((aI ((aI ((aI ((aI ((aI ((aI (x3+1))+1))+1))+1))+1))+1))+1))+1))+1))+1))+1))+1))+1))+1)) then some (.stop (Out.ret (-1))) else (idx a_ x4).bind fun x21=>(if x21.Sub.Code != (aI ((aI ((aI ((aI ((aI ((aI ((aI ((aI ((aI ((aI ((aI ((aI ((aI ((aI ((aI (x3+1))+1))+1))+1))+1))+1))+1))+1))+1))+1))+1))+1))+1))+1))+1)) then some (.stop (Out.ret (-1))) else (idx a_ x4).bind fun x22=>(if !(x22.Sub.dW == ((Int.tmod (aI ((aI ((aI ((aI ((aI ((aI ((aI ((aI ((aI ((aI ((aI ((aI ((aI ((aI ((aI ((aI (x3+1))+1))+1))+1))+1))+1))+1))+1))+1))+1))+1))+1))+1))+1))+1))+1)) 3) == 0)) then some (.stop (Out.ret (-1))) else (idx a_ x4).bind fun x23=>(if x23.H != (aI ((aI ((aI ((aI ((aI ((aI ((aI ((aI ((aI ((aI ((aI ((aI ((aI ((aI ((aI ((aI ((aI (x3+1))+1))+1))+1))+1))+1))+1))+1))+1))+1))+1))+1))+1))+1))+1))+1))+1)) then some (.stop (Out.ret (-1))) else (idx a_ x4).bind fun x24=>(if x24.Old != (aI ((aI ((aI ((aI ((aI ((aI ((aI ((aI ((aI ((aI ((aI ((aI ((aI ((aI ((aI ((aI ((aI ((aI (x3+1))+1))+1))+1))+1))+1))+1))+1))+1))+1))+1))+1))+1))+1))+1))+1))+1))+1)) then some (.stop (Out.ret (-1))) else (idx a_ x4).bind fun x25=>(if x25.eY != (aI ((aI ((aI ((aI ((aI ((aI ((aI ((aI ((aI ((aI ((aI ((aI ((aI ((aI ((aI ((aI ((aI ((aI ((aI (x3+1))+1))+1))+1))+1))+1))+1))+1))+1))+1))+1))+1))+1))+1))+1))+1))+1))+1))+1)) then some (.stop (Out.ret (-1))) else (idx a_ x4).bind fun x26=>(if x26.Code != (aI ((aI ((aI ((aI ((aI ((aI ((aI ((aI ((aI ((aI ((aI ((aI ((aI ((aI ((aI ((aI ((aI ((aI ((aI ((aI (x3+1))+1))+1))+1))+1))+1))+1))+1))+1))+1))+1))+1))+1))+1))+1))+1))+1))+1))+1))+1)) then some (.stop (Out.ret (-1))) else some (.next (aI ((aI ((aI ((aI ((aI ((aI ((aI ((aI ((aI ((aI ((aI ((aI ((aI ((aI ((aI ((aI ((aI ((aI ((aI ((aI ((aI (x3+1))+1))+1))+1))+1))+1))+1))+1))+1))+1))+1))+1))+1))+1))+1))+1))+1))+1))+1))+1))+1),aI (x4+1)))))))))))))))))))))))) else some (.stop (Out.brk x3)))
def aKZ:(Out Int Int)→Option Int
  | .brk x5=>aKY x5
  | .ret r=>some r
def l5(a_:List bG)(k:Int):Option Int:=
  (loop (eC a_) (k,0)).bind (aKZ)
def aMO(x5:Int):Option Int:=
  some x5
def eR(a_:List cM):(Int×Int)→Option (Step (Int×Int) (Out Int Int))
  | (x3,x4)=>(if decide (x4 < (a_.length:Int)) then (idx a_ x4).bind fun x6=>(if x6.Kind != x3 then some (.stop (Out.ret (-1))) else (idx a_ x4).bind fun x7=>(if x7.Cell != (aI (x3+1)) then some (.stop (Out.ret (-1))) else (idx a_ x4).bind fun x8=>(if x8.gD != (aI ((aI (x3+1))+1)) then some (.stop (Out.ret (-1))) else (idx a_ x4).bind fun x9=>(if x9.eY != (aI ((aI ((aI (x3+1))+1))+1)) then some (.stop (Out.ret (-1))) else some (.next (aI ((aI ((aI ((aI (x3+1))+1))+1))+1),aI (x4+1))))))) else some (.stop (Out.brk x3)))
def aMP:(Out Int Int)→Option Int
  | .brk x5=>aMO x5
  | .ret r=>some r
def iB(a_:List cM)(k:Int):Option Int:=
  (loop (eR a_) (k,0)).bind (aMP)
def aHT(x5:Int):Option Int:=
  some x5
def iA(a_:List Queue):(Int×Int)→Option (Step (Int×Int) (Out Int Int))
  | (x3,x4)=>(if decide (x4 < (a_.length:Int)) then (idx a_ x4).bind fun x6=>(iB x6.kJ x3).bind fun x7=>(if decide (x7 < 0) then some (.stop (Out.ret (-1))) else some (.next (x7,aI (x4+1)))) else some (.stop (Out.brk x3)))
def aHU:(Out Int Int)→Option Int
  | .brk x5=>aHT x5
  | .ret r=>some r
def jU(a_:List Queue)(k:Int):Option Int:=
  (loop (iA a_) (k,0)).bind (aHU)
def aMQ(x5:Int):Option Int:=
  some x5
def eS(a_:List Ev):(Int×Int)→Option (Step (Int×Int) (Out Int Int))
  | (x3,x4)=>(if decide (x4 < (a_.length:Int)) then (idx a_ x4).bind fun x6=>(if x6.Kind != x3 then some (.stop (Out.ret (-1))) else (idx a_ x4).bind fun x7=>(if x7.XZ != (aI (x3+1)) then some (.stop (Out.ret (-1))) else (idx a_ x4).bind fun x8=>(if x8.aK != (aI ((aI (x3+1))+1)) then some (.stop (Out.ret (-1))) else (idx a_ x4).bind fun x9=>(if x9.Cell != (aI ((aI ((aI (x3+1))+1))+1)) then some (.stop (Out.ret (-1))) else (idx a_ x4).bind fun x10=>(if x10.Handle != (aI ((aI ((aI ((aI (x3+1))+1))+1))+1)) then some (.stop (Out.ret (-1))) else (idx a_ x4).bind fun x11=>(if x11.eY != (aI ((aI ((aI ((aI ((aI (x3+1))+1))+1))+1))+1)) then some (.stop (Out.ret (-1))) else (idx a_ x4).bind fun x12=>(if x12.Code != (aI ((aI ((aI ((aI ((aI ((aI (x3+1))+1))+1))+1))+1))+1)) then some (.stop (Out.ret (-1))) else some (.next (aI ((aI ((aI ((aI ((aI ((aI ((aI (x3+1))+1))+1))+1))+1))+1))+1),aI (x4+1)))))))))) else some (.stop (Out.brk x3)))
def aMR:(Out Int Int)→Option Int
  | .brk x5=>aMQ x5
  | .ret r=>some r
def m0(a_:List Ev)(k:Int):Option Int:=
  (loop (eS a_) (k,0)).bind (aMR)
def eM(a_:aE)(k:Int):Option Int:=
  (qG a_.aA k).bind fun x1=>(if decide (x1 < 0) then some (-1) else (d8 a_.Cells x1).bind fun x2=>(if decide (x2 < 0) then some (-1) else (l5 a_.aR x2).bind fun x3=>(if decide (x3 < 0) then some (-1) else (jU a_.aU x3).bind fun x4=>(if decide (x4 < 0) then some (-1) else (m0 a_.Log x4).bind fun x5=>(if decide (x5 < 0) then some (-1) else some x5)))))
end
end Go.Gv
end
noncomputable section
set_option linter.unusedVariables false
set_option maxHeartbeats 4000000
set_option maxRecDepth 100000
namespace Go.Proofs.YtgboekoingacfaaGreat
open Go.Gv
theorem bD:Inf Tryz.prog 3 1 (.int .i64 0):=O0 (b:=8) (by kernel_rfl) rfl
theorem dN:Inf Tryz.prog 166 1 (.agg #[.slice none 0 0]):=O0 (b:=24) (by kernel_rfl) rfl
theorem sO:Inf Tryz.prog 168 4 (.agg #[.bool false,.int .i64 0,.bool false,.int .i64 0]):=O0 (b:=32) (by kernel_rfl) rfl
theorem qP:Inf Tryz.prog 172 1 (.agg #[.slice none 0 0]):=O0 (b:=24) (by kernel_rfl) rfl
theorem pJ:Inf Tryz.prog 191 2 (.agg #[.int .i64 0,.int .i64 0]):=O0 (b:=16) (by kernel_rfl) rfl
theorem JV:Inf Tryz.prog 141 1 (.agg #[.slice none 0 0]):=O0 (b:=24) (by kernel_rfl) rfl
theorem qQ:Inf Tryz.prog 121 4 (.agg #[.int .i64 0,.int .i64 0,.int .i64 0,.int .i64 0]):=O0 (b:=32) (by kernel_rfl) rfl
theorem bN:Inf Tryz.prog 125 21 (.agg #[.bool false,.int .i64 0,.int .i64 0,.int .i64 0,.int .i64 0,.int .i64 0,.int .i64 0,.int .i64 0,.int .i64 0,.int .i64 0,.int .i64 0,.int .i64 0,.int .i64 0,.int .i64 0,.int .i64 0,.int .i64 0,.bool false,.int .i64 0,.int .i64 0,.int .i64 0,.int .i64 0]):=O0 (b:=168) (by kernel_rfl) rfl
theorem cS:Inf Tryz.prog 128 7 (.agg #[.int .i64 0,.int .i64 0,.int .i64 0,.int .i64 0,.int .i64 0,.int .i64 0,.int .i64 0]):=O0 (b:=56) (by kernel_rfl) rfl
theorem aSH:Inf Tryz.prog 5 1 (.int .u8 0):=O0 (b:=1) (by kernel_rfl) rfl
theorem aWS:Inf Tryz.prog 43 1 (.slice none 0 0):=O0 (b:=24) (by kernel_rfl) rfl
theorem aL:Tryz.prog.follows .mixedOrders=true:=by kernel_rfl
theorem aLT(D:Nat)(d d':cQ)(w:World):(Op.eqFields (D+2) #[.bool (d.On),.int .i64 (d.aJ),.bool (d.jD),.int .i64 (d.Seen)] #[.bool (d'.On),.int .i64 (d'.aJ),.bool (d'.jD),.int .i64 (d'.Seen)] (match Tryz.prog.underlying 168 with | some (.struct fs)=>fs | _=>#[]).toList).run Tryz.prog w=.ok (decide (d=d')) w:=by
  rw [Tryz.underlying168]
  have h:(d.On == d'.On && (d.aJ == d'.aJ && (d.jD == d'.jD && (d.Seen == d'.Seen && true))))=decide (d=d'):=by
    cases d;cases d';rw [Bool.eq_iff_iff];simp
  rw [←h]
  exact bY _ _ _ _ _ rfl (cA Tryz.isAgg4 rfl) (cA Tryz.isAgg4 rfl) (SK Tryz.underlying4)<|
    bY _ _ _ _ _ rfl (cA Tryz.isAgg3 rfl) (cA Tryz.isAgg3 rfl) (fL Tryz.underlying3)<|
    bY _ _ _ _ _ rfl (cA Tryz.isAgg4 rfl) (cA Tryz.isAgg4 rfl) (SK Tryz.underlying4)<|
    bY _ _ _ _ _ rfl (cA Tryz.isAgg3 rfl) (cA Tryz.isAgg3 rfl) (fL Tryz.underlying3)<|
    KJ _ _ _
set_option maxRecDepth 100000 in
theorem aAO{w0:World}{n:Int}(hn:0≤n∧n≤1073741824) :
    Calls Tryz.prog 373 #[.slice none 0 0,.int .i64 n] w0 (Ret fun v w'=>∃s0_0:Value,v=s0_0∧St (gA w0) w' [bH [s0_0] ([]:List Raw)] []):=by
  have hS:St (gA w0) w0 [] []:=St.enter (by intro f hf;cases hf)
  have hw:aI (n - aI (0 - 0))=n:=by
    rw [O2 (x:=0 - 0) (by omega),O2 (by omega)];omega
  refine aZS (args:=[_,_]) Tryz.func373 rfl Tryz.ntmps373 rfl ?_
  intro a hA
  refine eT ?_
  refine gN hA ?_
  clear hA
  refine nX (RM rfl rfl) (fC rfl) rfl rfl ?_
  refine dY ?_
  intro a hA
  refine eT ?_
  refine eT ?_
  refine gN hA ?_
  clear hA
  refine nX (C5 rfl rfl) (fC rfl) rfl rfl ?_
  refine nX (T9 rfl rfl rfl) (fC rfl) rfl rfl ?_
  refine dY ?_
  intro a hA
  refine zW hA rfl (fun hc=>?_) (fun hc=>?_)
  · exfalso;simp at hc;omega
  refine EF ?_
  refine eT ?_
  refine eT ?_
  refine gN hA ?_
  clear hA
  refine nX (C5 rfl rfl) (fC rfl) rfl rfl ?_
  refine nX (C5 rfl rfl) (fC rfl) rfl rfl ?_
  refine nX (aR8 Tryz.underlying43 rfl rfl) (fC rfl) rfl rfl ?_
  refine nX (C5 rfl rfl) (fC rfl) rfl rfl ?_
  refine nX (EG (aZW (α:=Raw) (S:=F0)) Tryz.underlying43 rfl rfl) (fC rfl) rfl rfl ?_
  refine nX (aV4 rfl rfl rfl) (fC rfl) rfl rfl ?_
  refine nX (aV4 rfl rfl rfl) (fC rfl) rfl rfl ?_
  refine nX (RM rfl rfl) (fC rfl) rfl rfl ?_
  refine dY ?_
  intro a hA
  refine eT ?_
  refine gN hA ?_
  clear hA
  refine nX (C5 rfl rfl) (fC rfl) rfl rfl ?_
  refine nX (aV7 rfl rfl rfl) (fC rfl) rfl rfl ?_
  refine dY ?_
  intro a hA
  refine zW hA rfl (fun hc=>?_) (fun hc=>?_)
  · have hn1:0 < n:=by
      have h2:decide (0 < aI (n - aI (0 - 0)))=true:=hc
      rw [hw] at h2;simpa using h2
    refine gN hA ?_
    clear hA
    refine nX (C5 rfl rfl) (fC rfl) rfl rfl ?_
    refine nX (C5 rfl rfl) (fC rfl) rfl rfl ?_
    refine nX (aR8 Tryz.underlying43 rfl rfl) (fC rfl) rfl rfl ?_
    refine nX (aXM (s:=.slice none 0 0) ⟨_,_,_,rfl⟩ Tryz.underlying43 Tryz.sizeOf166 rfl rfl rfl) (fC rfl) rfl rfl ?_
    refine nX (C5 rfl rfl) (fC rfl) rfl rfl ?_
    refine Y9 (a3F (i:=aI (n - aI (0 - 0))) hS Tryz.underlying43 Tryz.underlying3 dN rfl rfl (by rw [hw];omega) rfl rfl rfl) (fC rfl) rfl rfl ?_
    clear hS
    intro s w hS
    refine nX (C5 rfl rfl) (fC rfl) rfl rfl ?_
    refine nX (EG (aZW (α:=Raw) (S:=F0)) Tryz.underlying43 rfl rfl) (fC rfl) rfl rfl ?_
    refine nX (aXM (hS.a0F 0 rfl) Tryz.underlying43 Tryz.sizeOf166 rfl rfl rfl) (fC rfl) rfl rfl ?_
    refine nX (RM rfl rfl) (fC rfl) rfl rfl ?_
    refine dY ?_
    intro a hA
    replace hS:=hS.a5R (α:=Raw) 0 rfl rfl
    refine eT ?_
    refine gN hA ?_
    clear hA
    refine nX (C5 rfl rfl) (fC rfl) rfl rfl ?_
    refine nX (RM rfl rfl) (fC rfl) rfl rfl ?_
    refine dY ?_
    intro a hA
    refine NT ?_
    exact a23 Tryz.results373 hA (aNH rfl) ⟨_,rfl,(hS.sel [0] rfl).weaken (R':=[]) (fun _ h=>nomatch h)⟩
  · refine EF ?_
    replace hS:=hS.a5L (α:=Raw)
    refine eT ?_
    refine gN hA ?_
    clear hA
    refine nX (C5 rfl rfl) (fC rfl) rfl rfl ?_
    refine nX (RM rfl rfl) (fC rfl) rfl rfl ?_
    refine dY ?_
    intro a hA
    refine NT ?_
    exact a23 Tryz.results373 hA (aNH rfl) ⟨_,rfl,(hS.sel [0] rfl).weaken (R':=[]) (fun _ h=>nomatch h)⟩
theorem aDQ{w0:World}{slices:List (List Raw)}{s1:Value}{r:(List Raw)}(h1:bC.rd (Z6 w0) w0 [s1] (slices:List (List Raw)))(hF:EI slices=some r) :
    Calls Tryz.prog 331 #[s1] w0 (Ret fun v w'=>∃(s0_0:Value),v=s0_0∧St (gA w0) w' [bH [s0_0] (r:List Raw)] []):=by
 have hS:St (gA w0) w0 [] [OZ [s1] (slices:List (List Raw))]:=St.enter (by
   intro f hf
   simp only [List.mem_cons,List.not_mem_nil,or_false] at hf
   subst hf;exact h1)
 refine ON (args:=[_]) Tryz.func331 rfl Tryz.ntmps331 rfl ?_
 unfold EI at hF
 intro a hA
 refine eT<|gN hA ?_
 clear hA
 refine oa rfl rfl<|dY fun a hA=>eT<|gN hA ?_
 clear hA
 refine oa rfl rfl<|dY fun a hA=>eT<|eT<|gN hA ?_
 clear hA
 refine om rfl rfl<|oy (EG (hS.rd 0 rfl) Tryz.underlying331 rfl rfl) rfl<|om rfl rfl<|dY fun a hA=>?_
 obtain⟨o1,hl1,hF⟩:=I3 hF
 refine RN (J:=fun a' w'=>∃(x5:Int),o1=x5∧zQ 36 [(0,s1),(3,.int .i64 (x5))] a'∧St (gA w0) w' [] [OZ [s1] (slices:List (List Raw))]) ?_ ?_
 ·refine zR ?_
  refine X6 (body:=pN slices) (r:=o1) (fun sg a' w'=>zQ 36 [(0,s1),(3,.int .i64 (sg.1)),(9,s1),(10,.int .i64 ((slices.length:Int))),(11,.int .i64 (sg.2))] a'∧St (gA w0) w' [] [OZ [s1] (slices:List (List Raw))]) ?_ hl1 ⟨hA.part ⟨rfl,rfl,rfl,rfl,rfl,trivial⟩,((hS).sel [] rfl).KI [0] rfl⟩
  clear hA hS hl1
  rintro⟨x3,x4⟩ a w q1 ⟨hA,hS⟩ hG1 hr1
  try dsimp only at hA hS
  unfold pN at hG1
  refine eT<|gN hA ?_
  clear hA
  refine oy (T9 rfl rfl rfl) rfl<|dY fun a hA=>eT<|zW hA rfl (fun hc2=>?_) (fun hc2=>?_)
  ·replace hG1:=Z9 hc2 hG1
   refine EF<|eT<|zR<|eT<|gN hA ?_
   clear hA
   obtain⟨x12,hx12,hG1⟩:=I3 hG1
   refine oy (aD0 (m:=1) (hS.rd 0 rfl) rfl hx12 Tryz.underlying331 Tryz.sizeOf43 rfl rfl rfl) rfl ?_
   obtain⟨s8,hel,hS⟩:=hS.aUL 0 rfl (xI hx12).2.2
   refine oy (uL rfl rfl Tryz.isAgg43 (aZV hel)) rfl<|oa rfl rfl<|dY fun a hA=>eT<|gN hA ?_
   clear hA
   refine om rfl rfl<|om rfl rfl<|oy (EG (hS.rd 1 rfl) Tryz.underlying43 rfl rfl) rfl<|oy (ZA rfl rfl rfl) rfl<|oa rfl rfl<|dY fun a hA=>eT<|gN hA ?_
   clear hA
   refine om rfl rfl<|oy (T9 rfl rfl rfl) rfl<|dY fun a hA=>zW hA rfl (fun hc3=>?_) (fun hc3=>?_)
   ·replace hG1:=Z9 hc3 hG1
    refine gN hA ?_
    clear hA
    cases hG1
   ·replace hG1:=aAA hc3 hG1
    refine EF<|gN hA ?_
    clear hA
    refine oy (ZA rfl rfl rfl) rfl<|om rfl rfl<|dY fun a hA=>?_
    cases hG1
    exact⟨_,rfl,⟨hA.part ⟨rfl,rfl,rfl,rfl,rfl,trivial⟩,((hS).sel [] rfl).KI [0] rfl⟩⟩
  ·replace hG1:=aAA hc2 hG1
   refine X5<|RL ?_
   cases hG1
   have ho:=hr1 _ rfl;subst ho
   exact⟨x3,rfl,hA.part ⟨rfl,rfl,trivial⟩,((hS).sel [] rfl).KI [0] rfl⟩
 ·skip
  clear hA hS hl1
  rintro a w ⟨x5,heq,hA,hS⟩
  replace hF:z6 slices x5=some r:=by rw [heq] at hF;exact hF
  clear heq
  unfold z6 at hF
  refine eT<|gN hA ?_
  clear hA
  refine om rfl rfl ?_
  obtain⟨hn1,hF⟩:=uM hF
  refine aLP (X9 Tryz.call373 rfl rfl) (fC rfl) rfl rfl (aAO hn1) ?_
  rintro s2 w ⟨_,rfl,hk⟩
  replace hS:=hS.after hk;clear hk
  refine oa rfl rfl<|dY fun a hA=>eT<|eT<|gN hA ?_
  clear hA
  refine om rfl rfl<|oy (EG (hS.rd 0 rfl) Tryz.underlying331 rfl rfl) rfl<|om rfl rfl<|dY fun a hA=>?_
  obtain⟨o2,hl2,hF⟩:=I3 hF
  refine RN (J:=fun a' w'=>∃(x10:List Raw) (s5:Value),o2=x10∧zQ 36 [(6,s5)] a'∧St (gA w0) w' [bH [s5] (x10:List Raw)] []) ?_ ?_
  ·refine zR ?_
   refine X6 (body:=rY slices) (r:=o2) (fun sg a' w'=>∃(s4:Value),zQ 36 [(6,s4),(25,s1),(26,.int .i64 ((slices.length:Int))),(27,.int .i64 (sg.2))] a'∧St (gA w0) w' [bH [s4] (sg.1:List Raw)] [OZ [s1] (slices:List (List Raw))]) ?_ hl2 ⟨s2,hA.part ⟨rfl,rfl,rfl,rfl,trivial⟩,((hS).sel [0] rfl).KI [0] rfl⟩
   clear hA hS hl2
   rintro⟨x8,x9⟩ a w q2 ⟨s4,hA,hS⟩ hG2 hr2
   try dsimp only at hA hS
   unfold rY at hG2
   refine eT<|gN hA ?_
   clear hA
   refine oy (T9 rfl rfl rfl) rfl<|dY fun a hA=>eT<|zW hA rfl (fun hc1=>?_) (fun hc1=>?_)
   ·replace hG2:=Z9 hc1 hG2
    refine EF<|eT<|zR<|eT<|gN hA ?_
    clear hA
    obtain⟨x11,hx11,hG2⟩:=I3 hG2
    refine oy (aD0 (m:=1) (hS.rd 0 rfl) rfl hx11 Tryz.underlying331 Tryz.sizeOf43 rfl rfl rfl) rfl ?_
    obtain⟨s6,hel,hS⟩:=hS.aUL 0 rfl (xI hx11).2.2
    refine oy (uL rfl rfl Tryz.isAgg43 (aZV hel)) rfl<|oa rfl rfl<|dY fun a hA=>gN hA ?_
    clear hA
    refine om rfl rfl<|om rfl rfl ?_
    obtain⟨hn2,hG2⟩:=uM hG2
    refine Y9 (aR4 (α:=Raw) 0 hS rfl (hS.rd 1 rfl) rfl Tryz.underlying43 dN rfl hn2 rfl rfl rfl) (fC rfl) rfl rfl ?_
    clear hS
    rintro s7 w hS
    refine oa rfl rfl<|dY fun a hA=>gN hA ?_
    clear hA
    refine oy (ZA rfl rfl rfl) rfl<|om rfl rfl<|dY fun a hA=>?_
    cases hG2
    exact⟨_,rfl,⟨s7,hA.part ⟨rfl,rfl,rfl,rfl,trivial⟩,((hS).sel [0] rfl).KI [0] rfl⟩⟩
   ·replace hG2:=aAA hc1 hG2
    refine X5<|RL ?_
    cases hG2
    have ho:=hr2 _ rfl;subst ho
    exact⟨x8,s4,rfl,hA.part ⟨rfl,trivial⟩,((hS).sel [0] rfl).KI [] rfl⟩
  ·skip
   clear hA hS hl2
   rintro a w ⟨x10,s5,heq,hA,hS⟩
   replace hF:GL x10=some r:=by rw [heq] at hF;exact hF
   clear heq
   unfold GL at hF
   refine eT<|gN hA ?_
   clear hA
   refine om rfl rfl<|oa rfl rfl<|dY fun a hA=>NT ?_
   cases hF
   exact a23 Tryz.results331 hA (aNH rfl) ⟨s5,rfl,(hS.sel [0] rfl).weaken (R':=[]) (fun _ h=>nomatch h)⟩
theorem ZM{w0:World}{n:Int}{low:Int}{high:Int}{r:Bool}(hF:fO n low high=some r) :
    Calls Tryz.prog 115 #[.int .i64 (n),.int .i64 (low),.int .i64 (high)] w0 (Ret fun v w'=>v=.bool (r)∧St (gA w0) w' [] []):=by
 have hS:St (gA w0) w0 [] []:=St.enter (by
   intro f hf;cases hf)
 refine ON (args:=[_,_,_]) Tryz.func115 rfl Tryz.ntmps115 rfl ?_
 unfold fO at hF
 intro a hA
 refine eT<|gN hA ?_
 clear hA
 refine oa rfl rfl<|dY fun a hA=>eT<|RN (J:=fun a' w'=>∃(x1:Bool),E6 x1=some r∧zQ 15 [(6,.bool (x1))] a'∧St (gA w0) w' [] []) ?_ ?_
 ·skip
  refine gN hA ?_
  clear hA
  refine om rfl rfl<|om rfl rfl<|oy (aZO rfl rfl rfl) rfl<|om rfl rfl<|V7 (s:=10) rfl (fun hc1=>?_) (fun hc1=>?_)
  ·replace hF:=Z9 hc1 hF
   refine nX (C5 rfl rfl) (gC rfl rfl rfl (by rw [hc1];rfl)) rfl rfl ?_
   refine nX (C5 rfl rfl) (gC rfl rfl rfl (by rw [hc1];rfl)) rfl rfl ?_
   refine nX (aV6 rfl rfl rfl) (gC rfl rfl rfl (by rw [hc1];rfl)) rfl rfl ?_
   refine oy (KH rfl rfl hc1 rfl) rfl<|oa rfl rfl<|dY fun a hA=>?_
   exact⟨decide (n≤high),hF,hA.part ⟨rfl,trivial⟩,((hS).sel [] rfl).KI [] rfl⟩
  ·replace hF:=aAA hc1 hF
   refine o7 (gC rfl rfl rfl (by rw [hc1];rfl)) rfl rfl ?_
   refine o7 (gC rfl rfl rfl (by rw [hc1];rfl)) rfl rfl ?_
   refine o7 (gC rfl rfl rfl (by rw [hc1];rfl)) rfl rfl ?_
   refine oy (OM rfl rfl hc1 rfl) rfl<|oa rfl rfl<|dY fun a hA=>?_
   exact⟨false,hF,hA.part ⟨rfl,trivial⟩,((hS).sel [] rfl).KI [] rfl⟩
 ·skip
  clear hA hS hF
  rintro a w ⟨x1,hF,hA,hS⟩
  unfold E6 at hF
  refine NT ?_
  cases hF
  exact fy Tryz.results115 hA rfl hS
theorem aQ6{w0:World}{slot:Int}{r:Bool}(hF:AM slot=some r) :
    Calls Tryz.prog 332 #[.int .i64 (slot)] w0 (Ret fun v w'=>v=.bool (r)∧St (gA w0) w' [] []):=by
 have hS:St (gA w0) w0 [] []:=St.enter (by
   intro f hf;cases hf)
 refine ON (args:=[_]) Tryz.func332 rfl Tryz.ntmps332 rfl ?_
 unfold AM at hF
 intro a hA
 refine eT<|gN hA ?_
 clear hA
 refine oa rfl rfl<|dY fun a hA=>eT<|gN hA ?_
 clear hA
 refine om rfl rfl ?_
 obtain⟨x1,hx1,hF⟩:=I3 hF
 refine aLP (X9 Tryz.call115 rfl rfl) (fC rfl) rfl rfl (ZM (n:=slot) (low:=0) (high:=23) hx1) ?_
 rintro _ w ⟨rfl,hk⟩
 replace hS:=hS.after hk;clear hk
 refine oa rfl rfl<|dY fun a hA=>NT ?_
 cases hF
 exact fy Tryz.results332 hA rfl hS
theorem aO4{w0:World}{l:aB}{s1:Value}{s2:Value}{r:Bool}(h1:bC.rd (Z6 w0) w0 [s1] (l.Global:List aG))(h2:bC.rd (Z6 w0) w0 [s2] (l.bA:List aG))(hF:w6 l=some r) :
    Calls Tryz.prog 271 #[.agg #[s1,s2]] w0 (Ret fun v w'=>v=.bool (r)∧St (gA w0) w' [] []):=by
 have hS:St (gA w0) w0 [] [OZ [s1] (l.Global:List aG),OZ [s2] (l.bA:List aG)]:=St.enter (by
   intro f hf
   simp only [List.mem_cons,List.not_mem_nil,or_false] at hf
   rcases hf with rfl | rfl
   · exact h1
   · exact h2)
 refine ON (args:=[_]) Tryz.func271 rfl Tryz.ntmps271 rfl ?_
 unfold w6 at hF
 intro a hA
 refine eT<|gN hA ?_
 clear hA
 refine Y9 (a5I (cs:=[s1,s2]) hS rfl rfl rfl) (fC rfl) rfl rfl ?_
 clear hS
 rintro _ w ⟨b1,rfl,hS⟩
 refine oa rfl rfl<|dY fun a hA=>eT<|eT<|RN (J:=fun a' w'=>∃(x1:Bool),HV l x1=some r∧zQ 61 [(1,.pointer (some ⟨b1,0,none⟩)),(17,.bool (x1))] a'∧St (gA w0) w' [RE b1 [s1,s2]] [OZ [s1] (l.Global:List aG),OZ [s2] (l.bA:List aG)]) ?_ ?_
 ·skip
  refine gN hA ?_
  clear hA
  refine oy (NU (m:=0) Tryz.underlying45 rfl rfl Tryz.sizeOf43 rfl rfl) rfl<|oy (uL rfl rfl Tryz.isAgg43 (hS.cell 0 rfl rfl)) rfl<|oy (EG (hS.rd 0 rfl) Tryz.underlying43 rfl rfl) rfl<|oy (aSX rfl rfl rfl) rfl<|om rfl rfl<|V7 (s:=12) rfl (fun hc8=>?_) (fun hc8=>?_)
  ·replace hF:=Z9 hc8 hF
   refine o7 (gC rfl rfl rfl (by rw [hc8];rfl)) rfl rfl ?_
   refine o7 (gC rfl rfl rfl (by rw [hc8];rfl)) rfl rfl ?_
   refine o7 (gC rfl rfl rfl (by rw [hc8];rfl)) rfl rfl ?_
   refine o7 (gC rfl rfl rfl (by rw [hc8];rfl)) rfl rfl ?_
   refine oy (KH rfl rfl hc8 rfl) rfl<|dY fun a hA=>?_
   exact⟨true,hF,hA.part ⟨rfl,rfl,trivial⟩,((hS).sel [0] rfl).KI [0,1] rfl⟩
  ·replace hF:=aAA hc8 hF
   refine nX (NU (m:=0) Tryz.underlying45 rfl rfl Tryz.sizeOf43 rfl rfl) (gC rfl rfl rfl (by rw [hc8];rfl)) rfl rfl ?_
   refine nX (uL rfl rfl Tryz.isAgg43 (hS.cell 0 rfl rfl)) (gC rfl rfl rfl (by rw [hc8];rfl)) rfl rfl ?_
   refine nX (EG (hS.rd 1 rfl) Tryz.underlying43 rfl rfl) (gC rfl rfl rfl (by rw [hc8];rfl)) rfl rfl ?_
   refine nX (aSX rfl rfl rfl) (gC rfl rfl rfl (by rw [hc8];rfl)) rfl rfl ?_
   refine oy (OM rfl rfl hc8 rfl) rfl<|dY fun a hA=>?_
   exact⟨(l.bA.length:Int) != 9,hF,hA.part ⟨rfl,rfl,trivial⟩,((hS).sel [0] rfl).KI [0,1] rfl⟩
 ·skip
  clear hA hS hF
  rintro a w ⟨x1,hF,hA,hS⟩
  unfold HV at hF
  refine zW hA rfl (fun hc1=>?_) (fun hc1=>?_)
  ·replace hF:=Z9 hc1 hF
   refine eT<|gN hA ?_
   clear hA
   refine oa rfl rfl<|dY fun a hA=>NT ?_
   cases hF
   exact fy Tryz.results271 hA rfl hS
  ·replace hF:=aAA hc1 hF
   refine EF<|eT<|gN hA ?_
   clear hA
   refine oy (aKE (cells:=#[.bool (false),.bool (false),.bool (false),.bool (false),.bool (false),.bool (false),.bool (false),.bool (false),.bool (false),.bool (false),.bool (false),.bool (false),.bool (false),.bool (false),.bool (false),.bool (false),.bool (false),.bool (false),.bool (false),.bool (false),.bool (false),.bool (false),.bool (false),.bool (false)]) rfl Tryz.zeroValue271 Tryz.underlying271 Tryz.sizeOf4 rfl rfl) rfl<|Y9 (Z8 (cs:=List.map (fun q:Bool=>Value.bool q) [false,false,false,false,false,false,false,false,false,false,false,false,false,false,false,false,false,false,false,false,false,false,false,false]) hS rfl Tryz.zeroValue271 rfl) (fC rfl) rfl rfl ?_
   clear hS
   rintro _ w ⟨b2,rfl,hS⟩
   refine aDY (aHA (vs:=[.bool (false),.bool (false),.bool (false),.bool (false),.bool (false),.bool (false),.bool (false),.bool (false),.bool (false),.bool (false),.bool (false),.bool (false),.bool (false),.bool (false),.bool (false),.bool (false),.bool (false),.bool (false),.bool (false),.bool (false),.bool (false),.bool (false),.bool (false),.bool (false)]) hS (i:=1) rfl rfl rfl rfl rfl Tryz.sizeOf271 rfl rfl rfl) (fC rfl) rfl ?_
   clear hS
   intro w hS
   refine dY fun a hA=>eT<|eT<|gN hA ?_
   clear hA
   refine oy (NU (m:=0) Tryz.underlying45 rfl rfl Tryz.sizeOf43 rfl rfl) rfl<|oy (uL rfl rfl Tryz.isAgg43 (hS.cell 0 rfl rfl)) rfl<|oy (NU (m:=0) Tryz.underlying45 rfl rfl Tryz.sizeOf43 rfl rfl) rfl<|oy (uL rfl rfl Tryz.isAgg43 (hS.cell 0 rfl rfl)) rfl<|Y9 (aWC hS (hS.rd 1 rfl) (hS.rd 0 rfl) Tryz.underlying331 aWS rfl rfl rfl) (fC rfl) rfl rfl ?_
   clear hS
   rintro s3 w hS
   obtain⟨hn1,hF⟩:=uM hF
   replace hS:=hS.a64 2 rfl
   obtain⟨u1,u2,hu1,hl1,hS⟩:=hS.a3G rfl 2 1 0 rfl rfl rfl
   refine aLP (X9 Tryz.call331 rfl rfl) (fC rfl) rfl rfl (aDQ hu1 (aAJ hl1 hn1)) ?_
   rintro s4 w ⟨_,rfl,hk⟩
   replace hS:=hS.after hk;clear hk
   replace hS:=hS.a64 3 rfl
   replace hS:=hS.a7A rfl 4 3 rfl rfl
   refine oy (EG (hS.rd 5 rfl) Tryz.underlying43 rfl rfl) rfl<|om rfl rfl<|dY fun a hA=>?_
   obtain⟨o1,hl2,hF⟩:=I3 hF
   refine RN (J:=fun a' w'=>o1=Out.brk ()∧zQ 61 [] a'∧St (gA w0) w' [] []) ?_ ?_
   ·refine zR ?_
    refine X6 (body:=yY l) (r:=o1) (fun sg a' w'=>zQ 61 [(1,.pointer (some ⟨b1,0,none⟩)),(3,.pointer (some ⟨b2,0,none⟩)),(24,s4),(25,.int .i64 (((l.bA++l.Global).length:Int))),(26,.int .i64 (sg.1))] a'∧St (gA w0) w' [RE b1 [s1,s2],RE b2 (List.map (fun q:Bool=>Value.bool q) (sg.2:List Bool))] [OZ [s4] (l.bA++l.Global:List aG),OZ [s1] (l.Global:List aG),OZ [s2] (l.bA:List aG)]) ?_ hl2 ⟨hA.part ⟨rfl,rfl,rfl,rfl,rfl,trivial⟩,((hS).sel [0,1] rfl).KI [5,0,1] rfl⟩
    clear hA hS hl2
    rintro⟨x4,x5⟩ a w q2 ⟨hA,hS⟩ hG2 hr2
    try dsimp only at hA hS
    unfold yY at hG2
    refine eT<|gN hA ?_
    clear hA
    refine oy (T9 rfl rfl rfl) rfl<|dY fun a hA=>eT<|zW hA rfl (fun hc2=>?_) (fun hc2=>?_)
    ·replace hG2:=Z9 hc2 hG2
     refine EF<|eT<|zR<|eT<|gN hA ?_
     clear hA
     refine om rfl rfl ?_
     obtain⟨x6,hx6,hG2⟩:=I3 hG2
     refine oy (aD0 (m:=1) (hS.rd 0 rfl) rfl hx6 Tryz.underlying43 Tryz.sizeOf166 rfl rfl rfl) rfl ?_
     obtain⟨s5,hel,hS⟩:=hS.a1Y 0 rfl (xI hx6).2.2
     refine oy (aDZ rfl rfl Tryz.isAgg166 Tryz.sizeOf166 rfl hel) rfl<|Y9 (Z8 (cs:=[(.slice none 0 0)]) hS rfl Tryz.zeroValue166 rfl) (fC rfl) rfl rfl ?_
     clear hS
     rintro _ w ⟨b3,rfl,hS⟩
     refine oa rfl rfl<|aDY (aHA (vs:=[s5]) hS (i:=2) rfl rfl rfl rfl rfl Tryz.sizeOf166 rfl rfl (a5M (aN5 (hS.rd 3 rfl)) rfl)) (fC rfl) rfl ?_
     clear hS
     intro w hS
     refine dY fun a hA=>eT<|eT<|RN (J:=fun a' w'=>∃(x7:Bool),yX x4 x5 x6 x7=some q2∧zQ 61 [(1,.pointer (some ⟨b1,0,none⟩)),(3,.pointer (some ⟨b2,0,none⟩)),(5,.pointer (some ⟨b3,0,none⟩)),(24,s4),(25,.int .i64 (((l.bA++l.Global).length:Int))),(26,.int .i64 (x4)),(41,.bool (x7))] a'∧St (gA w0) w' [RE b1 [s1,s2],RE b2 (List.map (fun q:Bool=>Value.bool q) (x5:List Bool)),RE b3 [s5]] [OZ [s4] (l.bA++l.Global:List aG),OZ [s1] (l.Global:List aG),OZ [s2] (l.bA:List aG),OZ [s5] (x6.bB:List Int)]) ?_ ?_
     ·skip
      refine gN hA ?_
      clear hA
      refine om rfl rfl<|oy (NU (m:=0) Tryz.underlying45 rfl rfl Tryz.sizeOf43 rfl rfl) rfl<|oy (uL rfl rfl Tryz.isAgg43 (hS.cell 0 rfl rfl)) rfl<|oy (EG (hS.rd 2 rfl) Tryz.underlying43 rfl rfl) rfl<|oy (T9 rfl rfl rfl) rfl<|om rfl rfl<|V7 (s:=36) rfl (fun hc7=>?_) (fun hc7=>?_)
      ·replace hG2:=Z9 hc7 hG2
       refine nX (NU (m:=0) Tryz.underlying166 rfl rfl Tryz.sizeOf22 rfl rfl) (gC rfl rfl rfl (by rw [hc7];rfl)) rfl rfl ?_
       refine nX (uL rfl rfl Tryz.isAgg22 (hS.cell 2 rfl rfl)) (gC rfl rfl rfl (by rw [hc7];rfl)) rfl rfl ?_
       refine nX (EG (hS.rd 3 rfl) Tryz.underlying22 rfl rfl) (gC rfl rfl rfl (by rw [hc7];rfl)) rfl rfl ?_
       refine nX (aV7 rfl rfl rfl) (gC rfl rfl rfl (by rw [hc7];rfl)) rfl rfl ?_
       refine oy (KH rfl rfl hc7 rfl) rfl<|dY fun a hA=>?_
       exact⟨decide (2 < (x6.bB.length:Int)),hG2,hA.part ⟨rfl,rfl,rfl,rfl,rfl,rfl,rfl,trivial⟩,((hS).sel [0,1,2] rfl).KI [0,1,2,3] rfl⟩
      ·replace hG2:=aAA hc7 hG2
       refine o7 (gC rfl rfl rfl (by rw [hc7];rfl)) rfl rfl ?_
       refine o7 (gC rfl rfl rfl (by rw [hc7];rfl)) rfl rfl ?_
       refine o7 (gC rfl rfl rfl (by rw [hc7];rfl)) rfl rfl ?_
       refine o7 (gC rfl rfl rfl (by rw [hc7];rfl)) rfl rfl ?_
       refine oy (OM rfl rfl hc7 rfl) rfl<|dY fun a hA=>?_
       exact⟨false,hG2,hA.part ⟨rfl,rfl,rfl,rfl,rfl,rfl,rfl,trivial⟩,((hS).sel [0,1,2] rfl).KI [0,1,2,3] rfl⟩
     ·skip
      clear hA hS hG2
      rintro a w ⟨x7,hG2,hA,hS⟩
      unfold yX at hG2
      refine zW hA rfl (fun hc3=>?_) (fun hc3=>?_)
      ·replace hG2:=Z9 hc3 hG2
       refine eT<|gN hA ?_
       clear hA
       refine oa rfl rfl<|dY fun a hA=>NT ?_
       cases hG2
       have ho:=hr2 _ rfl;subst ho
       replace hF:some false=some r:=hF
       cases hF
       exact fy Tryz.results271 hA rfl hS
      ·replace hG2:=aAA hc3 hG2
       refine EF<|eT<|gN hA ?_
       clear hA
       refine oy (NU (m:=0) Tryz.underlying166 rfl rfl Tryz.sizeOf22 rfl rfl) rfl<|oy (uL rfl rfl Tryz.isAgg22 (hS.cell 2 rfl rfl)) rfl<|oy (EG (hS.rd 3 rfl) Tryz.underlying22 rfl rfl) rfl<|om rfl rfl<|dY fun a hA=>?_
       obtain⟨o2,hl3,hG2⟩:=I3 hG2
       refine RN (J:=fun a' w'=>∃(x12:List Bool),o2=Out.brk x12∧zQ 61 [(1,.pointer (some ⟨b1,0,none⟩)),(3,.pointer (some ⟨b2,0,none⟩)),(24,s4),(25,.int .i64 (((l.bA++l.Global).length:Int))),(26,.int .i64 (x4))] a'∧St (gA w0) w' [RE b1 [s1,s2],RE b2 (List.map (fun q:Bool=>Value.bool q) (x12:List Bool))] [OZ [s4] (l.bA++l.Global:List aG),OZ [s1] (l.Global:List aG),OZ [s2] (l.bA:List aG)]) ?_ ?_
       ·refine zR ?_
        refine X6 (body:=yW x6) (r:=o2) (fun sg a' w'=>zQ 61 [(1,.pointer (some ⟨b1,0,none⟩)),(3,.pointer (some ⟨b2,0,none⟩)),(24,s4),(25,.int .i64 (((l.bA++l.Global).length:Int))),(26,.int .i64 (x4)),(43,s5),(44,.int .i64 ((x6.bB.length:Int))),(45,.int .i64 (sg.1))] a'∧St (gA w0) w' [RE b1 [s1,s2],RE b2 (List.map (fun q:Bool=>Value.bool q) (sg.2:List Bool))] [OZ [s4] (l.bA++l.Global:List aG),OZ [s5] (x6.bB:List Int),OZ [s1] (l.Global:List aG),OZ [s2] (l.bA:List aG)]) ?_ hl3 ⟨hA.part ⟨rfl,rfl,rfl,rfl,rfl,rfl,rfl,rfl,trivial⟩,((hS).sel [0,1] rfl).KI [0,3,1,2] rfl⟩
        clear hA hS hl3
        rintro⟨x10,x11⟩ a w q4 ⟨hA,hS⟩ hG4 hr4
        try dsimp only at hA hS
        unfold yW at hG4
        refine eT<|gN hA ?_
        clear hA
        refine oy (T9 rfl rfl rfl) rfl<|dY fun a hA=>eT<|zW hA rfl (fun hc4=>?_) (fun hc4=>?_)
        ·replace hG4:=Z9 hc4 hG4
         refine EF<|eT<|zR<|eT<|gN hA ?_
         clear hA
         obtain⟨x13,hx13,hG4⟩:=I3 hG4
         refine oy (aD0 (m:=1) (hS.rd 1 rfl) rfl hx13 Tryz.underlying22 Tryz.sizeOf3 rfl rfl rfl) rfl<|oy (uL rfl rfl Tryz.isAgg3 (aZV (a5K (hS.rd 1 rfl) (xI hx13).2.2))) rfl<|oa rfl rfl<|dY fun a hA=>eT<|eT<|RN (J:=fun a' w'=>∃(x14:Bool),CS x10 x11 x13 x14=some q4∧zQ 61 [(1,.pointer (some ⟨b1,0,none⟩)),(3,.pointer (some ⟨b2,0,none⟩)),(7,.int .i64 (x13)),(24,s4),(25,.int .i64 (((l.bA++l.Global).length:Int))),(26,.int .i64 (x4)),(43,s5),(44,.int .i64 ((x6.bB.length:Int))),(45,.int .i64 (x10)),(56,.bool (x14))] a'∧St (gA w0) w' [RE b1 [s1,s2],RE b2 (List.map (fun q:Bool=>Value.bool q) (x11:List Bool))] [OZ [s4] (l.bA++l.Global:List aG),OZ [s5] (x6.bB:List Int),OZ [s1] (l.Global:List aG),OZ [s2] (l.bA:List aG)]) ?_ ?_
         ·skip
          refine gN hA ?_
          clear hA
          refine om rfl rfl ?_
          obtain⟨x16,hx16,hG4⟩:=I3 hG4
          refine aLP (X9 Tryz.call332 rfl rfl) (fC rfl) rfl rfl (aQ6 (slot:=x13) hx16) ?_
          rintro _ w ⟨rfl,hk⟩
          replace hS:=hS.after hk;clear hk
          refine oy (aNX rfl rfl) rfl<|om rfl rfl<|V7 (s:=52) rfl (fun hc6=>?_) (fun hc6=>?_)
          ·replace hG4:=Z9 hc6 hG4
           refine o7 (gC rfl rfl rfl (by rw [hc6];rfl)) rfl rfl ?_
           refine o7 (gC rfl rfl rfl (by rw [hc6];rfl)) rfl rfl ?_
           refine o7 (gC rfl rfl rfl (by rw [hc6];rfl)) rfl rfl ?_
           refine oy (KH rfl rfl hc6 rfl) rfl<|dY fun a hA=>?_
           exact⟨true,hG4,hA.part ⟨rfl,rfl,rfl,rfl,rfl,rfl,rfl,rfl,rfl,rfl,trivial⟩,((hS).sel [0,1] rfl).KI [0,1,2,3] rfl⟩
          ·replace hG4:=aAA hc6 hG4
           refine nX (C5 rfl rfl) (gC rfl rfl rfl (by rw [hc6];rfl)) rfl rfl ?_
           obtain⟨hn3,hG4⟩:=uM hG4
           refine nX (aNJ Tryz.underlying271 Tryz.sizeOf4 hn3 rfl rfl rfl) (gC rfl rfl rfl (by rw [hc6];rfl)) rfl rfl ?_
           obtain⟨x17,hx17,hG4⟩:=I3 hG4
           refine nX (uL rfl rfl Tryz.isAgg4 (hS.aXL 1 rfl hx17)) (gC rfl rfl rfl (by rw [hc6];rfl)) rfl rfl ?_
           refine oy (OM rfl rfl hc6 rfl) rfl<|dY fun a hA=>?_
           exact⟨x17,hG4,hA.part ⟨rfl,rfl,rfl,rfl,rfl,rfl,rfl,rfl,rfl,rfl,trivial⟩,((hS).sel [0,1] rfl).KI [0,1,2,3] rfl⟩
         ·skip
          clear hA hS hG4
          rintro a w ⟨x14,hG4,hA,hS⟩
          unfold CS at hG4
          refine zW hA rfl (fun hc5=>?_) (fun hc5=>?_)
          ·replace hG4:=Z9 hc5 hG4
           refine eT<|gN hA ?_
           clear hA
           refine oa rfl rfl<|dY fun a hA=>NT ?_
           cases hG4
           have ho:=hr4 _ rfl;subst ho
           replace hG2:some (.stop (Out.ret false))=some q2:=hG2
           cases hG2
           have ho:=hr2 _ rfl;subst ho
           replace hF:some false=some r:=hF
           cases hF
           exact fy Tryz.results271 hA rfl hS
          ·replace hG4:=aAA hc5 hG4
           refine EF<|gN hA ?_
           clear hA
           refine om rfl rfl ?_
           obtain⟨hn2,hG4⟩:=uM hG4
           refine oy (aNJ Tryz.underlying271 Tryz.sizeOf4 hn2 rfl rfl rfl) rfl ?_
           obtain⟨x15,hx15,hG4⟩:=I3 hG4
           refine aDY (a0B (xd:=true) hS (m:=1) rfl hx15 Tryz.sizeOf4 rfl rfl rfl rfl rfl rfl) (fC rfl) rfl ?_
           clear hS
           intro w hS
           refine dY fun a hA=>gN hA ?_
           clear hA
           refine oy (ZA rfl rfl rfl) rfl<|om rfl rfl<|dY fun a hA=>?_
           cases hG4
           exact⟨_,rfl,⟨hA.part ⟨rfl,rfl,rfl,rfl,rfl,rfl,rfl,rfl,trivial⟩,((hS).sel [0,1] rfl).KI [0,1,2,3] rfl⟩⟩
        ·replace hG4:=aAA hc4 hG4
         refine X5<|RL ?_
         cases hG4
         have ho:=hr4 _ rfl;subst ho
         exact⟨x11,rfl,hA.part ⟨rfl,rfl,rfl,rfl,rfl,trivial⟩,((hS).sel [0,1] rfl).KI [0,2,3] rfl⟩
       ·skip
        clear hA hS hl3
        rintro a w ⟨x12,heq,hA,hS⟩
        replace hG2:NA x4 x12=some q2:=by rw [heq] at hG2;exact hG2
        clear heq
        unfold NA at hG2
        refine gN hA ?_
        clear hA
        refine oy (ZA rfl rfl rfl) rfl<|om rfl rfl<|dY fun a hA=>?_
        cases hG2
        exact⟨_,rfl,⟨hA.part ⟨rfl,rfl,rfl,rfl,rfl,trivial⟩,((hS).sel [0,1] rfl).KI [0,1,2] rfl⟩⟩
    ·replace hG2:=aAA hc2 hG2
     refine X5<|RL ?_
     cases hG2
     have ho:=hr2 _ rfl;subst ho
     exact⟨rfl,hA.part trivial,((hS).sel [] rfl).KI [] rfl⟩
   ·skip
    clear hA hS hl2
    rintro a w ⟨heq,hA,hS⟩
    replace hF:UK=some r:=by rw [heq] at hF;exact hF
    clear heq
    unfold UK at hF
    refine eT<|gN hA ?_
    clear hA
    refine oa rfl rfl<|dY fun a hA=>NT ?_
    cases hF
    exact fy Tryz.results271 hA rfl hS
theorem aMS{w0:World}{h:Int}{r:Bool}(hF:rU h=some r) :
    Calls Tryz.prog 202 #[.int .i64 (h)] w0 (Ret fun v w'=>v=.bool (r)∧St (gA w0) w' [] []):=by
 have hS:St (gA w0) w0 [] []:=St.enter (by
   intro f hf;cases hf)
 refine ON (args:=[_]) Tryz.func202 rfl Tryz.ntmps202 rfl ?_
 unfold rU at hF
 intro a hA
 refine eT<|gN hA ?_
 clear hA
 refine oa rfl rfl<|dY fun a hA=>eT<|RN (J:=fun a' w'=>∃(x1:Bool),AY x1=some r∧zQ 10 [(2,.bool (x1))] a'∧St (gA w0) w' [] []) ?_ ?_
 ·skip
  refine gN hA ?_
  clear hA
  refine om rfl rfl ?_
  obtain⟨x2,hx2,hF⟩:=I3 hF
  refine aLP (X9 Tryz.call115 rfl rfl) (fC rfl) rfl rfl (ZM (n:=h) (low:=32) (high:=223) hx2) ?_
  rintro _ w ⟨rfl,hk⟩
  replace hS:=hS.after hk;clear hk
  refine om rfl rfl<|V7 (s:=5) rfl (fun hc1=>?_) (fun hc1=>?_)
  ·replace hF:=Z9 hc1 hF
   refine nX (C5 rfl rfl) (gC rfl rfl rfl (by rw [hc1];rfl)) rfl rfl ?_
   refine nX (aNY rfl rfl rfl (by decide)) (gC rfl rfl rfl (by rw [hc1];rfl)) rfl rfl ?_
   refine nX (T9 rfl rfl rfl) (gC rfl rfl rfl (by rw [hc1];rfl)) rfl rfl ?_
   refine oy (KH rfl rfl hc1 rfl) rfl<|oa rfl rfl<|dY fun a hA=>?_
   exact⟨decide ((Int.tmod h 32) < 24),hF,hA.part ⟨rfl,trivial⟩,((hS).sel [] rfl).KI [] rfl⟩
  ·replace hF:=aAA hc1 hF
   refine o7 (gC rfl rfl rfl (by rw [hc1];rfl)) rfl rfl ?_
   refine o7 (gC rfl rfl rfl (by rw [hc1];rfl)) rfl rfl ?_
   refine o7 (gC rfl rfl rfl (by rw [hc1];rfl)) rfl rfl ?_
   refine oy (OM rfl rfl hc1 rfl) rfl<|oa rfl rfl<|dY fun a hA=>?_
   exact⟨false,hF,hA.part ⟨rfl,trivial⟩,((hS).sel [] rfl).KI [] rfl⟩
 ·skip
  clear hA hS hF
  rintro a w ⟨x1,hF,hA,hS⟩
  unfold AY at hF
  refine NT ?_
  cases hF
  exact fy Tryz.results202 hA rfl hS
theorem aK0{w0:World}{l:List aP}{s1:Value}{r:Int}(h1:bC.rd (Z6 w0) w0 [s1] (l:List aP))(hF:BE l=some r) :
    Calls Tryz.prog 82 #[s1] w0 (Ret fun v w'=>v=.int .i64 (r)∧St (gA w0) w' [] []):=by
 have hS:St (gA w0) w0 [] [OZ [s1] (l:List aP)]:=St.enter (by
   intro f hf
   simp only [List.mem_cons,List.not_mem_nil,or_false] at hf
   subst hf;exact h1)
 refine ON (args:=[_]) Tryz.func82 rfl Tryz.ntmps82 rfl ?_
 unfold BE at hF
 intro a hA
 refine eT<|gN hA ?_
 clear hA
 refine oa rfl rfl<|dY fun a hA=>eT<|gN hA ?_
 clear hA
 refine oa rfl rfl<|dY fun a hA=>eT<|eT<|gN hA ?_
 clear hA
 refine om rfl rfl<|oy (EG (hS.rd 0 rfl) Tryz.underlying51 rfl rfl) rfl<|om rfl rfl<|dY fun a hA=>?_
 obtain⟨o1,hl1,hF⟩:=I3 hF
 refine RN (J:=fun a' w'=>∃(x5:Int),o1=x5∧zQ 19 [(3,.int .i64 (x5))] a'∧St (gA w0) w' [] []) ?_ ?_
 ·refine zR ?_
  refine X6 (body:=uP l) (r:=o1) (fun sg a' w'=>zQ 19 [(3,.int .i64 (sg.1)),(6,s1),(7,.int .i64 ((l.length:Int))),(8,.int .i64 (sg.2))] a'∧St (gA w0) w' [] [OZ [s1] (l:List aP)]) ?_ hl1 ⟨hA.part ⟨rfl,rfl,rfl,rfl,trivial⟩,((hS).sel [] rfl).KI [0] rfl⟩
  clear hA hS hl1
  rintro⟨x3,x4⟩ a w q1 ⟨hA,hS⟩ hG1 hr1
  try dsimp only at hA hS
  unfold uP at hG1
  refine eT<|gN hA ?_
  clear hA
  refine oy (T9 rfl rfl rfl) rfl<|dY fun a hA=>eT<|zW hA rfl (fun hc1=>?_) (fun hc1=>?_)
  ·replace hG1:=Z9 hc1 hG1
   refine EF<|eT<|zR<|eT<|gN hA ?_
   clear hA
   obtain⟨x6,hx6,hG1⟩:=I3 hG1
   refine oy (aD0 (m:=1) (hS.rd 0 rfl) rfl hx6 Tryz.underlying51 Tryz.sizeOf172 rfl rfl rfl) rfl ?_
   obtain⟨s2,hel,hS⟩:=hS.aVD 0 rfl (xI hx6).2.2
   refine oy (aDZ rfl rfl Tryz.isAgg172 Tryz.sizeOf172 rfl hel) rfl<|Y9 (Z8 (cs:=[(.slice none 0 0)]) hS rfl Tryz.zeroValue172 rfl) (fC rfl) rfl rfl ?_
   clear hS
   rintro _ w ⟨b1,rfl,hS⟩
   refine aDY (aHA (vs:=[s2]) hS (i:=0) rfl rfl rfl rfl rfl Tryz.sizeOf172 rfl rfl (a5M (aN5 (hS.rd 1 rfl)) rfl)) (fC rfl) rfl ?_
   clear hS
   intro w hS
   refine dY fun a hA=>gN hA ?_
   clear hA
   refine om rfl rfl<|oy (NU (m:=0) Tryz.underlying172 rfl rfl Tryz.sizeOf170 rfl rfl) rfl<|oy (uL rfl rfl Tryz.isAgg170 (hS.cell 0 rfl rfl)) rfl<|oy (EG (hS.rd 1 rfl) Tryz.underlying170 rfl rfl) rfl<|oy (ZA rfl rfl rfl) rfl<|oa rfl rfl<|dY fun a hA=>gN hA ?_
   clear hA
   refine oy (ZA rfl rfl rfl) rfl<|om rfl rfl<|dY fun a hA=>?_
   cases hG1
   exact⟨_,rfl,⟨hA.part ⟨rfl,rfl,rfl,rfl,trivial⟩,((hS).sel [] rfl).KI [0] rfl⟩⟩
  ·replace hG1:=aAA hc1 hG1
   refine X5<|RL ?_
   cases hG1
   have ho:=hr1 _ rfl;subst ho
   exact⟨x3,rfl,hA.part ⟨rfl,trivial⟩,((hS).sel [] rfl).KI [] rfl⟩
 ·skip
  clear hA hS hl1
  rintro a w ⟨x5,heq,hA,hS⟩
  replace hF:PU x5=some r:=by rw [heq] at hF;exact hF
  clear heq
  unfold PU at hF
  refine eT<|gN hA ?_
  clear hA
  refine om rfl rfl<|oa rfl rfl<|dY fun a hA=>NT ?_
  cases hF
  exact fy Tryz.results82 hA rfl hS
theorem aO5{w0:World}{l:List aP}{s1:Value}{r:Bool}(h1:bC.rd (Z6 w0) w0 [s1] (l:List aP))(hF:rZ l=some r) :
    Calls Tryz.prog 190 #[s1] w0 (Ret fun v w'=>v=.bool (r)∧St (gA w0) w' [] []):=by
 have hS:St (gA w0) w0 [] [OZ [s1] (l:List aP)]:=St.enter (by
   intro f hf
   simp only [List.mem_cons,List.not_mem_nil,or_false] at hf
   subst hf;exact h1)
 refine ON (args:=[_]) Tryz.func190 rfl Tryz.ntmps190 rfl ?_
 unfold rZ at hF
 intro a hA
 refine eT<|gN hA ?_
 clear hA
 refine oa rfl rfl<|dY fun a hA=>eT<|eT<|gN hA ?_
 clear hA
 refine om rfl rfl<|oy (EG (hS.rd 0 rfl) Tryz.underlying51 rfl rfl) rfl<|oy (aSX rfl rfl rfl) rfl<|dY fun a hA=>zW hA rfl (fun hc1=>?_) (fun hc1=>?_)
 ·replace hF:=Z9 hc1 hF
  refine eT<|gN hA ?_
  clear hA
  refine oa rfl rfl<|dY fun a hA=>NT ?_
  cases hF
  exact fy Tryz.results190 hA rfl hS
 ·replace hF:=aAA hc1 hF
  refine EF<|eT<|gN hA ?_
  clear hA
  refine oy (aKE (cells:=#[.bool (false),.bool (false),.bool (false),.bool (false),.bool (false),.bool (false),.bool (false),.bool (false),.bool (false),.bool (false),.bool (false),.bool (false),.bool (false),.bool (false),.bool (false),.bool (false),.bool (false),.bool (false),.bool (false),.bool (false),.bool (false),.bool (false),.bool (false),.bool (false)]) rfl Tryz.zeroValue271 Tryz.underlying271 Tryz.sizeOf4 rfl rfl) rfl<|Y9 (Z8 (cs:=List.map (fun q:Bool=>Value.bool q) [false,false,false,false,false,false,false,false,false,false,false,false,false,false,false,false,false,false,false,false,false,false,false,false]) hS rfl Tryz.zeroValue271 rfl) (fC rfl) rfl rfl ?_
  clear hS
  rintro _ w ⟨b1,rfl,hS⟩
  refine aDY (aHA (vs:=[.bool (false),.bool (false),.bool (false),.bool (false),.bool (false),.bool (false),.bool (false),.bool (false),.bool (false),.bool (false),.bool (false),.bool (false),.bool (false),.bool (false),.bool (false),.bool (false),.bool (false),.bool (false),.bool (false),.bool (false),.bool (false),.bool (false),.bool (false),.bool (false)]) hS (i:=0) rfl rfl rfl rfl rfl Tryz.sizeOf271 rfl rfl rfl) (fC rfl) rfl ?_
  clear hS
  intro w hS
  refine dY fun a hA=>eT<|eT<|gN hA ?_
  clear hA
  refine om rfl rfl<|oy (EG (hS.rd 0 rfl) Tryz.underlying51 rfl rfl) rfl<|om rfl rfl<|dY fun a hA=>?_
  obtain⟨o1,hl1,hF⟩:=I3 hF
  refine RN (J:=fun a' w'=>o1=Out.brk ()∧zQ 51 [(0,s1)] a'∧St (gA w0) w' [] [OZ [s1] (l:List aP)]) ?_ ?_
  ·refine zR ?_
   refine X6 (body:=y4 l) (r:=o1) (fun sg a' w'=>zQ 51 [(0,s1),(3,.pointer (some ⟨b1,0,none⟩)),(12,s1),(13,.int .i64 ((l.length:Int))),(14,.int .i64 (sg.1))] a'∧St (gA w0) w' [RE b1 (List.map (fun q:Bool=>Value.bool q) (sg.2:List Bool))] [OZ [s1] (l:List aP)]) ?_ hl1 ⟨hA.part ⟨rfl,rfl,rfl,rfl,rfl,trivial⟩,((hS).sel [0] rfl).KI [0] rfl⟩
   clear hA hS hl1
   rintro⟨x3,x4⟩ a w q1 ⟨hA,hS⟩ hG1 hr1
   try dsimp only at hA hS
   unfold y4 at hG1
   refine eT<|gN hA ?_
   clear hA
   refine oy (T9 rfl rfl rfl) rfl<|dY fun a hA=>eT<|zW hA rfl (fun hc2=>?_) (fun hc2=>?_)
   ·replace hG1:=Z9 hc2 hG1
    refine EF<|eT<|zR<|eT<|gN hA ?_
    clear hA
    obtain⟨x6,hx6,hG1⟩:=I3 hG1
    refine oy (aD0 (m:=1) (hS.rd 0 rfl) rfl hx6 Tryz.underlying51 Tryz.sizeOf172 rfl rfl rfl) rfl ?_
    obtain⟨s2,hel,hS⟩:=hS.aVD 0 rfl (xI hx6).2.2
    refine oy (aDZ rfl rfl Tryz.isAgg172 Tryz.sizeOf172 rfl hel) rfl<|Y9 (Z8 (cs:=[(.slice none 0 0)]) hS rfl Tryz.zeroValue172 rfl) (fC rfl) rfl rfl ?_
    clear hS
    rintro _ w ⟨b2,rfl,hS⟩
    refine aDY (aHA (vs:=[s2]) hS (i:=1) rfl rfl rfl rfl rfl Tryz.sizeOf172 rfl rfl (a5M (aN5 (hS.rd 1 rfl)) rfl)) (fC rfl) rfl ?_
    clear hS
    intro w hS
    refine dY fun a hA=>eT<|gN hA ?_
    clear hA
    refine oy (NU (m:=0) Tryz.underlying172 rfl rfl Tryz.sizeOf170 rfl rfl) rfl<|oy (uL rfl rfl Tryz.isAgg170 (hS.cell 1 rfl rfl)) rfl<|oy (EG (hS.rd 1 rfl) Tryz.underlying170 rfl rfl) rfl<|om rfl rfl<|dY fun a hA=>?_
    obtain⟨o2,hl2,hG1⟩:=I3 hG1
    refine RN (J:=fun a' w'=>∃(x11:List Bool),o2=Out.brk x11∧zQ 51 [(0,s1),(3,.pointer (some ⟨b1,0,none⟩)),(12,s1),(13,.int .i64 ((l.length:Int))),(14,.int .i64 (x3))] a'∧St (gA w0) w' [RE b1 (List.map (fun q:Bool=>Value.bool q) (x11:List Bool))] [OZ [s1] (l:List aP)]) ?_ ?_
    ·refine zR ?_
     refine X6 (body:=yZ x6) (r:=o2) (fun sg a' w'=>zQ 51 [(0,s1),(3,.pointer (some ⟨b1,0,none⟩)),(12,s1),(13,.int .i64 ((l.length:Int))),(14,.int .i64 (x3)),(19,s2),(20,.int .i64 ((x6.Rows.length:Int))),(21,.int .i64 (sg.1))] a'∧St (gA w0) w' [RE b1 (List.map (fun q:Bool=>Value.bool q) (sg.2:List Bool))] [OZ [s1] (l:List aP),OZ [s2] (x6.Rows:List bP)]) ?_ hl2 ⟨hA.part ⟨rfl,rfl,rfl,rfl,rfl,rfl,rfl,rfl,trivial⟩,((hS).sel [0] rfl).KI [0,1] rfl⟩
     clear hA hS hl2
     rintro⟨x9,x10⟩ a w q2 ⟨hA,hS⟩ hG2 hr2
     try dsimp only at hA hS
     unfold yZ at hG2
     refine eT<|gN hA ?_
     clear hA
     refine oy (T9 rfl rfl rfl) rfl<|dY fun a hA=>eT<|zW hA rfl (fun hc3=>?_) (fun hc3=>?_)
     ·replace hG2:=Z9 hc3 hG2
      refine EF<|eT<|zR<|eT<|gN hA ?_
      clear hA
      obtain⟨x12,hx12,hG2⟩:=I3 hG2
      refine oy (aD0 (m:=2) (hS.rd 1 rfl) rfl hx12 Tryz.underlying170 Tryz.sizeOf191 rfl rfl rfl) rfl<|oy (aDZ rfl rfl Tryz.isAgg191 Tryz.sizeOf191 rfl (a39 (hS.rd 1 rfl) (xI hx12).2.2)) rfl<|Y9 (Z8 (cs:=[.int .i64 (0),.int .i64 (0)]) hS rfl Tryz.zeroValue191 rfl) (fC rfl) rfl rfl ?_
      clear hS
      rintro _ w ⟨b3,rfl,hS⟩
      refine aDY (aHA (vs:=[.int .i64 (x12.Handle),.int .i64 (x12.aJ)]) hS (i:=1) rfl rfl rfl rfl rfl Tryz.sizeOf191 rfl rfl rfl) (fC rfl) rfl ?_
      clear hS
      intro w hS
      refine dY fun a hA=>eT<|eT<|RN (J:=fun a' w'=>∃(x13:Bool),vS x9 x10 x12 x13=some q2∧zQ 51 [(0,s1),(3,.pointer (some ⟨b1,0,none⟩)),(7,.pointer (some ⟨b3,0,none⟩)),(12,s1),(13,.int .i64 ((l.length:Int))),(14,.int .i64 (x3)),(19,s2),(20,.int .i64 ((x6.Rows.length:Int))),(21,.int .i64 (x9)),(41,.bool (x13))] a'∧St (gA w0) w' [RE b1 (List.map (fun q:Bool=>Value.bool q) (x10:List Bool)),RE b3 [.int .i64 (x12.Handle),.int .i64 (x12.aJ)]] [OZ [s1] (l:List aP),OZ [s2] (x6.Rows:List bP)]) ?_ ?_
      ·skip
       refine gN hA ?_
       clear hA
       refine oy (NU (m:=0) Tryz.underlying191 rfl rfl Tryz.sizeOf3 rfl rfl) rfl<|oy (uL rfl rfl Tryz.isAgg3 (hS.cell 1 rfl rfl)) rfl ?_
       obtain⟨x15,hx15,hG2⟩:=I3 hG2
       refine aLP (X9 Tryz.call202 rfl rfl) (fC rfl) rfl rfl (aMS (h:=x12.Handle) hx15) ?_
       rintro _ w ⟨rfl,hk⟩
       replace hS:=hS.after hk;clear hk
       refine oy (aNX rfl rfl) rfl<|om rfl rfl<|V7 (s:=29) rfl (fun hc5=>?_) (fun hc5=>?_)
       ·replace hG2:=Z9 hc5 hG2
        refine o7 (gC rfl rfl rfl (by rw [hc5];rfl)) rfl rfl ?_
        refine o7 (gC rfl rfl rfl (by rw [hc5];rfl)) rfl rfl ?_
        refine o7 (gC rfl rfl rfl (by rw [hc5];rfl)) rfl rfl ?_
        refine o7 (gC rfl rfl rfl (by rw [hc5];rfl)) rfl rfl ?_
        refine oy (KH rfl rfl hc5 rfl) rfl<|om rfl rfl<|o7 (gC rfl rfl rfl rfl) rfl rfl<|o7 (gC rfl rfl rfl rfl) rfl rfl<|o7 (gC rfl rfl rfl rfl) rfl rfl<|o7 (gC rfl rfl rfl rfl) rfl rfl<|o7 (gC rfl rfl rfl rfl) rfl rfl<|oy (KH rfl rfl rfl rfl) rfl<|dY fun a hA=>?_
        exact⟨true,hG2,hA.part ⟨rfl,rfl,rfl,rfl,rfl,rfl,rfl,rfl,rfl,rfl,trivial⟩,((hS).sel [0,1] rfl).KI [0,1] rfl⟩
       ·replace hG2:=aAA hc5 hG2
        refine nX (NU (m:=0) Tryz.underlying191 rfl rfl Tryz.sizeOf3 rfl rfl) (gC rfl rfl rfl (by rw [hc5];rfl)) rfl rfl ?_
        refine nX (uL rfl rfl Tryz.isAgg3 (hS.cell 1 rfl rfl)) (gC rfl rfl rfl (by rw [hc5];rfl)) rfl rfl ?_
        obtain⟨x16,hx16,hG2⟩:=I3 hG2
        refine aLP (X9 Tryz.call115 rfl rfl) (gC rfl rfl rfl (by rw [hc5];rfl)) rfl rfl (ZM (n:=x12.aJ) (low:=0) (high:=100000) hx16) ?_
        rintro _ w ⟨rfl,hk⟩
        replace hS:=hS.after hk;clear hk
        refine nX (aNX rfl rfl) (gC rfl rfl rfl (by rw [hc5];rfl)) rfl rfl ?_
        refine oy (OM rfl rfl hc5 rfl) rfl<|om rfl rfl<|V7 (s:=35) rfl (fun hc6=>?_) (fun hc6=>?_)
        ·replace hG2:=Z9 hc6 hG2
         refine o7 (gC rfl rfl rfl (by rw [hc6];rfl)) rfl rfl ?_
         refine o7 (gC rfl rfl rfl (by rw [hc6];rfl)) rfl rfl ?_
         refine o7 (gC rfl rfl rfl (by rw [hc6];rfl)) rfl rfl ?_
         refine o7 (gC rfl rfl rfl (by rw [hc6];rfl)) rfl rfl ?_
         refine o7 (gC rfl rfl rfl (by rw [hc6];rfl)) rfl rfl ?_
         refine oy (KH rfl rfl hc6 rfl) rfl<|dY fun a hA=>?_
         exact⟨true,hG2,hA.part ⟨rfl,rfl,rfl,rfl,rfl,rfl,rfl,rfl,rfl,rfl,trivial⟩,((hS).sel [0,1] rfl).KI [0,1] rfl⟩
        ·replace hG2:=aAA hc6 hG2
         refine nX (NU (m:=0) Tryz.underlying191 rfl rfl Tryz.sizeOf3 rfl rfl) (gC rfl rfl rfl (by rw [hc6];rfl)) rfl rfl ?_
         refine nX (uL rfl rfl Tryz.isAgg3 (hS.cell 1 rfl rfl)) (gC rfl rfl rfl (by rw [hc6];rfl)) rfl rfl ?_
         refine nX (aNY rfl rfl rfl (by decide)) (gC rfl rfl rfl (by rw [hc6];rfl)) rfl rfl ?_
         obtain⟨hn2,hG2⟩:=uM hG2
         refine nX (aNJ Tryz.underlying271 Tryz.sizeOf4 hn2 rfl rfl rfl) (gC rfl rfl rfl (by rw [hc6];rfl)) rfl rfl ?_
         obtain⟨x17,hx17,hG2⟩:=I3 hG2
         refine nX (uL rfl rfl Tryz.isAgg4 (hS.aXL 0 rfl hx17)) (gC rfl rfl rfl (by rw [hc6];rfl)) rfl rfl ?_
         refine oy (OM rfl rfl hc6 rfl) rfl<|dY fun a hA=>?_
         exact⟨x17,hG2,hA.part ⟨rfl,rfl,rfl,rfl,rfl,rfl,rfl,rfl,rfl,rfl,trivial⟩,((hS).sel [0,1] rfl).KI [0,1] rfl⟩
      ·skip
       clear hA hS hG2
       rintro a w ⟨x13,hG2,hA,hS⟩
       unfold vS at hG2
       refine zW hA rfl (fun hc4=>?_) (fun hc4=>?_)
       ·replace hG2:=Z9 hc4 hG2
        refine eT<|gN hA ?_
        clear hA
        refine oa rfl rfl<|dY fun a hA=>NT ?_
        cases hG2
        have ho:=hr2 _ rfl;subst ho
        replace hG1:some (.stop (Out.ret false))=some q1:=hG1
        cases hG1
        have ho:=hr1 _ rfl;subst ho
        replace hF:some false=some r:=hF
        cases hF
        exact fy Tryz.results190 hA rfl hS
       ·replace hG2:=aAA hc4 hG2
        refine EF<|gN hA ?_
        clear hA
        refine oy (NU (m:=0) Tryz.underlying191 rfl rfl Tryz.sizeOf3 rfl rfl) rfl<|oy (uL rfl rfl Tryz.isAgg3 (hS.cell 1 rfl rfl)) rfl<|oy (aNY rfl rfl rfl (by decide)) rfl ?_
        obtain⟨hn1,hG2⟩:=uM hG2
        refine oy (aNJ Tryz.underlying271 Tryz.sizeOf4 hn1 rfl rfl rfl) rfl ?_
        obtain⟨x14,hx14,hG2⟩:=I3 hG2
        refine aDY (a0B (xd:=true) hS (m:=0) rfl hx14 Tryz.sizeOf4 rfl rfl rfl rfl rfl rfl) (fC rfl) rfl ?_
        clear hS
        intro w hS
        refine dY fun a hA=>gN hA ?_
        clear hA
        refine oy (ZA rfl rfl rfl) rfl<|om rfl rfl<|dY fun a hA=>?_
        cases hG2
        exact⟨_,rfl,⟨hA.part ⟨rfl,rfl,rfl,rfl,rfl,rfl,rfl,rfl,trivial⟩,((hS).sel [0] rfl).KI [0,1] rfl⟩⟩
     ·replace hG2:=aAA hc3 hG2
      refine X5<|RL ?_
      cases hG2
      have ho:=hr2 _ rfl;subst ho
      exact⟨x10,rfl,hA.part ⟨rfl,rfl,rfl,rfl,rfl,trivial⟩,((hS).sel [0] rfl).KI [0] rfl⟩
    ·skip
     clear hA hS hl2
     rintro a w ⟨x11,heq,hA,hS⟩
     replace hG1:ND x3 x11=some q1:=by rw [heq] at hG1;exact hG1
     clear heq
     unfold ND at hG1
     refine gN hA ?_
     clear hA
     refine oy (ZA rfl rfl rfl) rfl<|om rfl rfl<|dY fun a hA=>?_
     cases hG1
     exact⟨_,rfl,⟨hA.part ⟨rfl,rfl,rfl,rfl,rfl,trivial⟩,((hS).sel [0] rfl).KI [0] rfl⟩⟩
   ·replace hG1:=aAA hc2 hG1
    refine X5<|RL ?_
    cases hG1
    have ho:=hr1 _ rfl;subst ho
    exact⟨rfl,hA.part ⟨rfl,trivial⟩,((hS).sel [] rfl).KI [0] rfl⟩
  ·skip
   clear hA hS hl1
   rintro a w ⟨heq,hA,hS⟩
   replace hF:NC l=some r:=by rw [heq] at hF;exact hF
   clear heq
   unfold NC at hF
   refine eT<|gN hA ?_
   clear hA
   refine om rfl rfl ?_
   obtain⟨x5,hx5,hF⟩:=I3 hF
   refine aLP (X9 Tryz.call82 rfl rfl) (fC rfl) rfl rfl (aK0 (l:=l) (hS.rd 0 rfl) hx5) ?_
   rintro _ w ⟨rfl,hk⟩
   replace hS:=hS.after hk;clear hk
   refine oy (aV6 rfl rfl rfl) rfl<|oa rfl rfl<|dY fun a hA=>NT ?_
   cases hF
   exact fy Tryz.results190 hA rfl hS
end Go.Proofs.YtgboekoingacfaaGreat
end
