import Derived.Test.YtbdmodalljibjaaGreatXLB
import Derived.Test.YtbdmodalljibjaaGreatProg
set_option linter.unusedVariables false
set_option linter.unusedSimpArgs false
set_option linter.unusedSectionVars false
set_option linter.constructorNameAsVariable false
set_option linter.unnecessarySimpa false
noncomputable section
set_option linter.unusedVariables false
namespace Go.Gv
universe u
theorem Q{α:Sort u}{a:α}:a=a:=Eq.refl a
def W{ρ:Type}(C:Prop)(r:ρ)(F:Option ρ):Prop:=F=some r→C
theorem wm{ρ:Type}{C:Prop}{r:ρ}{F F':Option ρ}(h:F'=F)(k:W C r F):W C r F':=h ▸ k
theorem wi{ρ:Type}{C:Prop}{r:ρ}{F:Option ρ}(h:F=some r)(k:W C r F):C:=k h
def VS(P:Program)(c:Ctx)(f:FuncId){ρ ex:Type}(F:Option ρ)(xs:List SV)(B0:Bl)(L0:List Ch)(sv:ρ→ex→SV)(Lf:ρ→ex→List Ch):Prop:=∀r,F=some r→FnS P f c xs B0 L0 sv Lf r
abbrev V0(P:Program)(c:Ctx)(f:FuncId){ρ:Type}(F:Option ρ)(xs:List SV)(sv:ρ→SV):Prop:=VS P c f F xs [] [] (fun r (_:Unit)=>sv r) (fun _ _=>[])
theorem VS.r{P:Program}{c:Ctx}{f:FuncId}{ρ ex:Type}{F:Option ρ}{xs:List SV}{B0:Bl}{L0:List Ch}{sv:ρ→ex→SV}{Lf:ρ→ex→List Ch}(h:VS P c f F xs B0 L0 sv Lf){r:ρ}(hF:F=some r):FnS P f c xs B0 L0 sv Lf r:=h r hF
def QR(P:Program)(fn:Func){rs:List ResultVar}(_:fn.results=rs.toArray)(c:Ctx)(B0:Bl){ρ ex:Type}(sv:ρ→ex→SV)(Lf:ρ→ex→List Ch)(r:ρ):Act→World→Prop:=QS P fn c B0 sv Lf r
def aLQ(T:TT)(rs:List ResultVar)(is:List Nat)(b0:Nat)(L2:List Ch):Stop→Option (SV×List Ch)
  | .ret m e L => match aAR T e L rs with
    | some x => match BR b0 (nbS x) with
      | true => match MK b0 m e L is b0 [] L2 with
        | some ([],L3)=>some (nbS x,L3)
        | _=>none
      | false=>none
    | none=>none
  | _=>none
def aIB(is:List Nat)(b0 mj:Nat)(ej:SE)(Lj:List Ch):Stop→Option (SE×List Ch)
  | .fin m e L=>MK b0 m e L is mj ej Lj
  | _=>none
def exQ(is:List Nat)(id b0 mj:Nat)(ej:SE)(Lj:List Ch):Stop→Option (SE×List Ch)
  | .ex i m e L => match Nat.beq i id with
    | true=>MK b0 m e L is mj ej Lj
    | false=>none
  | _=>none
def aSM:Stop→Stop
  | .fin m e L=>.ret m e L
  | _=>.stuck
def ixT(T:TT)(t n:Nat):Bool:=match yD T t with
  | some ⟨.sl el, _, _, _⟩ => match yD T el with
    | some ⟨_,_,sz,_⟩=>Nat.beq n sz
    | none=>false
  | _=>false
noncomputable section
variable {P:Program} {T:TT} {hT:AZ P T} {n:Nat} {c:Ctx} {B0:Bl} {N:Act→World→Prop} {X:Nat→Act→World→Prop} {Q:Act→World→Prop} {K K':List Fr} {m m':Nat} {e e':SE} {L L' Lv:List Ch} {cf cf' cf1 cf2:sH} {o:Oper}
theorem cE(hT:AZ P T){f:FuncId}{fn:Func}{cd:Code}{xs:List SV}{L0:List Ch}{ρ ex:Type}{sv:ρ→ex→SV}{Lf:ρ→ex→List Ch}{F:Option ρ}{rs:List ResultVar}(hc:∀args w,(callFunc f args).run P w=.ok (.enter f args) w)(hf:P.funcs[f]?=some fn)(hr:fn.results=rs.toArray)(hb:fn.body=some cd)(hm:fn.ntmps=n)
    (k:∀{r},W (G (.mk P T hT n c B0 (QR P fn hr c B0 sv Lf r) (fun _ _ _=>False) (QR P fn hr c B0 sv Lf r)) [] B0.length (ZQ 0 xs) L0 (.c cd)) r F) (hl:Nat.ble xs.length n=true:=by exact rfl):VS P c f F xs B0 L0 sv Lf:=
  fun _ hF=>en n hc hf hT hb hm hl (k hF)
theorem aHG{rs:List ResultVar}{is:List Nat}{b0:Nat}{L2 L3:List Ch}{s:SV}{st:Stop}(h:aLQ T rs is b0 L2 st=some (s,L3)):∃m' e' L' x,st=.ret m' e' L'∧aAR T e' L' rs=some x∧nbS x=s∧BR b0 s=true∧MK b0 m' e' L' is b0 [] L2=some ([],L3):=by
  unfold aLQ at h
  split at h
  · split at h
    · rename_i h1
      split at h
      · rename_i h2
        split at h
        · rename_i h3
          cases h
          exact⟨_,_,_,_,rfl,h1,rfl,h2,h3⟩
        · cases h
      · cases h
    · cases h
  · cases h
theorem eA{fn:Func}{ρ ex:Type}{sv:ρ→ex→SV}{Lf:ρ→ex→List Ch}{r r':ρ}{rs:List ResultVar}{hr:fn.results=rs.toArray}{zz:Option ρ}(y:ex)(is:List Nat)(hz:zz=some r')(h:aLQ T rs is B0.length (Lf r' y) (jB T n K cf m e L)=some (sv r' y,Lf r' y)):W (G (.mk P T hT n c B0 N X (QR P fn hr c B0 sv Lf r)) K m e L cf) r zz:=fun hF=>by
  obtain⟨_,_,_,_,h1,h2,h3,h4,h5⟩:=aHG h
  exact rt y is hF hz h1 hr h2 h3 h4 h5
theorem cB{fn:Func}{ρ:Type}{sv:ρ→Unit→SV}{Lf:ρ→Unit→List Ch}{r r':ρ}{rs:List ResultVar}{hr:fn.results=rs.toArray}{zz:Option ρ}(hz:zz=some r')(h:aLQ T rs [] B0.length (Lf r' ()) (jB T n K cf m e L)=some (sv r' (),Lf r' ())):W (G (.mk P T hT n c B0 N X (QR P fn hr c B0 sv Lf r)) K m e L cf) r zz:=eA () [] hz h
theorem OR{fn:Func}{ρ ex:Type}{sv:ρ→ex→SV}{Lf:ρ→ex→List Ch}{r r':ρ}{rs:List ResultVar}{hr:fn.results=rs.toArray}{zz:Option ρ}(y:ex)(is:List Nat)(hz:zz=some r')(h:aLQ T rs is B0.length (Lf r' y) (aSM (jB T n K cf m e L))=some (sv r' y,Lf r' y)):W (G (.mk P T hT n c B0 (QR P fn hr c B0 sv Lf r) X Q) K m e L cf) r zz:=fun hF=>by
  obtain⟨m',e',L',_,h1,h2,h3,h4,h5⟩:=aHG h
  refine rf y is hF hz (m':=m') (e':=e') (L':=L') ?_ hr h2 h3 h4 h5
  unfold aSM at h1
  split at h1
  · rename_i h0;rw [h0];cases h1;rfl
  · cases h1
theorem aHH{is:List Nat}{b0 mj:Nat}{ej e3:SE}{Lj L3:List Ch}{st:Stop}(h:aIB is b0 mj ej Lj st=some (e3,L3)):∃m' e' L',st=.fin m' e' L'∧MK b0 m' e' L' is mj ej Lj=some (e3,L3):=by
  unfold aIB at h
  split at h
  · exact⟨_,_,_,rfl,h⟩
  · cases h
theorem e7{π υ α:Type}{eq:π→Prop}{mj:Nat}{ej:π→υ→SE}{Lj:π→υ→List Ch}{p:π}{q:α}{zz:Option α}(u:υ)(is:List Nat)(hz:(zz=some q)=eq p)(h:aIB is B0.length mj (ej p u) (Lj p u) (jB T n K cf m e L)=some (ej p u,Lj p u)):W (G (.mk P T hT n c B0 (JP n c B0 eq mj ej Lj) X Q) K m e L cf) q zz:=fun hF=>by
  obtain⟨_,_,_,h1,h2⟩:=aHH h
  exact jn u is (hz ▸ hF) h1 h2
theorem bU{π α:Type}{eq:π→Prop}{mj:Nat}{ej:π→Unit→SE}{Lj:π→Unit→List Ch}{p:π}{q:α}{zz:Option α}(is:List Nat)(hz:(zz=some q)=eq p)(h:aIB is B0.length mj (ej p ()) (Lj p ()) (jB T n K cf m e L)=some (ej p (),Lj p ())):W (G (.mk P T hT n c B0 (JP n c B0 eq mj ej Lj) X Q) K m e L cf) q zz:=e7 () is hz h
theorem RK{σ ρ υ:Type}{o:Step σ ρ}{mj:Nat}{el:σ→υ→SE}{Ll:σ→υ→List Ch}{s:σ}(u:υ)(is:List Nat)(h:aIB is B0.length mj (el s u) (Ll s u) (jB T n K cf m e L)=some (el s u,Ll s u)):W (G (.mk P T hT n c B0 (NxP n c B0 o mj el Ll) X Q) K m e L cf) o (some (Step.next s)):=fun hF=>by
  obtain⟨_,_,_,h1,h2⟩:=aHH h
  exact nx u is hF h1 h2
theorem C1{σ ρ:Type}{o:Step σ ρ}{mj:Nat}{el:σ→Unit→SE}{Ll:σ→Unit→List Ch}{s:σ}(is:List Nat)(h:aIB is B0.length mj (el s ()) (Ll s ()) (jB T n K cf m e L)=some (el s (),Ll s ())):W (G (.mk P T hT n c B0 (NxP n c B0 o mj el Ll) X Q) K m e L cf) o (some (Step.next s)):=RK () is h
def BkR(n:Nat)(c:Ctx)(B0:Bl){β ρ σ υ:Type}{o:Step σ ρ}{ro:ρ}(_:∀p,o=.stop p→p=ro)(enc:β→ρ)(m:Nat)(ej:β→υ→SE)(Lj:β→υ→List Ch)(id:Nat)(X:Nat→Act→World→Prop):Nat→Act→World→Prop:=BkP n c B0 ro enc m ej Lj id X
theorem T8{σ ρ β υ:Type}{o:Step σ ρ}{ro:ρ}{enc:β→ρ}{mj id:Nat}{ej:β→υ→SE}{Lj:β→υ→List Ch}{b:β}{hr:∀p,o=.stop p→p=ro}(u:υ)(is:List Nat)(h:exQ is id B0.length mj (ej b u) (Lj b u) (jB T n K cf m e L)=some (ej b u,Lj b u)):W (G (.mk P T hT n c B0 N (BkR n c B0 hr enc mj ej Lj id X) Q) K m e L cf) o (some (Step.stop (enc b))):=fun hF=>by
  unfold exQ at h
  split at h
  · rename_i h0
    split at h
    · rename_i hb
      rw [Nat.eq_of_beq_eq_true hb] at h0
      exact bk u is hF hr h0 h
    · cases h
  · cases h
theorem C3{σ ρ β:Type}{o:Step σ ρ}{ro:ρ}{enc:β→ρ}{mj id:Nat}{ej:β→Unit→SE}{Lj:β→Unit→List Ch}{b:β}{hr:∀p,o=.stop p→p=ro}(is:List Nat)(h:exQ is id B0.length mj (ej b ()) (Lj b ()) (jB T n K cf m e L)=some (ej b (),Lj b ())):W (G (.mk P T hT n c B0 N (BkR n c B0 hr enc mj ej Lj id X) Q) K m e L cf) o (some (Step.stop (enc b))):=T8 () is h
theorem GL{σ ρ α:Type}{o:Step σ ρ}{p ro:ρ}{F:ρ→Option α}{q:α}{C:Prop}(hr:∀p,o=.stop p→p=ro)(hF:F ro=some q)(k:W C q (F p)):W C o (some (Step.stop p)):=fun h=>k (re h rfl hr hF)
noncomputable section
variable {b:Bool} {α:Type} {A B':Option α} {q:α}
theorem bD{o:Operand}{x y:Code}(ss:List Nat)(hs:jB T n K cf m e L=.cond o b x y K' m' e' L')(ho:aV (v8 e') ss=some (ss.map fun _=>SV.b b))
    (k1:W (G (.mk P T hT n c B0 N X Q) K' m' (XZ true e' ss) L' (.c x)) q A) (k2:W (G (.mk P T hT n c B0 N X Q) K' m' (XZ false e' ss) L' (.c y)) q B'):W (G (.mk P T hT n c B0 N X Q) K m e L cf) q (if b=true then A else B'):=fun hF=>cs ss hs ho hF k1 k2
theorem aLR{o:Operand}{x y:Code}(ss:List Nat)(hs:jB T n K cf m e L=.cond o b x y K' m' e' L')(ho:aV (v8 e') ss=some (ss.map fun _=>SV.b b))
    (k1:b=true→W (G (.mk P T hT n c B0 N X Q) K' m' (XZ true e' ss) L' (.c x)) q A) (k2:b=false→W (G (.mk P T hT n c B0 N X Q) K' m' (XZ false e' ss) L' (.c y)) q B'):W (G (.mk P T hT n c B0 N X Q) K m e L cf) q (if b=true then A else B'):=fun hF=>csK ss hs ho hF k1 k2
theorem dR(ss:List Nat)(hs:jB T n K cf m e L=.case b cf' K' m' e' L')(ho:aV (v8 e') ss=some (ss.map fun _=>SV.b b))
    (k1:W (G (.mk P T hT n c B0 N X Q) K' m' (XZ true e' ss) L' cf') q A) (k2:W (G (.mk P T hT n c B0 N X Q) K' m' (XZ false e' ss) L' cf') q B'):W (G (.mk P T hT n c B0 N X Q) K m e L cf) q (if b=true then A else B'):=fun hF=>ca ss hs ho hF k1 k2
theorem aTZ(ss:List Nat)(hs:jB T n K cf m e L=.case b cf' K' m' e' L')(ho:aV (v8 e') ss=some (ss.map fun _=>SV.b b))
    (k1:b=true→W (G (.mk P T hT n c B0 N X Q) K' m' (XZ true e' ss) L' cf') q A) (k2:b=false→W (G (.mk P T hT n c B0 N X Q) K' m' (XZ false e' ss) L' cf') q B'):W (G (.mk P T hT n c B0 N X Q) K m e L cf) q (if b=true then A else B'):=fun hF=>caK ss hs ho hF k1 k2
end
noncomputable section
variable {α β:Type} {fo:Option α} {kf:α→Option β} {q:β} {d:Nat} {f:FuncId} {xs:List SV}
theorem c0{sv:α→SV}(hs:jB T n K cf m e L=.call o (some d) f xs cf1 cf2 K' m' e' L')
    (hc:∀{w},HS c w L'→V0 P (b7 w) f fo xs sv) (k:∀x,W (G (.mk P T hT n c B0 N X Q) K' m' ((d,sv x) :: e') L' cf2) q (kf x)):W (G (.mk P T hT n c B0 N X Q) K m e L cf) q (fo.bind kf):=fun hF=>cl0 hs (fun h _ hx=>hc h _ hx) hF fun x _ h=>k x h
theorem c1{ex:Type}{sv:α→ex→SV}{Lf:α→ex→List Ch}(hs:jB T n K cf m e L=.call o (some d) f xs cf1 cf2 K' m' e' L')
    (hc:∀{w},HS c w L'→VS P (b7 w) f fo xs [] [] sv Lf) (k:∀x,∀y:ex,W (G (.mk P T hT n c B0 N X Q) K' m' ((d,sv x y) :: e') (L'++Lf x y) cf2) q (kf x)) (hn:∀x y,noF (Lf x y)=true:=by exact fun _ _=>rfl):W (G (.mk P T hT n c B0 N X Q) K m e L cf) q (fo.bind kf):=fun hF=>cl hs hn (fun h _ hx=>hc h _ hx) hF fun x _ h y=>k x y h
theorem E8{β:Type}{kf:α→Option β}{q:β}{iR:aM α}(C:ME α){d t:Nat}{s:AC}{i:Int}{ls:List α}(hs:jB T n K cf m e L=.idx o d t s ls.length i Lv cf1 cf2 K' m' e' L')(h1:bE c s ls)(ht:ixT T t (aM.n α)=true)
    (k:∀x,∀y:C.ex,C.sub c.S0 c.w0 x y→W (G (.mk P T hT n c B0 N X Q) K' (m'+1) ((d,.p m' 0) :: e') (L' ++ [.ro m' (C.cs x y)]) (cf2.ext [.ro m' (C.cs x y)])) q (kf x)):W (G (.mk P T hT n c B0 N X Q) K m e L cf) q ((idx ls i).bind kf):=fun hF=>by
  unfold ixT at ht
  split at ht
  · rename_i h2
    split at ht
    · rename_i h3
      exact ix C hs h1 hF h2 h3 (Nat.eq_of_beq_eq_true ht) fun x _ h y hy=>k x y hy h
    · cases ht
  · cases ht
theorem MF{β:Type}{kf:Int→Option β}{q:β}{d t:Nat}{s:AC}{i:Int}{ls:List Int}(hs:jB T n K cf m e L=.idx o d t s ls.length i Lv cf1 cf2 K' m' e' L')(h1:bE c s ls)(ht:ixT T t 1=true)
    (k:∀x,W (G (.mk P T hT n c B0 N X Q) K' (m'+1) ((d,.p m' 0) :: e') (L' ++ [.ro m' [.i .i64 x]]) (cf2.ext [.ro m' [.i .i64 x]])) q (kf x)):W (G (.mk P T hT n c B0 N X Q) K m e L cf) q ((idx ls i).bind kf):=E8 cI hs h1 ht fun x _ _=>k x
theorem eM(hm:P.follows .mixedOrders=true){id:Nat}{ops:Array Oper}{zz:Option β}(is:List Nat)(hs:jB T n K cf m e L=.rgn id ops K' m' e' L')
    (k:∀{B1},W (G (.mk P T hT n c B0 N X Q) K' m' e' L' (.d B1 ops (List.replicate ops.size false) is (kl L' is) (kl L' is))) q zz) (hf:(aCO ops && (okL m' (kl L' is) && (cS is && is.all fun j=>Nat.blt j L'.length)))=true:=by kernel_rfl):W (G (.mk P T hT n c B0 N X Q) K m e L cf) q zz:=fun hF=>dr is hs hm hf fun _=>k hF
theorem dL{π υ:Type}{zz:Option β}(j mj:Nat)(Fj:π→Option β)(ks:List Nat)(ej:π→υ→SE)(is:List Nat)(Lj:π→υ→List Ch)(hs:OF (jB T n K cf m e L)=some (K',cf',m',e',L'))
    (k1:W (G (.mk P T hT n c B0 (JP n c B0 (fun p=>Fj p=some q) mj (fun p u=>ej p u++kp e' ks) (fun p u=>Lj p u++kl L' is)) (XK (.mk P T hT n c B0 N X Q) (K'.drop j)) Q) (K'.take j) m' e' L' cf') q zz)
    (k2:∀p u,W (G (.mk P T hT n c B0 N X Q) (K'.drop j) mj (ej p u++kp e' ks) (Lj p u++kl L' is) .n) q (Fj p)):W (G (.mk P T hT n c B0 N X Q) K m e L cf) q zz:=fun hF=>cut j mj (fun p=>Fj p=some q) ks ej is Lj hs (k1 hF) fun p u h=>k2 p u h
theorem cW{zz:Option β}(j mj:Nat)(Fj:Bool→Option β)(ks:List Nat)(v:Nat)(is:List Nat)(hs:OF (jB T n K cf m e L)=some (K',cf',m',e',L'))
    (k1:W (G (.mk P T hT n c B0 (JP n c B0 (fun p=>Fj p=some q) mj (fun p (_:Unit)=>[(v,.b p)]++kp e' ks) (fun _ _=>[]++kl L' is)) (XK (.mk P T hT n c B0 N X Q) (K'.drop j)) Q) (K'.take j) m' e' L' cf') q zz)
    (k2:∀p,W (G (.mk P T hT n c B0 N X Q) (K'.drop j) mj ([(v,.b p)]++kp e' ks) ([]++kl L' is) .n) q (Fj p)):W (G (.mk P T hT n c B0 N X Q) K m e L cf) q zz:=dL j mj Fj ks (fun p (_:Unit)=>[(v,.b p)]) is (fun _ _=>[]) hs k1 fun p _=>k2 p
theorem LX{σ ρ υ γ ω:Type}{id:Nat}{y:Code}{fb:σ→Option (Step σ ρ)}{s0:σ}{gk:ρ→Option β}(u0:υ)(ks:List Nat)(el:σ→υ→SE)(is0 is:List Nat)(Ll:σ→υ→List Ch)(enc:γ→ρ)(kb:List Nat)(ej:γ→ω→SE)(ib:List Nat)(Lj:γ→ω→List Ch)
    (hs:jB T n K cf m e L=.loop id y K' m' e' L')
    (h0:MK B0.length m' e' L' is0 m' (el s0 u0++kp e' ks) (Ll s0 u0++kl L' is)=some (el s0 u0++kp e' ks,Ll s0 u0++kl L' is))
    (k1:∀{ro o},gk ro=some q→∀s u,(hr:∀p,o=.stop p→p=ro)→W (G (.mk P T hT n c B0 (NxP n c B0 o m' (fun s u=>el s u++kp e' ks) (fun s u=>Ll s u++kl L' is)) (BkR n c B0 hr enc m' (fun b u=>ej b u++kp e' kb) (fun b u=>Lj b u++kl L' ib) id (XK (.mk P T hT n c B0 N X Q) K')) Q) [] m' (el s u++kp e' ks) (Ll s u++kl L' is) (.c y)) o (fb s))
    (k2:∀b u,W (G (.mk P T hT n c B0 N X Q) K' m' (ej b u++kp e' kb) (Lj b u++kl L' ib) .n) q (gk (enc b))):W (G (.mk P T hT n c B0 N X Q) K m e L cf) q ((loop fb s0).bind gk):=fun hF=>
  lp u0 ks el is0 is Ll enc kb ej ib Lj hs hF h0 (fun ro h1 s u o h2 h3=>k1 h1 s u h3 h2) fun b u h=>k2 b u h
theorem ID{ρ:Type}{id:Nat}{y:Code}{fb:Int→Option (Step Int ρ)}{s0:Int}{gk:ρ→Option β}(v:Nat)(ks:List Nat)(is:List Nat)(enc:Unit→ρ)(kb:List Nat)(ib:List Nat)
    (hs:jB T n K cf m e L=.loop id y K' m' e' L')
    (h0:MK B0.length m' e' L' is m' ([(v,.i .i64 s0)]++kp e' ks) ([]++kl L' is)=some ([(v,.i .i64 s0)]++kp e' ks,[]++kl L' is))
    (k1:∀{ro o},gk ro=some q→∀s,(hr:∀p,o=.stop p→p=ro)→W (G (.mk P T hT n c B0 (NxP n c B0 o m' (fun s (_:Unit)=>[(v,.i .i64 s)]++kp e' ks) (fun _ _=>[]++kl L' is)) (BkR n c B0 hr enc m' (fun _ (_:Unit)=>[]++kp e' kb) (fun _ _=>[]++kl L' ib) id (XK (.mk P T hT n c B0 N X Q) K')) Q) [] m' ([(v,.i .i64 s)]++kp e' ks) ([]++kl L' is) (.c y)) o (fb s))
    (k2:W (G (.mk P T hT n c B0 N X Q) K' m' ([]++kp e' kb) ([]++kl L' ib) .n) q (gk (enc ()))):W (G (.mk P T hT n c B0 N X Q) K m e L cf) q ((loop fb s0).bind gk):=
  LX () ks (fun s (_:Unit)=>[(v,.i .i64 s)]) is is (fun _ _=>[]) enc kb (fun _ (_:Unit)=>[]) ib (fun _ _=>[]) hs h0 (fun h s _ hr=>k1 h s hr) fun _ _=>k2
theorem oB{β:Type}{kf:α→Option β}{q:β}[aM α](E:CO α)(j:Nat){t:TypeId}{s:AC}{i:Int}{ls:List α}(hs:jB T n K cf m e L=.idx o d t s ls.length i Lv cf1 cf2 K' m' e' L')(hj:L'[j]?=some (ow s ls))(hz:fA j cf1.yE=true)
    (k:∀x,idx ls i=some x→∀y:E.ex,Shp s ls.length→W (G (.mk P T hT n c B0 N X Q) K' (m'+1) e' (L'.set j .no++([.o (sQ (s.v ls.length) ls i.toNat),.box m' (E.cs x y),wOf α m' s ls.length i.toNat]++E.Lx x y)) (cf1.ext [wOf α m' s ls.length i.toNat])) q (kf x)):W (G (.mk P T hT n c B0 N X Q) K m e L cf) q ((idx ls i).bind kf):=fun hF=>oe E j hs hj hz hF fun x h1 h2 y h3=>k x h1 y h3 h2
end
noncomputable section
variable {α β ex:Type} {fo:Option α} {kf:α→Option β} {q:β} {d:Option Nat} {f:FuncId} {xs xs0:List SV} {M:List Ch} {sv:α→ex→SV} {Lr:α→ex→List Ch}
theorem pW(is:List Nat)
    (hs:cpS (jB T n K cf m e L)=some (o,d,f,xs,cf1,cf2,K',m',e',L')) (hi:aV (fun i=>L'[i]?) is=some M) (hx:aV (rnP [] 0) xs=some xs0)
    (hk:(JX M && (cS is && is.all fun j=>fA j cf1.yE))=true)
    (hc:∀{κ:Ctx},HG c κ L' is→VS P κ f fo xs0 [] M sv Lr)
    (k:∀x,∀y:ex,W (G (.mk P T hT n c B0 N X Q) K' m' (dse d (sv x y) e') (JU L' is++Lr x y) cf2) q (kf x)) (hn:∀x y,(JX (Lr x y) && BR 0 (sv x y))=true:=by exact fun _ _=>rfl):W (G (.mk P T hT n c B0 N X Q) K m e L cf) q (fo.bind kf):=fun hF=>
  cw0 is hs hi hx hk hn (fun h _ hx=>hc h _ hx) hF fun x _ h y=>k x y h
theorem bP{c1:List SV}{a1:α→ex→List SV}(i1 n1 o1 k1:Nat)(is:List Nat)
    (hs:cpS (jB T n K cf m e L)=some (o,d,f,xs,cf1,cf2,K',m',e',L')) (hb:aC0 L' [(i1,n1,o1,k1)]=some [c1]) (hi:aV (fun i=>L'[i]?) is=some M) (hx:aV (rnP [(i1,n1,o1,k1)] 0) xs=some xs0)
    (hk:(JX M && ([c1].all (BR.okC 0) && (cS (i1 :: is) && (i1 :: is).all fun j=>fA j cf1.yE)))=true)
    (hc:∀{κ:Ctx},HG c κ L' (i1 :: is)→∀{b1:Nat×Nat},VS P κ f fo xs0 [b1] (.box 0 c1 :: M) sv (fun x y=>.box 0 (a1 x y) :: Lr x y))
    (k:∀x,∀y:ex,W (G (.mk P T hT n c B0 N X Q) K' m' (dse d (sv x y) e') (HB L' (JU L' (i1 :: is)++Lr x y) [(i1,n1,o1,k1)] [a1 x y]) cf2) q (kf x)) (hn:∀x y,(UY [(i1,n1,o1,k1)] [a1 x y] && ([a1 x y].all (BR.okC 0) && (JX (Lr x y) && BR 0 (sv x y))))=true:=by exact fun _ _=>rfl):W (G (.mk P T hT n c B0 N X Q) K m e L cf) q (fo.bind kf):=fun hF=>
  cw1 i1 n1 o1 k1 is hs hb hi hx hk hn (fun h _ _ hx=>hc h _ hx) hF fun x _ h y=>k x y h
theorem aC8{c1 c2:List SV}{a1 a2:α→ex→List SV}(i1 n1 o1 k1:Nat)(i2 n2 o2 k2:Nat)(is:List Nat)
    (hs:cpS (jB T n K cf m e L)=some (o,d,f,xs,cf1,cf2,K',m',e',L')) (hb:aC0 L' [(i1,n1,o1,k1),(i2,n2,o2,k2)]=some [c1,c2]) (hi:aV (fun i=>L'[i]?) is=some M) (hx:aV (rnP [(i1,n1,o1,k1),(i2,n2,o2,k2)] 0) xs=some xs0)
    (hk:(JX M && ([c1,c2].all (BR.okC 0) && (cS (i1 :: i2 :: is) && (i1 :: i2 :: is).all fun j=>fA j cf1.yE)))=true)
    (hc:∀{κ:Ctx},HG c κ L' (i1 :: i2 :: is)→∀{b1 b2:Nat×Nat},VS P κ f fo xs0 [b1,b2] (.box 0 c1 :: .box 1 c2 :: M) sv (fun x y=>.box 0 (a1 x y) :: .box 1 (a2 x y) :: Lr x y))
    (k:∀x,∀y:ex,W (G (.mk P T hT n c B0 N X Q) K' m' (dse d (sv x y) e') (HB L' (JU L' (i1 :: i2 :: is)++Lr x y) [(i1,n1,o1,k1),(i2,n2,o2,k2)] [a1 x y,a2 x y]) cf2) q (kf x)) (hn:∀x y,(UY [(i1,n1,o1,k1),(i2,n2,o2,k2)] [a1 x y,a2 x y] && ([a1 x y,a2 x y].all (BR.okC 0) && (JX (Lr x y) && BR 0 (sv x y))))=true:=by exact fun _ _=>rfl):W (G (.mk P T hT n c B0 N X Q) K m e L cf) q (fo.bind kf):=fun hF=>
  cw2 i1 n1 o1 k1 i2 n2 o2 k2 is hs hb hi hx hk hn (fun h _ _ _ hx=>hc h _ hx) hF fun x _ h y=>k x y h
end
theorem aN8{α β:Type}{iR:aM α}{C:ME α}{sr:β→SV}{g:FuncId}{w:World}{p:α→Option β}(hc:∀args w,(callFunc g args).run P w=.ok (.enter g args) w)(hn:∀{κ:Ctx} {x y},C.sub κ.S0 κ.w0 x y→V0 P κ g (p x) [C.sv x y] sr):Fu1 P (b7 w) C sr g [] p:=fu1 hc (by intro κ x y h q hq;exact hn h _ hq)
theorem aE8{α β:Type}{iR:aM α}{C:ME α}{sr:β→SV}{g:FuncId}{w:World}{Bs:Bl}{cs:List (Nat×List SV)}{p:α→Option β}(hc:∀args w,(callFunc g args).run P w=.ok (.enter g args) w)(hB:∀w1,eH F0 w w1→kP (b7 w1) w1 Bs (roL 0 cs))(hl:aV (eD Bs) (aK4 0 cs)=some (UX Bs))(hn:∀{w1 x y},eH F0 w w1→C.sub (JE w1) w1 x y→VS P (b7 w1) g (p x) (C.sv x y :: aK4 0 cs) Bs (roL 0 cs) (fun r (_:Unit)=>sr r) (fun _ _=>[]))(hz:∀q,BR 0 (sr q)=true:=by exact fun _=>rfl):Fu1 P (b7 w) C sr g (UX Bs) p:=fk1 hc hB hl hz (by intro w1 x y h h' q hq;exact hn h h' _ hq)
noncomputable section
variable {α β:Type} {fo:Option α} {kf:α→Option β} {q:β} {d:Nat} {f g:FuncId} {xs:List SV} {sv:α→SV}
theorem aE9{n1:Nat}{c1:List SV}(is:List Nat)(hs:jB T n K cf m e L=.callp o (some d) f xs cf1 cf2 K' m' e' L')(hk:kl L' is=[.ro n1 c1])(ho:(aCX [(n1,c1)] && okA xs.dropLast)=true)(hx:xs=xs.dropLast ++ [.f g [n1]])
    (hc:∀{w},HS c w L'→∀{b1:Nat×Nat},(∀w1,eH F0 w w1→kP (b7 w1) w1 [b1] [.ro 0 c1])→V0 P (b7 w) f fo (xs.dropLast ++ [.k (.func (.func g) #[] (UX [b1]).toArray)]) sv)
    (k:∀x,W (G (.mk P T hT n c B0 N X Q) K' m' ((d,sv x) :: e') L' cf2) q (kf x)):W (G (.mk P T hT n c B0 N X Q) K m e L cf) q (fo.bind kf):=fun hF=>
  aTN is hs hk ho hx (fun h _ h2 _ hx=>hc h h2 _ hx) hF fun x _ h=>k x h
end
end
end Go.Gv
end
noncomputable section
set_option linter.unusedVariables false
set_option linter.unusedSimpArgs false
namespace Go.Gv
def pV(y:Nat×Nat):Value:=.pointer (some ⟨y.1,y.2,none⟩)
noncomputable section
variable {P:Program} {T:TT} {hT:AZ P T} {n:Nat} {c:Ctx} {B0:Bl} {N:Act→World→Prop} {X:Nat→Act→World→Prop} {Q:Act→World→Prop} {K K':List Fr} {m m':Nat} {e e':SE} {L L':List Ch} {cf cf1 cf2:sH} {o:Oper}
abbrev VP(P:Program)(c:Ctx)(f:FuncId){ρ:Type}(F:Option ρ)(xs:List SV)(cs:ρ→List SV):Prop:=VS P c f F xs [] [] (fun _ (y:Nat×Nat)=>.k (pV y)) (fun r y=>[.o (JS [y] 0 (cs r))])
theorem rtP{fn:Func}{ρ:Type}{r r':ρ}{t:Nat}{hr:fn.results=[ResultVar.tmp t].toArray}{zz:Option ρ}{cs:ρ→List SV}(is:List Nat)(hz:zz=some r')(hs:jB T n K cf m e L=.ret m' e' L')(hL:MK 0 m' e' L' is 1 [(t,.p 0 0)] [.box 0 (cs r')]=some ([(t,.p 0 0)],[.box 0 (cs r')]))(ho:BR.okC 0 (cs r')=true):W (G (.mk P T hT n c [] N X (QR P fn hr c [] (fun _ (y:Nat×Nat)=>.k (pV y)) (fun r y=>[.o (JS [y] 0 (cs r))]) r)) K m e L cf) r zz:=fun hF=>by
  subst hz;cases hF
  refine eS (g:=.mk P T hT n c [] N X _) ?_
  rw [hs]
  intro a w hr'
  obtain⟨B,hm,hA,hS⟩:=lH.MK hr' is hL
  have hB:∃y,B=[y]:=by
    cases B with
    | nil=>simp at hm
    | cons y B => cases B with
      | nil=>exact⟨y,rfl⟩
      | cons z B=>simp at hm
  obtain⟨y,rfl⟩:=hB
  have hS:kP c w [y] [.box 0 (cs r)]:=hS
  have hA:eG n [y] [(t,.p 0 0)] a:=hA
  have hv:aAR T [(t,.p 0 0)] [.box 0 (cs r)] [ResultVar.tmp t]=some (.p 0 0):=by simp [aAR,aKC,v8]
  obtain⟨v,h1,h2⟩:=T1 hr hT hA hS hv
  have hv':v=pV y:=by
    simp only [eD,gV,bL,List.getElem?_cons_zero] at h1
    cases h1;rfl
  subst hv'
  refine⟨hA.d,_,h2,y,by simp [eD,gV,bL,pV,Value.oneCell'],?_⟩
  obtain⟨⟨R,s1,s2⟩,s0⟩:=hS
  exact⟨⟨R,s1.imp (.cons (fun F h=>h) .nil),fun x hx=>by rcases List.mem_cons.1 hx with rfl | hx <;> first | trivial | simp at hx⟩,s0⟩
theorem cP{α β:Type}{fo:Option α}{kf:α→Option β}{q:β}{d:Nat}{f:FuncId}{xs:List SV}{cs:α→List SV}(hs:jB T n K cf m e L=.call o (some d) f xs cf1 cf2 K' m' e' L')
    (hc:∀{w},HS c w L'→VP P (b7 w) f fo xs cs) (k:∀x,W (G (.mk P T hT n c B0 N X Q) K' (m'+1) ((d,.p m' 0) :: e') (L' ++ [.box m' (cs x)]) cf2) q (kf x)) (hk:∀x,BR.okC 0 (cs x)=true:=by exact fun _=>rfl):W (G (.mk P T hT n c B0 N X Q) K m e L cf) q (fo.bind kf):=fun hF=>by
  refine eS (g:=.mk P T hT n c B0 N X Q) ?_
  rw [hs]
  intro fo' args ats ho hd hf ⟨ys,hys,hxs⟩ hA0 hdn hE
  subst hxs
  cases hfo:fo with
  | none=>rw [hfo] at hF;cases hF
  | some x =>
    rw [hfo] at hF
    refine hE Unit (fun _=>m'+1) (fun _=>(d,.p m' 0) :: e') (fun _=>L' ++ [.box m' (cs x)]) (fun _=>tV _) (fun B a w next Q' hm hA hS hnext=>?_) (fun _=>k x hF)
    obtain⟨hcall,hrun⟩:=hc ⟨_,hS⟩ x hfo
    obtain⟨vs,h1,h2⟩:=RJ hA hys
    obtain⟨v,h3,h4⟩:=dP hA hf
    simp [eD,aV] at h3
    subst h3
    have h5:=hrun vs (T2 hA0 (by rw [LR];exact h1)) (aCV w)
    have h6:=OM (w:=w) hcall ho h4 h2
    unfold Oper.wp
    rw [h6 _ a hA.env,Oper.upon_enter]
    refine Calls.mono h5 fun en w' ⟨v,hv,y,g1,g2⟩=>?_
    subst hv
    rw [hd]
    have hv':v=pV y:=by simpa [eD,gV,bL,pV,Value.oneCell'] using g1.symm
    subst hv'
    have hb:∀{F:cD},(JS [y] 0 (cs x)).P w' F→(JS ((OJ (.mk P T hT n c B0 N X Q) cf1++B) ++ [y]) m' (cs x)).P w' F:=fun⟨b,z,us,k1,k2,k3⟩=>by
      simp only [List.getElem?_cons_zero,Option.some.injEq] at k1
      refine⟨y.1,y.2,us,?_,?_,by rw [k1];exact k3⟩
      · rw [List.getElem?_append_right (by omega),hm];simp
      · simpa using dW (fun x v h=>by simpa using eK (B:=[]) (OJ (.mk P T hT n c B0 N X Q) cf1++B ++ [y]) h) (BW (hk x) k2)
    have g3:eD ((OJ (.mk P T hT n c B0 N X Q) cf1++B) ++ [y]) (.p m' 0)=some (pV y):=by
      simp only [eD,gV,bL]
      rw [List.getElem?_append_right (by omega),hm]
      simp [pV]
    refine hnext () _ _ ⟨[y],by simp only [List.length_append,List.length_cons,List.length_nil] at hm ⊢;omega,hA.ext g3 (hA.env.put (by simpa [pN,Nat.blt_eq] using hdn) _),?_⟩
    obtain⟨⟨R,s1,s2⟩,s0⟩:=(hS.after (L2:=[.o (JS [y] 0 (cs x))]) rfl g2).app [y]
    refine⟨⟨R,s1.imp ?_,fun z hz=>?_⟩,s0⟩
    · rw [List.map_append,List.map_append]
      exact fY.append (fY.refl _) (.cons (fun F h=>hb h) .nil)
    · rcases List.mem_append.1 hz with hz | hz
      · exact s2 z (List.mem_append_left _ hz)
      · rcases List.mem_cons.1 hz with rfl | hz <;> first | trivial | simp at hz
end
end Go.Gv
end
noncomputable section
namespace Go.Gv
structure aB where
  Bytes:List Int
  Class:List Int
  deriving DecidableEq,Inhabited
instance:aM aB:=aM.via (fun d=>(d.Bytes,d.Class))
instance:Fits aB:=Fits.via (fun d=>(d.Bytes,d.Class))
structure aD where
  aO:List Int
  deriving DecidableEq,Inhabited
instance:aM aD:=aM.via (fun d=>(d.aO))
instance:Fits aD:=Fits.via (fun d=>(d.aO))
theorem aC9{S:cD}{w:World}{cs:List Value}{d:aD}(h:aM.rd S w cs d):∃v0:Value,cs=[v0]∧aM.rd S w [v0] d.aO:=by
  obtain⟨u0,q0⟩:=JN h
  rw [q0] at h
  exact⟨u0,q0,h⟩
theorem JY(d:aD){v0:Value}:OP [v0] d [eR [v0] d.aO]:=(show OP (α:=(List Int)) _ (d.aO) _ from aJO)
theorem _root_.Go.Gv.St.aLS{c:Ctx}{L:List Chunk}{R:List Fact}{w:World}{s:Value}{l:List aD}{i:Nat}{x:aD}(h:St c w L R)(j:Nat)(hj:R[j]?=some (v7 [s] l))(hi:l[i]?=some x):∃v0:Value,bR w (JK s) (JF 1 i s) [v0]∧St c w L (R ++ [v7 [v0] x.aO]):=by
  obtain⟨S,hS,hk⟩:=h.aJG hj
  obtain⟨ec,h1,h2⟩:=aCF hS hi
  obtain⟨v0,q,q0⟩:=aC9 h2
  rw [q] at h1
  exact⟨v0,h1,hk _ (by intro f hf;simp only [List.mem_cons,List.not_mem_nil,or_false] at hf;subst hf;exact q0)⟩
structure aA where
  Global:List aD
  aR:List aD
  deriving DecidableEq,Inhabited
instance:aM aA:=aM.via (fun d=>(d.Global,d.aR))
instance:Fits aA:=Fits.via (fun d=>(d.Global,d.aR))
structure Mem where
  aB:aB
  aA:aA
  deriving DecidableEq,Inhabited
instance:aM Mem:=aM.via (fun d=>(d.aB,d.aA))
instance:Fits Mem:=Fits.via (fun d=>(d.aB,d.aA))
structure dS where
  On:Bool
  aE:Int
  d5:Bool
  Seen:Int
  deriving DecidableEq,Inhabited
instance:aM dS:=aM.via (fun d=>(d.On,d.aE,d.d5,d.Seen))
instance:Fits dS:=Fits.via (fun d=>(d.On,d.aE,d.d5,d.Seen))
theorem aQR{S:cD}{w:World}{cs:List Value}{d:dS}(h:aM.rd S w cs d):cs=[.bool (d.On),.int .i64 (d.aE),.bool (d.d5),.int .i64 (d.Seen)]:=by
  obtain⟨c0,r0,e0,h0,n0⟩:=h
  have q0:c0=[_]:=h0
  obtain⟨c1,r1,e1,h1,n1⟩:=n0
  have q1:c1=[_]:=h1
  obtain⟨c2,r2,e2,h2,n2⟩:=n1
  have q2:c2=[_]:=h2
  have q3:r2=[_]:=n2
  exact by rw [e0,e1,e2,q0,q1,q2,q3];rfl
theorem aQS{S:cD}{w:World}(d:dS):aM.rd S w [.bool (d.On),.int .i64 (d.aE),.bool (d.d5),.int .i64 (d.Seen)] d:=⟨[.bool (d.On)],[.int .i64 (d.aE),.bool (d.d5),.int .i64 (d.Seen)],rfl,rfl,⟨[.int .i64 (d.aE)],[.bool (d.d5),.int .i64 (d.Seen)],rfl,rfl,⟨[.bool (d.d5)],[.int .i64 (d.Seen)],rfl,rfl,rfl⟩⟩⟩
instance:Flat dS:=⟨fun h=>Flat.own_of (α:=Bool×Int×Bool×Int) h,fun h=>Flat.no (α:=Bool×Int×Bool×Int) h⟩
theorem aQT(d:dS):OP [.bool (d.On),.int .i64 (d.aE),.bool (d.d5),.int .i64 (d.Seen)] d []:=(show OP (α:=Bool×Int×Bool×Int) _ (d.On,d.aE,d.d5,d.Seen) _ from (TV (c1:=[.bool (d.On)]) (c2:=[.int .i64 (d.aE),.bool (d.d5),.int .i64 (d.Seen)]) (A:=[]) (B:=[]) (BT rfl) (TV (c1:=[.int .i64 (d.aE)]) (c2:=[.bool (d.d5),.int .i64 (d.Seen)]) (A:=[]) (B:=[]) (BT rfl) (TV (c1:=[.bool (d.d5)]) (c2:=[.int .i64 (d.Seen)]) (A:=[]) (B:=[]) (BT rfl) (BT rfl) rfl) rfl) rfl))
structure aC where
  aE:Int
  aN:List dS
  deriving DecidableEq,Inhabited
instance:aM aC:=aM.via (fun d=>(d.aE,d.aN))
instance:Fits aC:=Fits.via (fun d=>(d.aE,d.aN))
structure bM where
  Handle:Int
  aE:Int
  deriving DecidableEq,Inhabited
instance:aM bM:=aM.via (fun d=>(d.Handle,d.aE))
instance:Fits bM:=Fits.via (fun d=>(d.Handle,d.aE))
theorem aHI{S:cD}{w:World}{cs:List Value}{d:bM}(h:aM.rd S w cs d):cs=[.int .i64 (d.Handle),.int .i64 (d.aE)]:=by
  obtain⟨c0,r0,e0,h0,n0⟩:=h
  have q0:c0=[_]:=h0
  have q1:r0=[_]:=n0
  exact by rw [e0,q0,q1];rfl
theorem aN9{S:cD}{w:World}(d:bM):aM.rd S w [.int .i64 (d.Handle),.int .i64 (d.aE)] d:=⟨[.int .i64 (d.Handle)],[.int .i64 (d.aE)],rfl,rfl,rfl⟩
instance:Flat bM:=⟨fun h=>Flat.own_of (α:=Int×Int) h,fun h=>Flat.no (α:=Int×Int) h⟩
theorem aOA(d:bM):OP [.int .i64 (d.Handle),.int .i64 (d.aE)] d []:=(show OP (α:=Int×Int) _ (d.Handle,d.aE) _ from (TV (c1:=[.int .i64 (d.Handle)]) (c2:=[.int .i64 (d.aE)]) (A:=[]) (B:=[]) (BT rfl) (BT rfl) rfl))
theorem aOB{S:cD}{w:World}{s:Value}{l:List bM}{i:Nat}{x:bM}(h:aM.rd S w [s] l)(hi:l[i]?=some x):bR w (JK s) (JF 2 i s) [.int .i64 (x.Handle),.int .i64 (x.aE)]:=by
  obtain⟨ec,h1,h2⟩:=aCF h hi
  rw [aHI h2] at h1;exact h1
structure aK where
  Rows:List bM
  deriving DecidableEq,Inhabited
instance:aM aK:=aM.via (fun d=>(d.Rows))
instance:Fits aK:=Fits.via (fun d=>(d.Rows))
theorem aDA{S:cD}{w:World}{cs:List Value}{d:aK}(h:aM.rd S w cs d):∃v0:Value,cs=[v0]∧aM.rd S w [v0] d.Rows:=by
  obtain⟨u0,q0⟩:=JN h
  rw [q0] at h
  exact⟨u0,q0,h⟩
theorem aDB(d:aK){v0:Value}:OP [v0] d [eR [v0] d.Rows]:=(show OP (α:=(List bM)) _ (d.Rows) _ from aJO)
theorem _root_.Go.Gv.St.aDC{c:Ctx}{L:List Chunk}{R:List Fact}{w:World}{s:Value}{l:List aK}{i:Nat}{x:aK}(h:St c w L R)(j:Nat)(hj:R[j]?=some (v7 [s] l))(hi:l[i]?=some x):∃v0:Value,bR w (JK s) (JF 1 i s) [v0]∧St c w L (R ++ [v7 [v0] x.Rows]):=by
  obtain⟨S,hS,hk⟩:=h.aJG hj
  obtain⟨ec,h1,h2⟩:=aCF hS hi
  obtain⟨v0,q,q0⟩:=aDA h2
  rw [q] at h1
  exact⟨v0,h1,hk _ (by intro f hf;simp only [List.mem_cons,List.not_mem_nil,or_false] at hf;subst hf;exact q0)⟩
structure aI where
  Mem:Mem
  aC:aC
  aJ:List aK
  cA:List Int
  deriving DecidableEq,Inhabited
instance:aM aI:=aM.via (fun d=>(d.Mem,d.aC,d.aJ,d.cA))
instance:Fits aI:=Fits.via (fun d=>(d.Mem,d.aC,d.aJ,d.cA))
structure GOp where
  Kind:Int
  Cell:Int
  aLV:Int
  Val:Int
  deriving DecidableEq,Inhabited
instance:aM GOp:=aM.via (fun d=>(d.Kind,d.Cell,d.aLV,d.Val))
instance:Fits GOp:=Fits.via (fun d=>(d.Kind,d.Cell,d.aLV,d.Val))
instance:Flat GOp:=⟨fun h=>Flat.own_of (α:=Int×Int×Int×Int) h,fun h=>Flat.no (α:=Int×Int×Int×Int) h⟩
structure Sub where
  Kind:Int
  A:Int
  Pc:Int
  E:Int
  Row:Int
  B:Int
  H:Int
  Out:Int
  Code:Int
  cQ:Bool
  deriving DecidableEq,Inhabited
instance:aM Sub:=aM.via (fun d=>(d.Kind,d.A,d.Pc,d.E,d.Row,d.B,d.H,d.Out,d.Code,d.cQ))
instance:Fits Sub:=Fits.via (fun d=>(d.Kind,d.A,d.Pc,d.E,d.Row,d.B,d.H,d.Out,d.Code,d.cQ))
instance:Flat Sub:=⟨fun h=>Flat.own_of (α:=Int×Int×Int×Int×Int×Int×Int×Int×Int×Bool) h,fun h=>Flat.no (α:=Int×Int×Int×Int×Int×Int×Int×Int×Int×Bool) h⟩
structure MG where
  aBA:Bool
  Op:GOp
  DK:Int
  Pc:Int
  Sub:Sub
  H:Int
  Old:Int
  Val:Int
  Code:Int
  deriving DecidableEq,Inhabited
instance:aM MG:=aM.via (fun d=>(d.aBA,d.Op,d.DK,d.Pc,d.Sub,d.H,d.Old,d.Val,d.Code))
instance:Fits MG:=Fits.via (fun d=>(d.aBA,d.Op,d.DK,d.Pc,d.Sub,d.H,d.Old,d.Val,d.Code))
instance:Flat MG:=⟨fun h=>Flat.own_of (α:=Bool×GOp×Int×Int×Sub×Int×Int×Int×Int) h,fun h=>Flat.no (α:=Bool×GOp×Int×Int×Sub×Int×Int×Int×Int) h⟩
structure Queue where
  OA:List GOp
  deriving DecidableEq,Inhabited
instance:aM Queue:=aM.via (fun d=>(d.OA))
instance:Fits Queue:=Fits.via (fun d=>(d.OA))
structure Ev where
  Kind:Int
  Who:Int
  DK:Int
  Cell:Int
  Handle:Int
  Val:Int
  Code:Int
  deriving DecidableEq,Inhabited
instance:aM Ev:=aM.via (fun d=>(d.Kind,d.Who,d.DK,d.Cell,d.Handle,d.Val,d.Code))
instance:Fits Ev:=Fits.via (fun d=>(d.Kind,d.Who,d.DK,d.Cell,d.Handle,d.Val,d.Code))
instance:Flat Ev:=⟨fun h=>Flat.own_of (α:=Int×Int×Int×Int×Int×Int×Int) h,fun h=>Flat.no (α:=Int×Int×Int×Int×Int×Int×Int) h⟩
structure pZ where
  aI:aI
  Cells:List Int
  YJ:List MG
  SW:List Queue
  Log:List Ev
  DK:Int
  deriving DecidableEq,Inhabited
instance:aM pZ:=aM.via (fun d=>(d.aI,d.Cells,d.YJ,d.SW,d.Log,d.DK))
instance:Fits pZ:=Fits.via (fun d=>(d.aI,d.Cells,d.YJ,d.SW,d.Log,d.DK))
structure Span where
  aOC:Int
  To:Int
  deriving DecidableEq,Inhabited
instance:aM Span:=aM.via (fun d=>(d.aOC,d.To))
instance:Fits Span:=Fits.via (fun d=>(d.aOC,d.To))
instance:Flat Span:=⟨fun h=>Flat.own_of (α:=Int×Int) h,fun h=>Flat.no (α:=Int×Int) h⟩
structure aL where
  b:List UInt8
  i:Int
  h:Int
  deriving DecidableEq,Inhabited
instance:aM aL:=aM.via (fun d=>(d.b,d.i,d.h))
instance:Fits aL:=Fits.via (fun d=>(d.b,d.i,d.h))
structure aLU where
  SW:List Queue
  aPC:List Int
  deriving DecidableEq,Inhabited
instance:aM aLU:=aM.via (fun d=>(d.SW,d.aPC))
instance:Fits aLU:=Fits.via (fun d=>(d.SW,d.aPC))
end Go.Gv
end
noncomputable section
set_option linter.unusedVariables false
namespace Go.Gv
noncomputable section
def BX(x1:Bool):Option Bool:=
  some x1
def bG(x low high:Int):Option Bool:=
  (if decide (low≤x) then BX (decide (x≤high)) else BX false)
def IE:Option Bool:=
  some true
def iW(x3:Int)(x5:Bool):Option (Step Int (Out Unit Bool)):=
  (if x5 then some (.stop (Out.ret false)) else some (.next (aX (x3+1))))
def oC(c:aC):Int→Option (Step Int (Out Unit Bool))
  | x3=>(if decide (x3 < 3) then (idx c.aN x3).bind fun x4=>(if !x4.On then (if !(decide (x4=(⟨false,0,false,0⟩:dS))) then iW x3 true else (bG x4.aE 0 c.aE).bind fun x6=>(if !x6 then iW x3 true else (bG x4.Seen 0 2).bind fun x7=>iW x3 (!x7))) else (bG x4.aE 0 c.aE).bind fun x8=>(if !x8 then iW x3 true else (bG x4.Seen 0 2).bind fun x9=>iW x3 (!x9))) else some (.stop (Out.brk ())))
def A0:(Out Unit Bool)→Option Bool
  | .brk ()=>IE
  | .ret r=>some r
def kT(c:aC)(x1:Bool):Option Bool:=
  (if x1 then some false else (loop (oC c) 0).bind (A0))
def jE(c:aC):Option Bool:=
  (bG c.aE 0 100000).bind fun x10=>(if !x10 then kT c true else kT c ((c.aN.length:Int) != 3))
def IF(b:List Int):Option Bool:=
  some (decide ((b.length:Int)≤1000))
def kU(b:List Int):Int→Option (Step Int (Out Unit Bool))
  | x2=>(if decide (x2 < (b.length:Int)) then (idx b x2).bind fun x3=>(bG x3 0 255).bind fun x4=>(if !x4 then some (.stop (Out.ret false)) else some (.next (aX (x2+1)))) else some (.stop (Out.brk ())))
def A1(b:List Int):(Out Unit Bool)→Option Bool
  | .brk ()=>IF b
  | .ret r=>some r
def BY(b:List Int):Option Bool:=
  (loop (kU b) 0).bind (A1 b)
def RW:Option Bool:=
  some true
def kV(h:aB):Int→Option (Step Int (Out Unit Bool))
  | x3=>(if decide (x3 < 6) then (idx h.Class x3).bind fun x4=>(bG x4 (-1) 2).bind fun x5=>(if !x5 then some (.stop (Out.ret false)) else some (.next (aX (x3+1)))) else some (.stop (Out.brk ())))
def RX:(Out Unit Bool)→Option Bool
  | .brk ()=>RW
  | .ret r=>some r
def oD(h:aB)(x1:Bool):Option Bool:=
  (if x1 then some false else (loop (kV h) 0).bind (RX))
def wA(h:aB):Option Bool:=
  (if (h.Bytes.length:Int) != 384 then oD h true else (if (h.Class.length:Int) != 6 then oD h true else (BY h.Bytes).bind fun x6=>oD h (!x6)))
def U4(x5:Int):Option Int:=
  some x5
def p7(b:List Int)(at_ width:Int):(Int×Int)→Option (Step (Int×Int) Int)
  | (x3,x4)=>(if decide (x4 < width) then (idx b (aX (at_+x4))).bind fun x6=>some (.next (aX ((aX (x3 * 256))+x6),aX (x4+1))) else some (.stop (x3)))
def U5:Int→Option Int
  | x5=>U4 x5
def AE(b:List Int)(at_ width:Int):Option Int:=
  (loop (p7 b at_ width) (0,0)).bind (U5)
def p8(c:Int):Option Int:=
  (if c == 0 then some 8 else (if c == 1 then some 16 else (if c == 2 then some 40 else some 0)))
def sS(c:Int):Option Int:=
  (bG c 0 2).bind fun x1=>(if !x1 then some 0 else (p8 c).bind fun x2=>some (aX (4+x2)))
def jF(c:Int):Option Int:=
  (bG c 0 2).bind fun x1=>(if !x1 then some 0 else (sS c).bind fun x2=>need (x2≠0) (some (aX (Int.tdiv 56 x2))))
def vL(slot:Int):Option Int:=
  (bG slot 0 23).bind fun x1=>(if !x1 then some (-1) else some (aX (Int.tdiv slot 4)))
def rN(slot:Int):Option Int:=
  (bG slot 0 23).bind fun x1=>(if !x1 then some (-1) else some (Int.tmod slot 4))
def y9(slot c:Int)(x1:Bool):Option Int:=
  (if x1 then some (-1) else (vL slot).bind fun x2=>(rN slot).bind fun x3=>(sS c).bind fun x4=>some (aX ((aX ((aX (x2 * 64))+8))+(aX (x3 * x4)))))
def nM(slot c:Int):Option Int:=
  (vL slot).bind fun x5=>(if decide (x5 < 0) then y9 slot c true else (rN slot).bind fun x6=>(jF c).bind fun x7=>(bG x6 0 (aX (x7 - 1))).bind fun x8=>y9 slot c (!x8))
def p9(page index:Int)(x1:Bool):Option Int:=
  (if x1 then some (-1) else some (aX ((aX (page * 4))+index)))
def nJ(page index:Int):Option Int:=
  (bG page 0 5).bind fun x2=>(if !x2 then p9 page index true else (bG index 0 3).bind fun x3=>p9 page index (!x3))
def U6:Option Bool:=
  some true
def mJ(h:aB)(p:Int):Int→Option (Step Int (Out Unit Bool))
  | x3=>(if decide (x3 < (aX ((aX (p * 64))+64))) then (idx h.Bytes x3).bind fun x4=>(if x4 != 0 then some (.stop (Out.ret false)) else some (.next (aX (x3+1)))) else some (.stop (Out.brk ())))
def U7:(Out Unit Bool)→Option Bool
  | .brk ()=>U6
  | .ret r=>some r
def U8:Option Bool:=
  some true
def mK(h:aB)(p x1:Int):Int→Option (Step Int (Out Unit Bool))
  | x9=>(jF x1).bind fun x10=>(if decide (x9 < x10) then (nJ p x9).bind fun x11=>(nM x11 x1).bind fun x12=>(AE h.Bytes x12 4).bind fun x13=>(bG x13 1 7).bind fun x14=>(if !x14 then some (.stop (Out.ret false)) else some (.next (aX (x9+1)))) else some (.stop (Out.brk ())))
def U9:(Out Unit Bool)→Option Bool
  | .brk ()=>U8
  | .ret r=>some r
def JZ(h:aB)(p x1:Int):Option Bool:=
  (loop (mK h p x1) 0).bind (U9)
def mL(h:aB)(p:Int):Int→Option (Step Int (Out Unit Bool))
  | x7=>(if decide (x7 < (aX ((aX (p * 64))+8))) then (idx h.Bytes x7).bind fun x15=>(if x15 != 0 then some (.stop (Out.ret false)) else some (.next (aX (x7+1)))) else some (.stop (Out.brk ())))
def J0(h:aB)(p x1:Int):(Out Unit Bool)→Option Bool
  | .brk ()=>JZ h p x1
  | .ret r=>some r
def iE(h:aB)(p x1:Int)(x5:Bool):Option Bool:=
  (if x5 then some false else (loop (mL h p) (aX ((aX (p * 64))+3))).bind (J0 h p x1))
def EJ(h:aB)(p:Int):Option Bool:=
  (idx h.Class p).bind fun x1=>(if decide (x1 < 0) then (loop (mJ h p) (aX (p * 64))).bind (U7) else (idx h.Bytes (aX (p * 64))).bind fun x16=>(if x16 != 171 then iE h p x1 true else (idx h.Bytes (aX ((aX (p * 64))+1))).bind fun x17=>(if x17 != x1 then iE h p x1 true else (idx h.Bytes (aX ((aX (p * 64))+2))).bind fun x18=>(jF x1).bind fun x19=>iE h p x1 (x18 != x19))))
def VA:Option Bool:=
  some true
def qA(h:aB):Int→Option (Step Int (Out Unit Bool))
  | x3=>(if decide (x3 < 6) then (EJ h x3).bind fun x4=>(if !x4 then some (.stop (Out.ret false)) else some (.next (aX (x3+1)))) else some (.stop (Out.brk ())))
def VB:(Out Unit Bool)→Option Bool
  | .brk ()=>VA
  | .ret r=>some r
def vM(h:aB):Option Bool:=
  (wA h).bind fun x1=>(if !x1 then some false else (loop (qA h) 0).bind (VB))
def X4:Option Bool:=
  some false
def oZ(l:List Int)(x:Int):Int→Option (Step Int (Out Unit Bool))
  | x2=>(if decide (x2 < (l.length:Int)) then (idx l x2).bind fun x3=>(if x3 == x then some (.stop (Out.ret true)) else some (.next (aX (x2+1)))) else some (.stop (Out.brk ())))
def X5:(Out Unit Bool)→Option Bool
  | .brk ()=>X4
  | .ret r=>some r
def uY(l:List Int)(x:Int):Option Bool:=
  (loop (oZ l x) 0).bind (X5)
def X6(x10:List Int):Option (List Int):=
  some x10
def sT(l:aA):((List Int)×Int)→Option (Step ((List Int)×Int) (List Int))
  | (x8,x9)=>(if decide (x9 < (l.aR.length:Int)) then (idx l.aR x9).bind fun x11=>need (x8.length+x11.aO.length≤1073741824) (some (.next (x8++x11.aO,aX (x9+1)))) else some (.stop (x8)))
def X7:(List Int)→Option (List Int)
  | x10=>X6 x10
def ML(l:aA)(x5:List Int):Option (List Int):=
  (loop (sT l) (x5,0)).bind (X7)
def sU(l:aA):((List Int)×Int)→Option (Step ((List Int)×Int) (List Int))
  | (x3,x4)=>(if decide (x4 < (l.Global.length:Int)) then (idx l.Global x4).bind fun x12=>need (x3.length+x12.aO.length≤1073741824) (some (.next (x3++x12.aO,aX (x4+1)))) else some (.stop (x3)))
def MM(l:aA):(List Int)→Option (List Int)
  | x5=>ML l x5
def yJ(l:aA):Option (List Int):=
  (loop (sU l) (([]:List Int),0)).bind (MM l)
def RY:Option Bool:=
  some true
def tW(x6:Int)(x7:Bool):Option (Step Int (Out Unit Bool)):=
  (if x7 then some (.stop (Out.ret false)) else some (.next (aX (x6+1))))
def kW(x4:(List Int)):Int→Option (Step Int (Out Unit Bool))
  | x6=>(if decide (x6 < (x4.length:Int)) then (idx x4 x6).bind fun x8=>(bG x8 0 23).bind fun x9=>(if !x9 then tW x6 true else need (0≤(x6:Int)∧(x6:Int)≤(x4.length:Int)) ((idx x4 x6).bind fun x10=>(uY ((x4.take x6.toNat).drop 0) x10).bind fun x11=>tW x6 x11)) else some (.stop (Out.brk ())))
def RZ:(Out Unit Bool)→Option Bool
  | .brk ()=>RY
  | .ret r=>some r
def IG(l:aA):Option Bool:=
  (yJ l).bind fun x4=>(loop (kW x4) 0).bind (RZ)
def kX(l:aA):Int→Option (Step Int (Out Unit Bool))
  | x3=>(if decide (x3 < (l.aR.length:Int)) then (idx l.aR x3).bind fun x12=>(if decide (2 < (x12.aO.length:Int)) then some (.stop (Out.ret false)) else some (.next (aX (x3+1)))) else some (.stop (Out.brk ())))
def IH(l:aA):(Out Unit Bool)→Option Bool
  | .brk ()=>IG l
  | .ret r=>some r
def tX(l:aA)(x1:Bool):Option Bool:=
  (if x1 then some false else (loop (kX l) 0).bind (IH l))
def nN(l:aA):Option Bool:=
  (if (l.Global.length:Int) != 3 then tX l true else tX l ((l.aR.length:Int) != 9))
def oF(h:aB)(x1:Int)(x2:Bool):Option Int:=
  (if x2 then some (-1) else (idx h.Class x1).bind fun x3=>some x3)
def g9(h:aB)(slot:Int):Option Int:=
  (vL slot).bind fun x1=>(if decide (x1 < 0) then oF h x1 true else (idx h.Class x1).bind fun x4=>(if decide (x4 < 0) then oF h x1 true else (idx h.Class x1).bind fun x5=>(rN slot).bind fun x6=>(jF x5).bind fun x7=>oF h x1 (decide (x7≤x6))))
def qB(h:aB)(slot:Int):Option Int:=
  (g9 h slot).bind fun x1=>(nM slot x1).bind fun x2=>(AE h.Bytes x2 4).bind fun x3=>some x3
def QJ:Option Bool:=
  some true
def rO(x2:Int)(x3:Bool):Option (Step Int (Out Unit Bool)):=
  (if x3 then some (.stop (Out.ret false)) else some (.next (aX (x2+1))))
def jU(h:aB)(l:List Int)(c:Int):Int→Option (Step Int (Out Unit Bool))
  | x2=>(if decide (x2 < (l.length:Int)) then (idx l x2).bind fun x4=>(g9 h x4).bind fun x5=>(if x5 != c then rO x2 true else (idx l x2).bind fun x6=>(qB h x6).bind fun x7=>rO x2 (decide (6 < x7))) else some (.stop (Out.brk ())))
def QK:(Out Unit Bool)→Option Bool
  | .brk ()=>QJ
  | .ret r=>some r
def sV(h:aB)(l:List Int)(c:Int):Option Bool:=
  (loop (jU h l c) 0).bind (QK)
def o4(w_ c:Int)(x1:Bool):Option Int:=
  (if x1 then some (-1) else some (aX ((aX (w_ * 3))+c)))
def j8(w_ c:Int):Option Int:=
  (bG w_ 0 2).bind fun x2=>(if !x2 then o4 w_ c true else (bG c 0 2).bind fun x3=>o4 w_ c (!x3))
def X8:Option Bool:=
  some true
def MN(x3:Int):Option (Step Int (Out Unit Bool)):=
  some (.next (aX (x3+1)))
def sW(m:Mem)(x3:Int):Int→Option (Step Int (Out Unit Bool))
  | x7=>(if decide (x7 < 3) then (j8 x7 x3).bind fun x8=>(idx m.aA.aR x8).bind fun x9=>(sV m.aB x9.aO x3).bind fun x10=>(if !x10 then some (.stop (Out.ret false)) else some (.next (aX (x7+1)))) else some (.stop (Out.brk ())))
def MO(x3:Int):(Out Unit Bool)→Option (Step Int (Out Unit Bool))
  | .brk ()=>MN x3
  | .ret r=>some (.stop (Out.ret r))
def sY(m:Mem):Int→Option (Step Int (Out Unit Bool))
  | x3=>(if decide (x3 < 3) then (idx m.aA.Global x3).bind fun x4=>(sV m.aB x4.aO x3).bind fun x5=>(if !x5 then some (.stop (Out.ret false)) else (loop (sW m x3) 0).bind (MO x3)) else some (.stop (Out.brk ())))
def X9:(Out Unit Bool)→Option Bool
  | .brk ()=>X8
  | .ret r=>some r
def zA(m:Mem)(x1:Bool):Option Bool:=
  (if x1 then some false else (loop (sY m) 0).bind (X9))
def qC(m:Mem):Option Bool:=
  (vM m.aB).bind fun x11=>(if !x11 then zA m true else (nN m.aA).bind fun x12=>zA m (!x12))
def VC(x5:List bM):Option (List bM):=
  some x5
def qD(l:List aK):((List bM)×Int)→Option (Step ((List bM)×Int) (List bM))
  | (x3,x4)=>(if decide (x4 < (l.length:Int)) then (idx l x4).bind fun x6=>need (x3.length+x6.Rows.length≤1073741824) (some (.next (x3++x6.Rows,aX (x4+1)))) else some (.stop (x3)))
def VD:(List bM)→Option (List bM)
  | x5=>VC x5
def vN(l:List aK):Option (List bM):=
  (loop (qD l) (([]:List bM),0)).bind (VD)
def rP(x1:Bool):Option Bool:=
  some x1
def hC(h:Int):Option Bool:=
  (bG h 32 223).bind fun x2=>(if x2 then rP (decide ((Int.tmod h 32) < 24)) else rP false)
def eE(h:Int):Option Int:=
  (hC h).bind fun x1=>(if !x1 then some (-1) else some (Int.tmod h 32))
def R0:Option Bool:=
  some true
def oH(x5:List Int)(x6 x8:Int)(x9:Bool):Option (Step ((List Int)×Int) (Out Unit Bool)):=
  (if x9 then some (.stop (Out.ret false)) else need (x5.length+([x8]).length≤1073741824) (some (.next (x5++([x8]),aX (x6+1)))))
def oJ(x1:(List bM)):((List Int)×Int)→Option (Step ((List Int)×Int) (Out Unit Bool))
  | (x5,x6)=>(if decide (x6 < (x1.length:Int)) then (idx x1 x6).bind fun x7=>(eE x7.Handle).bind fun x8=>(if decide (x8 < 0) then oH x5 x6 x8 true else (bG x7.aE 0 100000).bind fun x10=>(if !x10 then oH x5 x6 x8 true else (uY x5 x8).bind fun x11=>oH x5 x6 x8 x11)) else some (.stop (Out.brk ())))
def R1:(Out Unit Bool)→Option Bool
  | .brk ()=>R0
  | .ret r=>some r
def tY(x1:(List bM))(x2:Bool):Option Bool:=
  (if x2 then some false else (loop (oJ x1) (([]:List Int),0)).bind (R1))
def rQ(l:List aK):Option Bool:=
  (vN l).bind fun x1=>(if (l.length:Int) != 3 then tY x1 true else tY x1 (decide (24 < (x1.length:Int))))
def MP(z:List Int):Option Bool:=
  some ((z.length:Int) == 3)
def zB(x2:Int)(x3:Bool):Option (Step Int (Out Unit Bool)):=
  (if x3 then some (.stop (Out.ret false)) else some (.next (aX (x2+1))))
def sZ(z:List Int):Int→Option (Step Int (Out Unit Bool))
  | x2=>(if decide (x2 < (z.length:Int)) then (idx z x2).bind fun x4=>(if x4 != 0 then (idx z x2).bind fun x5=>(hC x5).bind fun x6=>zB x2 (!x6) else zB x2 false) else some (.stop (Out.brk ())))
def MQ(z:List Int):(Out Unit Bool)→Option Bool
  | .brk ()=>MP z
  | .ret r=>some r
def yK(z:List Int):Option Bool:=
  (loop (sZ z) 0).bind (MQ z)
def EK(l:aA)(slot:Int):Option Bool:=
  (yJ l).bind fun x1=>(uY x1 slot).bind fun x2=>some x2
def BZ(m:Mem)(slot:Int):Option Int:=
  (g9 m.aB slot).bind fun x1=>(if decide (x1 < 0) then some 0 else (EK m.aA slot).bind fun x2=>(if x2 then some 1 else (qB m.aB slot).bind fun x3=>(if decide (6 < x3) then some 2 else some 3)))
def wB(h:Int):Option Int:=
  (hC h).bind fun x1=>(if !x1 then some 0 else some (aX (Int.tdiv h 32)))
def oK(x1:Bool):Option Bool:=
  some x1
def nO(m:Mem)(h:Int):Option Bool:=
  (hC h).bind fun x2=>(if x2 then (eE h).bind fun x3=>(BZ m x3).bind fun x4=>(if x4 == 3 then (eE h).bind fun x5=>(qB m.aB x5).bind fun x6=>(wB h).bind fun x7=>oK (x6 == x7) else oK false) else oK false)
def VE:Option Bool:=
  some true
def wC(x4:Int)(x5:Bool):Option (Step Int (Out Unit Bool)):=
  (if x5 then some (.stop (Out.ret false)) else some (.next (aX (x4+1))))
def qE(b:aI)(x2:(List bM)):Int→Option (Step Int (Out Unit Bool))
  | x4=>(if decide (x4 < (x2.length:Int)) then (idx x2 x4).bind fun x6=>(nO b.Mem x6.Handle).bind fun x7=>(if !x7 then wC x4 true else wC x4 (decide (b.aC.aE < x6.aE))) else some (.stop (Out.brk ())))
def VF:(Out Unit Bool)→Option Bool
  | .brk ()=>VE
  | .ret r=>some r
def mM(b:aI)(x1:Bool):Option Bool:=
  (if x1 then some false else (vN b.aJ).bind fun x2=>(loop (qE b x2) 0).bind (VF))
def iF(b:aI):Option Bool:=
  (qC b.Mem).bind fun x8=>(if !x8 then mM b true else (jE b.aC).bind fun x9=>(if !x9 then mM b true else (rQ b.aJ).bind fun x10=>(if !x10 then mM b true else (yK b.cA).bind fun x11=>mM b (!x11))))
def lI(b:List Int):Option (List Int):=
  need (([]:List Int).length+b.length≤1073741824) (some (([]:List Int)++b))
def vO(h:aB):Option aB:=
  (lI h.Bytes).bind fun x1=>(lI h.Class).bind fun x2=>some (⟨x1,x2⟩:aB)
def VG(x5:List aD):Option (List aD):=
  some x5
def C4(l:List aD):((List aD)×Int)→Option (Step ((List aD)×Int) (List aD))
  | (x3,x4)=>(if decide (x4 < (l.length:Int)) then (idx l x4).bind fun x6=>(lI x6.aO).bind fun x7=>need (x3.length+([(⟨x7⟩:aD)]).length≤1073741824) (some (.next (x3++([(⟨x7⟩:aD)]),aX (x4+1)))) else some (.stop (x3)))
def VH:(List aD)→Option (List aD)
  | x5=>VG x5
def AF(l:List aD):Option (List aD):=
  (loop (C4 l) (([]:List aD),0)).bind (VH)
def qF(l:aA):Option aA:=
  (AF l.Global).bind fun x1=>(AF l.aR).bind fun x2=>some (⟨x1,x2⟩:aA)
def qG(m:Mem):Option Mem:=
  (vO m.aB).bind fun x1=>(qF m.aA).bind fun x2=>some (⟨x1,x2⟩:Mem)
def lJ(c:aC):Option aC:=
  need (([]:List dS).length+c.aN.length≤1073741824) (some (⟨c.aE,([]:List dS)++c.aN⟩:aC))
def R2(x5:List aK):Option (List aK):=
  some x5
def A2(l:List aK):((List aK)×Int)→Option (Step ((List aK)×Int) (List aK))
  | (x3,x4)=>(if decide (x4 < (l.length:Int)) then (idx l x4).bind fun x6=>need (([]:List bM).length+x6.Rows.length≤1073741824) (need (x3.length+([(⟨([]:List bM)++x6.Rows⟩:aK)]).length≤1073741824) (some (.next (x3++([(⟨([]:List bM)++x6.Rows⟩:aK)]),aX (x4+1))))) else some (.stop (x3)))
def R3:(List aK)→Option (List aK)
  | x5=>R2 x5
def rR(l:List aK):Option (List aK):=
  (loop (A2 l) (([]:List aK),0)).bind (R3)
def wD(b:aI):Option aI:=
  (qG b.Mem).bind fun x1=>(lJ b.aC).bind fun x2=>(rR b.aJ).bind fun x3=>(lI b.cA).bind fun x4=>some (⟨x1,x2,x3,x4⟩:aI)
def iG(kind a_:Int):Option Sub:=
  some (⟨kind,a_,0,0,0,0,0,0,0,false⟩:Sub)
def R4:Option Int:=
  some (-1)
def dU(size:Int):Int→Option (Step Int (Out Unit Int))
  | x2=>(if decide (x2 < 3) then (p8 x2).bind fun x3=>(bG size 1 x3).bind fun x4=>(if x4 then some (.stop (Out.ret x2)) else some (.next (aX (x2+1)))) else some (.stop (Out.brk ())))
def R5:(Out Unit Int)→Option Int
  | .brk ()=>R4
  | .ret r=>some r
def nP(size:Int):Option Int:=
  (loop (dU size) 0).bind (R5)
def R6(x7:List Int):Option (List Int):=
  some x7
def oL(at_:Int):((List Int)×Int×Int)→Option (Step ((List Int)×Int×Int) (List Int))
  | (x4,x5,x6)=>(if decide (0≤x6) then (idx x4 (aX (at_+x6))).bind fun x8=>some (.next (x4.set ((aX (at_+x6)).toNat) (Int.tmod x5 256),aX (Int.tdiv x5 256),aX (x6 - 1))) else some (.stop (x4)))
def R7:(List Int)→Option (List Int)
  | x7=>R6 x7
def hJ(b:List Int)(at_ width n:Int):Option (List Int):=
  (loop (oL at_) (b,n,aX (width - 1))).bind (R7)
def R8(h:aB):Option (aB×(List Int)):=
  some (h,([]:List Int))
def tZ(x2:Int):Option (Step Int (Out Unit (aB×(List Int)))):=
  some (.next (aX (x2+1)))
def R9(h:aB)(c x2:Int)(x14 x15:List Int):Option (Step Int (Out Unit (aB×(List Int)))):=
  some (.stop (Out.ret ((⟨x15,h.Class.set x2.toNat c⟩:aB),x14)))
def A3(x2:Int)(x11:List Int)(x12:Int)(x17:List Int):Option (Step ((List Int)×Int×(List Int)) ((List Int)×(List Int))):=
  (nJ x2 x12).bind fun x18=>need (x11.length+([x18]).length≤1073741824) (some (.next (x11++([x18]),aX (x12+1),x17)))
def t7(c x2:Int):((List Int)×Int×(List Int))→Option (Step ((List Int)×Int×(List Int)) ((List Int)×(List Int)))
  | (x11,x12,x13)=>(jF c).bind fun x16=>(if decide (x12 < x16) then (nJ x2 x12).bind fun x19=>(nM x19 c).bind fun x20=>(hJ x13 x20 4 1).bind fun x21=>A3 x2 x11 x12 x21 else some (.stop ((x11,x13))))
def SA(h:aB)(c x2:Int):((List Int)×(List Int))→Option (Step Int (Out Unit (aB×(List Int))))
  | (x14,x15)=>R9 h c x2 x14 x15
def dM(h:aB)(c:Int):Int→Option (Step Int (Out Unit (aB×(List Int))))
  | x2=>(if decide (x2 < 6) then (idx h.Class x2).bind fun x3=>(if x3 != (-1) then tZ x2 else (idx h.Bytes (aX (x2 * 64))).bind fun x4=>(idx (h.Bytes.set ((aX (x2 * 64)).toNat) 171) (aX ((aX (x2 * 64))+1))).bind fun x5=>(jF c).bind fun x6=>(idx ((h.Bytes.set ((aX (x2 * 64)).toNat) 171).set ((aX ((aX (x2 * 64))+1)).toNat) c) (aX ((aX (x2 * 64))+2))).bind fun x7=>(loop (t7 c x2) (([]:List Int),0,((h.Bytes.set ((aX (x2 * 64)).toNat) 171).set ((aX ((aX (x2 * 64))+1)).toNat) c).set ((aX ((aX (x2 * 64))+2)).toNat) x6)).bind (SA h c x2)) else some (.stop (Out.brk ())))
def SB(h:aB):(Out Unit (aB×(List Int)))→Option (aB×(List Int))
  | .brk ()=>R8 h
  | .ret r=>some r
def jG(h:aB)(c:Int):Option (aB×(List Int)):=
  (loop (dM h c) 0).bind (SB h)
def t9(m:Mem)(c:Int)(x1:aB×(List Int))(x2:aD)(x3:Int):Option (Mem×Int):=
  some ((⟨x1.1,(⟨m.aA.Global.set c.toNat (⟨x2.aO++((x1.2.take x1.2.length).drop ((1:Int).toNat))⟩:aD),m.aA.aR⟩:aA)⟩:Mem),x3)
def nQ(m:Mem)(c:Int):Option (Mem×Int):=
  (jG m.aB c).bind fun x1=>(if (x1.2.length:Int) == 0 then some ((⟨x1.1,m.aA⟩:Mem),(-1)) else (idx m.aA.Global c).bind fun x2=>need (0≤(1:Int)∧(1:Int)≤(x1.2.length:Int)) (need (x2.aO.length+((x1.2.take x1.2.length).drop ((1:Int).toNat)).length≤1073741824) ((idx x1.2 0).bind fun x4=>t9 m c x1 x2 x4)))
def zC(s:aD)(x1:Int):Option (aD×Int):=
  some ((⟨(s.aO.take ((aX ((s.aO.length:Int) - 1)).toNat)).drop 0⟩:aD),x1)
def iX(s:aD):Option (aD×Int):=
  (if (s.aO.length:Int) == 0 then some (s,(-1)) else need (0≤(aX ((s.aO.length:Int) - 1):Int)∧(aX ((s.aO.length:Int) - 1):Int)≤(s.aO.length:Int)) ((idx s.aO (aX ((s.aO.length:Int) - 1))).bind fun x2=>zC s x2))
def a9(s:Sub)(code:Int):Option Sub:=
  some ({s with Code:=code,cQ:=true}:Sub)
def gX(slot gen:Int)(x1:Bool):Option Int:=
  (if x1 then some 0 else some (aX ((aX (gen * 32))+slot)))
def jN(slot gen:Int):Option Int:=
  (bG slot 0 23).bind fun x2=>(if !x2 then gX slot gen true else (bG gen 1 6).bind fun x3=>gX slot gen (!x3))
def lS(m:Mem)(slot:Int):Option Int:=
  (qB m.aB slot).bind fun x1=>(jN slot x1).bind fun x2=>some x2
def B3(b:aI)(s:Sub)(slot pc:Int):Option Sub:=
  (if decide (0≤slot) then (lS b.Mem slot).bind fun x1=>(a9 ({s with Out:=x1}:Sub) 0).bind fun x2=>some x2 else some ({s with Pc:=pc}:Sub))
def mN(s:Sub)(x3:Int)(x5:Bool)(x6:aI):Option (aI×Sub):=
  (if x5 then (a9 s 3).bind fun x7=>some (x6,x7) else (B3 x6 s x3 (aX (s.Pc+1))).bind fun x8=>some (x6,x8))
def eT(s:Sub)(x3:Int)(x4:aI):Option (aI×Sub):=
  (if decide (x3 < 0) then mN s x3 (s.Pc == 3) x4 else mN s x3 false x4)
def mO(b:aI)(s:Sub)(x1:Int)(x12:Bool):Option (aI×Sub):=
  (if x12 then (idx b.Mem.aA.Global x1).bind fun x13=>(iX x13).bind fun x14=>eT s x14.2 ({b with Mem:=(⟨b.Mem.aB,(⟨b.Mem.aA.Global.set x1.toNat x14.1,b.Mem.aA.aR⟩:aA)⟩:Mem)}:aI) else (if s.Pc == 2 then (nQ b.Mem x1).bind fun x15=>eT s x15.2 ({b with Mem:=x15.1}:aI) else (a9 s 1).bind fun x16=>some (b,x16)))
def o5(b:aI)(w_:Int)(s:Sub):Option (aI×Sub):=
  (nP s.A).bind fun x1=>(if decide (x1 < 0) then (a9 s 2).bind fun x2=>some (b,x2) else (if s.Pc == 0 then (j8 w_ x1).bind fun x9=>(idx b.Mem.aA.aR x9).bind fun x10=>(iX x10).bind fun x11=>eT s x11.2 ({b with Mem:=(⟨b.Mem.aB,(⟨b.Mem.aA.Global,b.Mem.aA.aR.set x9.toNat x11.1⟩:aA)⟩:Mem)}:aI) else (if s.Pc == 1 then mO b s x1 true else mO b s x1 (s.Pc == 3))))
def SC:Option Bool:=
  some false
def oM(x3:Int)(x4:Bool):Option (Step Int (Out Unit Bool)):=
  (if x4 then some (.stop (Out.ret true)) else some (.next (aX (x3+1))))
def kY(slot:Int)(x1:(List bM)):Int→Option (Step Int (Out Unit Bool))
  | x3=>(if decide (x3 < (x1.length:Int)) then (idx x1 x3).bind fun x5=>(hC x5.Handle).bind fun x6=>(if x6 then (eE x5.Handle).bind fun x7=>oM x3 (x7 == slot) else oM x3 false) else some (.stop (Out.brk ())))
def SD:(Out Unit Bool)→Option Bool
  | .brk ()=>SC
  | .ret r=>some r
def B4(l:List aK)(slot:Int):Option Bool:=
  (vN l).bind fun x1=>(loop (kY slot x1) 0).bind (SD)
def pO(b:aI)(s:Sub)(x5:List aK):Option (aI×Sub):=
  (a9 s 0).bind fun x6=>some (({b with aJ:=x5}:aI),x6)
def lK(b:aI)(w_:Int)(s:Sub)(x3:Bool):Option (aI×Sub):=
  (if x3 then (a9 s 4).bind fun x4=>some (b,x4) else (idx b.aJ w_).bind fun x7=>need (x7.Rows.length+([(⟨s.A,s.E⟩:bM)]).length≤1073741824)<|pO b s (b.aJ.set w_.toNat (⟨x7.Rows++([(⟨s.A,s.E⟩:bM)])⟩:aK)))
def mP(b:aI)(w_:Int)(s:Sub):Option (aI×Sub):=
  (if s.Pc == 0 then some (b,({s with Pc:=1,E:=b.aC.aE}:Sub)) else (if s.Pc == 1 then (bG s.E 0 b.aC.aE).bind fun x1=>(if !x1 then (a9 s 1).bind fun x2=>some (b,x2) else (nO b.Mem s.A).bind fun x8=>(if !x8 then lK b w_ s true else (eE s.A).bind fun x9=>(B4 b.aJ x9).bind fun x10=>lK b w_ s x10)) else (a9 s 1).bind fun x11=>some (b,x11)))
def j9(w_:Int)(x1:aC)(x3:dS)(x4:Bool):Option (aC×Bool):=
  (if x4 then some (x1,true) else (if x3.Seen == 2 then (idx x1.aN w_).bind fun x5=>some ((⟨x1.aE,x1.aN.set w_.toNat ({x5 with d5:=true,Seen:=0}:dS)⟩:aC),true) else (idx x1.aN w_).bind fun x6=>some ((⟨x1.aE,x1.aN.set w_.toNat ({x6 with Seen:=aX (x3.Seen+1)}:dS)⟩:aC),false)))
def qH(c:aC)(w_ e_:Int)(x1:aC)(x2:Bool):Option (aC×Bool):=
  (if x2 then some (x1,false) else (idx c.aN w_).bind fun x3=>(if !x3.On then j9 w_ x1 x3 true else (if x3.d5 then j9 w_ x1 x3 true else j9 w_ x1 x3 (x3.aE == e_))))
def qI(c:aC)(w_ e_:Int):Option (aC×Bool):=
  (lJ c).bind fun x1=>(jE c).bind fun x7=>(if !x7 then qH c w_ e_ x1 true else (bG w_ 0 2).bind fun x8=>qH c w_ e_ x1 (!x8))
def rS(e_:Int)(x1:aC)(x2:Bool):Option (aC×Bool):=
  (if x2 then some (x1,false) else some ((⟨aX (e_+1),x1.aN⟩:aC),true))
def yL(c:aC)(e_:Int):Option (aC×Bool):=
  (lJ c).bind fun x1=>(jE c).bind fun x3=>(if !x3 then rS e_ x1 true else (if c.aE != e_ then rS e_ x1 true else rS e_ x1 (e_ == 100000)))
def kA(b:aI)(s:Sub)(x3:aC×Bool)(x5:Int):Option (aI×Sub):=
  some (({b with aC:=x3.1}:aI),({s with Pc:=x5,B:=aX (s.B+1)}:Sub))
def kB(b:aI)(s:Sub)(x6:aC×Bool)(x7:Int):Option (aI×Sub):=
  (a9 ({s with Out:=x7}:Sub) 0).bind fun x8=>some (({b with aC:=x6.1}:aI),x8)
def kZ(b:aI)(s:Sub):Option (aI×Sub):=
  (if s.Pc == 0 then some (b,({s with Pc:=1,E:=b.aC.aE,B:=0}:Sub)) else (if s.Pc == 1 then (bG s.B 0 2).bind fun x1=>(if !x1 then (a9 s 1).bind fun x2=>some (b,x2) else (qI b.aC s.B s.E).bind fun x3=>(if !x3.2 then (a9 s 8).bind fun x4=>some (({b with aC:=x3.1}:aI),x4) else (if (aX (s.B+1)) == 3 then kA b s x3 2 else kA b s x3 s.Pc))) else (if s.Pc == 2 then (yL b.aC s.E).bind fun x6=>(if x6.2 then kB b s x6 1 else kB b s x6 s.Out) else (a9 s 1).bind fun x9=>some (b,x9))))
def wE(x1:Bool):Option Bool:=
  some x1
def yM(r_:bM)(e_:Int):Option Bool:=
  (if decide (2≤e_) then wE (decide (r_.aE≤(aX (e_ - 2)))) else wE false)
def SF:Option Int:=
  some (-1)
def cZ(l:List bM)(e_:Int):Int→Option (Step Int (Out Unit Int))
  | x2=>(if decide (x2 < (l.length:Int)) then (idx l x2).bind fun x3=>(yM x3 e_).bind fun x4=>(if x4 then some (.stop (Out.ret x2)) else some (.next (aX (x2+1)))) else some (.stop (Out.brk ())))
def SG:(Out Unit Int)→Option Int
  | .brk ()=>SF
  | .ret r=>some r
def nR(l:List bM)(from_ e_:Int):Option Int:=
  (loop (cZ l e_) (if 0 < from_ then from_ else 0)).bind (SG)
def qJ(x2 x3:List aD):Option aA:=
  some (⟨x2,x3⟩:aA)
def wF(x:aA)(slot x1:Int)(x4:aD):Option aA:=
  qJ x.Global (x.aR.set x1.toNat (⟨x4.aO++([slot])⟩:aD))
def wG(x:aA)(x5:List aD):Option aA:=
  qJ x5 x.aR
def vP(x:aA)(w_ c slot:Int):Option aA:=
  (j8 w_ c).bind fun x1=>(idx x.aR x1).bind fun x4=>(if decide ((x4.aO.length:Int) < 2) then need (x4.aO.length+([slot]).length≤1073741824)<|wF x slot x1 x4 else (idx x.Global c).bind fun x6=>need (x6.aO.length+([slot]).length≤1073741824)<|wG x (x.Global.set c.toNat (⟨x6.aO++([slot])⟩:aD)))
def wH(x:Mem)(x3:List Int)(x4 x5:List aD):Option Mem:=
  some (⟨(⟨x3,x.aB.Class⟩:aB),(⟨x4,x5⟩:aA)⟩:Mem)
def wI(x:Mem)(w_ slot x1 x2:Int)(x3:List Int):Option Mem:=
  (if decide ((aX (x2+1))≤6) then (vP x.aA w_ x1 slot).bind fun x6=>wH x x3 x6.Global x6.aR else wH x x3 x.aA.Global x.aA.aR)
def qK(x:Mem)(w_ slot:Int):Option Mem:=
  (g9 x.aB slot).bind fun x1=>(qB x.aB slot).bind fun x2=>(nM slot x1).bind fun x7=>(hJ x.aB.Bytes x7 4 (aX (x2+1))).bind fun x8=>wI x w_ slot x1 x2 x8
def kC(b:aI)(s:Sub)(x8:Int):Option (aI×Sub):=
  some (b,({s with Pc:=x8,B:=aX (s.B+1)}:Sub))
def c9(b:aI)(s:Sub)(x5:Bool):Option (aI×Sub):=
  (if x5 then (a9 s 1).bind fun x6=>some (b,x6) else (idx b.cA s.B).bind fun x7=>(if x7 == s.H then some (b,({s with Pc:=1,Row:=aX (s.Row+1)}:Sub)) else (if (aX (s.B+1)) == 3 then kC b s 3 else kC b s s.Pc)))
def nS(s:Sub)(x14:aI):Option (aI×Sub):=
  some (x14,({s with Pc:=1,Out:=aX (s.Out+1)}:Sub))
def dA(b:aI)(w_:Int)(s:Sub)(x1:aK)(x12:Bool):Option (aI×Sub):=
  (if x12 then (a9 s 1).bind fun x13=>some (b,x13) else need (0≤(s.Row:Int)∧(s.Row:Int)≤(x1.Rows.length:Int)) (need (0≤(aX (s.Row+1):Int)∧(aX (s.Row+1):Int)≤(x1.Rows.length:Int)) (need (s.Row.toNat≤(aX (s.Row+1)).toNat) ((eE s.H).bind fun x15=>(qK b.Mem w_ x15).bind fun x16=>nS s ({b with Mem:=x16,aJ:=b.aJ.set w_.toNat (⟨((cX x1.Rows s.Row.toNat (x1.Rows.drop ((aX (s.Row+1)).toNat))).take (s.Row.toNat+(x1.Rows.length - ((aX (s.Row+1)).toNat)))).drop 0⟩:aK)}:aI)))))
def k9(b:aI)(w_:Int)(s:Sub):Option (aI×Sub):=
  (idx b.aJ w_).bind fun x1=>(if s.Pc == 0 then some (b,({s with Pc:=1,E:=b.aC.aE,Row:=0}:Sub)) else (if s.Pc == 1 then (nR x1.Rows s.Row s.E).bind fun x2=>(if decide (x2 < 0) then (a9 s 0).bind fun x3=>some (b,x3) else (idx x1.Rows x2).bind fun x4=>some (b,({s with Pc:=2,Row:=x2,B:=0,H:=x4.Handle}:Sub))) else (if s.Pc == 2 then (bG s.B 0 2).bind fun x9=>(if !x9 then c9 b s true else (bG s.Row 0 (aX ((x1.Rows.length:Int) - 1))).bind fun x10=>(if !x10 then c9 b s true else (idx x1.Rows s.Row).bind fun x11=>c9 b s (x11.Handle != s.H))) else (if s.Pc == 3 then (bG s.Row 0 (aX ((x1.Rows.length:Int) - 1))).bind fun x17=>(if !x17 then dA b w_ s x1 true else (idx x1.Rows s.Row).bind fun x18=>(if x18.Handle != s.H then dA b w_ s x1 true else (yM x18 s.E).bind fun x19=>dA b w_ s x1 (!x19))) else (a9 s 1).bind fun x20=>some (b,x20)))))
def o6(w_ e_:Int)(x1:aC)(x2:Bool):Option (aC×Bool):=
  (if x2 then some (x1,false) else (idx x1.aN w_).bind fun x3=>some ((⟨x1.aE,x1.aN.set w_.toNat (⟨true,e_,false,0⟩:dS)⟩:aC),true))
def uZ(c:aC)(w_ e_:Int):Option (aC×Bool):=
  (lJ c).bind fun x1=>(jE c).bind fun x4=>(if !x4 then o6 w_ e_ x1 true else (bG w_ 0 2).bind fun x5=>(if !x5 then o6 w_ e_ x1 true else (bG e_ 0 c.aE).bind fun x6=>o6 w_ e_ x1 (!x6)))
def vQ(b:aI)(w_:Int)(s:Sub):Option (aI×Sub):=
  (if s.Pc == 0 then some (b,({s with Pc:=1,E:=b.aC.aE}:Sub)) else (if s.Pc == 1 then (uZ b.aC w_ s.E).bind fun x1=>(if !x1.2 then (a9 s 1).bind fun x2=>some (({b with aC:=x1.1}:aI),x2) else some (({b with aC:=x1.1}:aI),({s with Pc:=2}:Sub))) else (if s.Pc == 2 then (if b.aC.aE == s.E then (a9 s 0).bind fun x3=>some (b,x3) else some (b,({s with Pc:=0}:Sub))) else (a9 s 1).bind fun x4=>some (b,x4))))
def vA(b:aI)(w_:Int)(s:Sub):Option (aI×Sub):=
  (if s.cQ then some (b,s) else (if s.Kind == 1 then (o5 b w_ s).bind fun x1=>some (x1.1,x1.2) else (if s.Kind == 2 then (mP b w_ s).bind fun x2=>some (x2.1,x2.2) else (if s.Kind == 3 then (kZ b s).bind fun x3=>some (x3.1,x3.2) else (if s.Kind == 4 then (k9 b w_ s).bind fun x4=>some (x4.1,x4.2) else (if s.Kind == 5 then (vQ b w_ s).bind fun x5=>some (x5.1,x5.2) else (a9 s 1).bind fun x6=>some (b,x6)))))))
def B5(slot c:Int):Option Int:=
  (nM slot c).bind fun x1=>(if decide (x1 < 0) then some (-1) else some (aX (x1+4)))
def qL(at_ x3 x4:Int)(x5:Bool):Option (Int×Int):=
  (if x5 then some (0,2) else (B5 x3 x4).bind fun x6=>some (aX (x6+at_),0))
def qM(m:Mem)(h at_ width:Int)(x1:Bool):Option (Int×Int):=
  (if x1 then some (0,1) else (nO m h).bind fun x2=>(if !x2 then some (0,4) else (eE h).bind fun x3=>(g9 m.aB x3).bind fun x4=>(p8 x4).bind fun x7=>(bG at_ 0 (aX (x7 - 1))).bind fun x8=>(if !x8 then qL at_ x3 x4 true else (p8 x4).bind fun x9=>qL at_ x3 x4 (decide ((aX (x9 - at_)) < width)))))
def EL(m:Mem)(h at_ width:Int):Option (Int×Int):=
  (qC m).bind fun x10=>(if !x10 then qM m h at_ width true else (bG width 1 7).bind fun x11=>qM m h at_ width (!x11))
def E9(x8:Int)(x9:List UInt8):Option (List UInt8):=
  (if decide (0 < x8) then some ([]) else some x9)
def tA(width:Int):(Int×(List UInt8)×Int)→Option (Step (Int×(List UInt8)×Int) (Int×(List UInt8)))
  | (x5,x6,x7)=>(if decide (x7 < width) then need (([u8 (Int.tmod x5 256)]).length+x6.length≤9223372036854775807) (some (.next (aX (Int.tdiv x5 256),([u8 (Int.tmod x5 256)])++x6,aX (x7+1)))) else some (.stop ((x5,x6))))
def FA:(Int×(List UInt8))→Option (List UInt8)
  | (x8,x9)=>E9 x8 x9
def tB(n width:Int)(x1:Bool):Option (List UInt8):=
  (if x1 then some ([]) else (loop (tA width) (n,[],0)).bind (FA))
def vB(n width:Int):Option (List UInt8):=
  (bG width 1 7).bind fun x10=>(if !x10 then tB n width true else tB n width (decide (n < 0)))
def nT(m:Mem)(h at_ width n:Int):Option (Mem×Int):=
  (qG m).bind fun x1=>(EL m h at_ width).bind fun x2=>(if x2.2 != 0 then some (x1,x2.2) else (vB n width).bind fun x3=>(if x3 == ([]) then some (x1,1) else (hJ x1.aB.Bytes x2.1 width n).bind fun x4=>some ((⟨(⟨x4,x1.aB.Class⟩:aB),x1.aA⟩:Mem),0)))
def tC(w_:Int)(x1:aC)(x2:Bool):Option (aC×Bool):=
  (if x2 then some (x1,false) else (idx x1.aN w_).bind fun x3=>some ((⟨x1.aE,x1.aN.set w_.toNat (⟨false,0,false,0⟩:dS)⟩:aC),true))
def C5(c:aC)(w_:Int):Option (aC×Bool):=
  (lJ c).bind fun x1=>(jE c).bind fun x4=>(if !x4 then tC w_ x1 true else (bG w_ 0 2).bind fun x5=>(if !x5 then tC w_ x1 true else (idx c.aN w_).bind fun x6=>tC w_ x1 (!x6.On)))
def oN(w_ h:Int)(x1:(List Int))(x2:Bool):Option ((List Int)×Bool):=
  (if x2 then some (x1,false) else (idx x1 w_).bind fun x3=>some (x1.set w_.toNat h,true))
def wJ(z:List Int)(w_ h:Int):Option ((List Int)×Bool):=
  (lI z).bind fun x1=>(yK z).bind fun x4=>(if !x4 then oN w_ h x1 true else (bG w_ 0 2).bind fun x5=>(if !x5 then oN w_ h x1 true else (hC h).bind fun x6=>oN w_ h x1 (!x6)))
def tD(w_:Int)(x1:(List Int))(x2:Bool):Option ((List Int)×Bool):=
  (if x2 then some (x1,false) else (idx x1 w_).bind fun x3=>some (x1.set w_.toNat 0,true))
def HC(z:List Int)(w_:Int):Option ((List Int)×Bool):=
  (lI z).bind fun x1=>(yK z).bind fun x4=>(if !x4 then tD w_ x1 true else (bG w_ 0 2).bind fun x5=>(if !x5 then tD w_ x1 true else (idx z w_).bind fun x6=>tD w_ x1 (x6 == 0)))
def eF(s:List Int):Option (List Int):=
  need (([]:List Int).length+s.length≤1073741824) (some (([]:List Int)++s))
def o7(h:aB):Option aB:=
  (eF h.Bytes).bind fun x1=>(eF h.Class).bind fun x2=>some (⟨x1,x2⟩:aB)
def OS(x5 x10:List aD):Option aA:=
  some (⟨x5,x10⟩:aA)
def wK(x8:Int)(x12:List aD):Option (Step (Int×(List aD)) (List aD)):=
  some (.next (aX (x8+1),x12))
def wL(l:aA):(Int×(List aD))→Option (Step (Int×(List aD)) (List aD))
  | (x8,x9)=>(if decide (x8 < (l.aR.length:Int)) then (idx l.aR x8).bind fun x11=>(eF x11.aO).bind fun x13=>need (x9.length+([(⟨x13⟩:aD)]).length≤1073741824)<|wK x8 (x9++([(⟨x13⟩:aD)])) else some (.stop (x9)))
def OT(x5:List aD):(List aD)→Option aA
  | x10=>OS x5 x10
def EM(l:aA)(x5:List aD):Option aA:=
  (loop (wL l) (0,[])).bind (OT x5)
def wM(x3:Int)(x15:List aD):Option (Step (Int×(List aD)) (List aD)):=
  some (.next (aX (x3+1),x15))
def wN(l:aA):(Int×(List aD))→Option (Step (Int×(List aD)) (List aD))
  | (x3,x4)=>(if decide (x3 < (l.Global.length:Int)) then (idx l.Global x3).bind fun x14=>(eF x14.aO).bind fun x16=>need (x4.length+([(⟨x16⟩:aD)]).length≤1073741824)<|wM x3 (x4++([(⟨x16⟩:aD)])) else some (.stop (x4)))
def EN(l:aA):(List aD)→Option aA
  | x5=>EM l x5
def fG(l:aA):Option aA:=
  (loop (wN l) (0,[])).bind (EN l)
def wO(m:Mem):Option Mem:=
  (o7 m.aB).bind fun x1=>(fG m.aA).bind fun x2=>some (⟨x1,x2⟩:Mem)
def rT(s:List dS):Option (List dS):=
  need (([]:List dS).length+s.length≤1073741824) (some (([]:List dS)++s))
def iH(c:aC):Option aC:=
  (rT c.aN).bind fun x1=>some (⟨c.aE,x1⟩:aC)
def pP(s:List bM):Option (List bM):=
  need (([]:List bM).length+s.length≤1073741824) (some (([]:List bM)++s))
def OU(x5:List aK):Option (List aK):=
  some x5
def wP(l:List aK):((List aK)×Int)→Option (Step ((List aK)×Int) (List aK))
  | (x3,x4)=>(if decide (x4 < (l.length:Int)) then (idx l x4).bind fun x6=>(pP x6.Rows).bind fun x7=>need (x3.length+([(⟨x7⟩:aK)]).length≤1073741824) (some (.next (x3++([(⟨x7⟩:aK)]),aX (x4+1)))) else some (.stop (x3)))
def OV:(List aK)→Option (List aK)
  | x5=>OU x5
def iI(l:List aK):Option (List aK):=
  (loop (wP l) (([]:List aK),0)).bind (OV)
def tE(b:aI):Option aI:=
  (wO b.Mem).bind fun x1=>(iH b.aC).bind fun x2=>(iI b.aJ).bind fun x3=>(eF b.cA).bind fun x4=>some (⟨x1,x2,x3,x4⟩:aI)
def mQ(x1:Bool):Option Bool:=
  some x1
def b8(n low high:Int):Option Bool:=
  (if decide (low≤n) then mQ (decide (n≤high)) else mQ false)
def vR:Option Int:=
  some (-1)
def fQ(s:List dS)(f:(dS→Option Bool)):Int→Option (Step Int (Out Unit Int))
  | x2=>(if decide (x2 < (s.length:Int)) then (idx s x2).bind fun x3=>(f x3).bind fun x4=>(if x4 then some (.stop (Out.ret x2)) else some (.next (aX (x2+1)))) else some (.stop (Out.brk ())))
def mR:(Out Unit Int)→Option Int
  | .brk ()=>vR
  | .ret r=>some r
def qN(s:List dS)(f:(dS→Option Bool)):Option Int:=
  (loop (fQ s f) 0).bind (mR)
def iP(s:List dS)(f:(dS→Option Bool)):Option Bool:=
  (qN s f).bind fun x1=>some (decide (0≤x1))
def iQ(x1:Bool):Option Bool:=
  some x1
def qO(p:dS)(k0:aC):Option Bool:=
  (b8 p.aE 0 k0.aE).bind fun x2=>(if !x2 then iQ true else (b8 p.Seen 0 2).bind fun x3=>(if !x3 then iQ true else (if !p.On then iQ (!(decide (p=(⟨false,0,false,0⟩:dS)))) else iQ false)))
def oO(x1:Bool):Option Bool:=
  some x1
def hQ(c:aC):Option Bool:=
  (b8 c.aE 0 100000).bind fun x2=>(if x2 then (if (c.aN.length:Int) == 3 then (iP c.aN (fun y0=>qO y0 c)).bind fun x3=>oO (!x3) else oO false) else oO false)
def jO(slot:Int):Option Bool:=
  (b8 slot 0 23).bind fun x1=>some x1
def nU(x10:List Raw):Option (List Raw):=
  some x10
def eU(slices:List (List Raw)):((List Raw)×Int)→Option (Step ((List Raw)×Int) (List Raw))
  | (x8,x9)=>(if decide (x9 < (slices.length:Int)) then (idx slices x9).bind fun x11=>need (x8.length+x11.length≤1073741824) (some (.next (x8++x11,aX (x9+1)))) else some (.stop (x8)))
def HD:(List Raw)→Option (List Raw)
  | x10=>nU x10
def jH(slices:List (List Raw))(x5:Int):Option (List Raw):=
  need (0≤x5∧x5≤1073741824) ((loop (eU slices) ([],0)).bind (HD))
def eB(slices:List (List Raw)):(Int×Int)→Option (Step (Int×Int) Int)
  | (x3,x4)=>(if decide (x4 < (slices.length:Int)) then (idx slices x4).bind fun x12=>(if decide ((aX (x3+(x12.length:Int))) < 0) then none else some (.next (aX (x3+(x12.length:Int)),aX (x4+1)))) else some (.stop (x3)))
def wQ(slices:List (List Raw)):Int→Option (List Raw)
  | x5=>jH slices x5
def mB(slices:List (List Raw)):Option (List Raw):=
  (loop (eB slices) (0,0)).bind (wQ slices)
theorem D8{u1 u2:List Raw}(h:u1.length+u2.length≤1073741824):loop (eB [u1,u2]) (0,0)=some ((u1.length+u2.length:Nat):Int):=by
  have e1:aX (u1.length:Int)=u1.length:=C0 (by omega)
  have e2:aX ((u1.length:Int)+(u2.length:Int))=((u1.length+u2.length:Nat):Int):=by rw [C0 (by omega)];rfl
  have e3:aX (0+1)=1:=C0 (by omega)
  have e4:aX 2=2:=C0 (by omega)
  have n1:¬(u1.length:Int) < 0:=by omega
  have n2:¬((u1.length+u2.length:Nat):Int) < 0:=by omega
  rw [bT (s':=((u1.length:Int),1)) ?_,bT (s':=(((u1.length+u2.length:Nat):Int),2)) ?_,bN (r:=((u1.length+u2.length:Nat):Int)) ?_]
  · simp [eB]
  · simp [eB,idx,e2,e4]
    omega
  · simp [eB,idx,e1,n1]
    exact e3
theorem GM{u1 u2:List Raw}{n1 n2:Nat}(hl:u1.length=n1∧u2.length=n2)(h:n1+n2≤1073741824):mB [u1,u2]=some (u1++u2):=by
  obtain⟨rfl,rfl⟩:=hl
  have e3:aX (0+1)=1:=C0 (by omega)
  have e4:aX 2=2:=C0 (by omega)
  unfold mB
  rw [D8 h]
  simp only [Option.bind_some,wQ,jH]
  rw [aU (by omega),bT (s':=(u1,1)) ?_,bT (s':=(u1++u2,2)) ?_,bN (r:=u1++u2) ?_]
  · rfl
  · simp [eU]
  · simp [eU,idx,e4,aU h]
  · have h1:u1.length≤1073741824:=by omega
    simp [eU,idx,aU h1]
    exact e3
def A4:Option Bool:=
  some true
def uA(x4:Int)(x12:List Bool):Option (Step (Int×(List Bool)) (Out Unit Bool)):=
  some (.next (aX (x4+1),x12))
def lA(x10:Int)(x11:List Bool)(x13:Int)(x14:Bool):Option (Step (Int×(List Bool)) (Out (List Bool) Bool)):=
  (if x14 then some (.stop (Out.ret false)) else need (0≤(x13:Int)∧(x13:Int) < 24) ((idx (x11:List Bool) x13).bind fun x15=>some (.next (aX (x10+1),x11.set (x13.toNat) true))))
def iY(x6:aD):(Int×(List Bool))→Option (Step (Int×(List Bool)) (Out (List Bool) Bool))
  | (x10,x11)=>(if decide (x10 < (x6.aO.length:Int)) then (idx x6.aO x10).bind fun x13=>(jO x13).bind fun x16=>(if !x16 then lA x10 x11 x13 true else need (0≤(x13:Int)∧(x13:Int) < 24) ((idx (x11:List Bool) x13).bind fun x17=>lA x10 x11 x13 x17)) else some (.stop (Out.brk x11)))
def II(x4:Int):(Out (List Bool) Bool)→Option (Step (Int×(List Bool)) (Out Unit Bool))
  | .brk x12=>uA x4 x12
  | .ret r=>some (.stop (Out.ret r))
def iZ(x4:Int)(x5:List Bool)(x6:aD)(x7:Bool):Option (Step (Int×(List Bool)) (Out Unit Bool)):=
  (if x7 then some (.stop (Out.ret false)) else (loop (iY x6) (0,x5)).bind (II x4))
def i3(l:aA):(Int×(List Bool))→Option (Step (Int×(List Bool)) (Out Unit Bool))
  | (x4,x5)=>(if decide (x4 < ((l.aR++l.Global).length:Int)) then (idx (l.aR++l.Global) x4).bind fun x6=>(if decide (x4 < (l.aR.length:Int)) then iZ x4 x5 x6 (decide (2 < (x6.aO.length:Int))) else iZ x4 x5 x6 false) else some (.stop (Out.brk ())))
def SH:(Out Unit Bool)→Option Bool
  | .brk ()=>A4
  | .ret r=>some r
def oP(l:aA)(x1:Bool):Option Bool:=
  (if x1 then some false else need (l.aR.length+l.Global.length≤1073741824) ((loop (i3 l) (0,[false,false,false,false,false,false,false,false,false,false,false,false,false,false,false,false,false,false,false,false,false,false,false,false])).bind (SH)))
def hU(l:aA):Option Bool:=
  (if (l.Global.length:Int) != 3 then oP l true else oP l ((l.aR.length:Int) != 9))
def vS:Option Int:=
  some (-1)
def fS(s:List Int)(f:(Int→Option Bool)):Int→Option (Step Int (Out Unit Int))
  | x2=>(if decide (x2 < (s.length:Int)) then (idx s x2).bind fun x3=>(f x3).bind fun x4=>(if x4 then some (.stop (Out.ret x2)) else some (.next (aX (x2+1)))) else some (.stop (Out.brk ())))
def mS:(Out Unit Int)→Option Int
  | .brk ()=>vS
  | .ret r=>some r
def qP(s:List Int)(f:(Int→Option Bool)):Option Int:=
  (loop (fS s f) 0).bind (mS)
def dX(s:List Int)(f:(Int→Option Bool)):Option Bool:=
  (qP s f).bind fun x1=>some (decide (0≤x1))
def J1(x:Int):Option Bool:=
  (b8 x 0 255).bind fun x1=>some x1
def wR(x:Int):Option Bool:=
  (J1 x).bind fun x1=>some (!x1)
def uB(x1:Bool):Option Bool:=
  some x1
def B6(b:List Int):Option Bool:=
  (if decide ((b.length:Int)≤1000) then (dX b (fun y0=>wR y0)).bind fun x2=>uB (!x2) else uB false)
def zD(c:Int):Option Bool:=
  (b8 c (-1) 2).bind fun x1=>some (!x1)
def mT(x1:Bool):Option Bool:=
  some x1
def AG(h:aB):Option Bool:=
  (if (h.Bytes.length:Int) == 384 then (B6 h.Bytes).bind fun x2=>(if x2 then (if (h.Class.length:Int) == 6 then (dX h.Class (fun y0=>zD y0)).bind fun x3=>mT (!x3) else mT false) else mT false) else mT false)
def hY(c:Int):Option Bool:=
  (b8 c 0 2).bind fun x1=>some x1
def vT(c:Int):Option Int:=
  (hY c).bind fun x1=>(if !x1 then some 0 else (idx ([8,16,40]:List Int) c).bind fun x2=>some x2)
def o8(c:Int):Option Int:=
  (hY c).bind fun x1=>(if !x1 then some 0 else (vT c).bind fun x2=>some (aX (4+x2)))
def lL(c:Int):Option Int:=
  (hY c).bind fun x1=>(if !x1 then some 0 else (o8 c).bind fun x2=>need (x2≠0) (some (aX (Int.tdiv 56 x2))))
def SI(x5:Int):Option Int:=
  some x5
def oQ(b:List Int)(at_ width:Int):(Int×Int)→Option (Step (Int×Int) Int)
  | (x3,x4)=>(if decide (x4 < (((b.take ((aX (at_+width)).toNat)).drop at_.toNat).length:Int)) then (idx ((b.take ((aX (at_+width)).toNat)).drop at_.toNat) x4).bind fun x6=>some (.next (aX ((aX (256 * x3))+x6),aX (x4+1))) else some (.stop (x3)))
def SJ:Int→Option Int
  | x5=>SI x5
def nV(b:List Int)(at_ width:Int):Option Int:=
  need (0≤(at_:Int)∧(at_:Int)≤(aX (at_+width):Int)∧(aX (at_+width):Int)≤(b.length:Int)) ((loop (oQ b at_ width) (0,0)).bind (SJ))
def zE(x:Int):Option Bool:=
  some (x != 0)
def AH(b:List Int):Option Bool:=
  (dX b (fun y0=>zE y0)).bind fun x1=>some (!x1)
def VI:Option Bool:=
  some true
def mU(h:aB)(page x1 x4:Int):Int→Option (Step Int (Out Unit Bool))
  | x6=>(if decide (x6 < x4) then (o8 x1).bind fun x7=>(nV ((h.Bytes.take ((aX ((aX (page+1)) * 64)).toNat)).drop ((aX (page * 64)).toNat)) (aX (8+(aX (x6 * x7)))) 4).bind fun x8=>(b8 x8 1 7).bind fun x9=>(if !x9 then some (.stop (Out.ret false)) else some (.next (aX (x6+1)))) else some (.stop (Out.brk ())))
def VJ:(Out Unit Bool)→Option Bool
  | .brk ()=>VI
  | .ret r=>some r
def fZ(h:aB)(page x1:Int)(x3:Bool):Option Bool:=
  (if x3 then some false else (lL x1).bind fun x4=>(loop (mU h page x1 x4) 0).bind (VJ))
def EO(h:aB)(page:Int):Option Bool:=
  (idx h.Class page).bind fun x1=>need (0≤(aX (page * 64):Int)∧(aX (page * 64):Int)≤(aX ((aX (page+1)) * 64):Int)∧(aX ((aX (page+1)) * 64):Int)≤(h.Bytes.length:Int)) ((if decide (x1 < 0) then (AH ((h.Bytes.take ((aX ((aX (page+1)) * 64)).toNat)).drop ((aX (page * 64)).toNat))).bind fun x2=>some x2 else (idx ((h.Bytes.take ((aX ((aX (page+1)) * 64)).toNat)).drop ((aX (page * 64)).toNat)) 0).bind fun x10=>(if x10 != 171 then fZ h page x1 true else (idx ((h.Bytes.take ((aX ((aX (page+1)) * 64)).toNat)).drop ((aX (page * 64)).toNat)) 1).bind fun x11=>(if x11 != x1 then fZ h page x1 true else (idx ((h.Bytes.take ((aX ((aX (page+1)) * 64)).toNat)).drop ((aX (page * 64)).toNat)) 2).bind fun x12=>(lL x1).bind fun x13=>(if x12 != x13 then fZ h page x1 true else need (0≤(3:Int)∧(3:Int)≤(8:Int)∧(8:Int)≤(((h.Bytes.take ((aX ((aX (page+1)) * 64)).toNat)).drop ((aX (page * 64)).toNat)).length:Int)) ((AH ((((h.Bytes.take ((aX ((aX (page+1)) * 64)).toNat)).drop ((aX (page * 64)).toNat)).take ((8:Int).toNat)).drop ((3:Int).toNat))).bind fun x14=>fZ h page x1 (!x14)))))))
def VK:Option Bool:=
  some true
def qQ(h:aB):Int→Option (Step Int (Out Unit Bool))
  | x3=>(if decide (x3 < 6) then (EO h x3).bind fun x4=>(if !x4 then some (.stop (Out.ret false)) else some (.next (aX (x3+1)))) else some (.stop (Out.brk ())))
def VL:(Out Unit Bool)→Option Bool
  | .brk ()=>VK
  | .ret r=>some r
def AI(h:aB):Option Bool:=
  (AG h).bind fun x1=>(if !x1 then some false else (loop (qQ h) 0).bind (VL))
def tF(slot c:Int)(x1:Bool):Option Int:=
  (if x1 then some (-1) else (o8 c).bind fun x2=>some (aX ((aX ((aX ((aX (Int.tdiv slot 4)) * 64))+8))+(aX ((Int.tmod slot 4) * x2)))))
def qR(slot c:Int):Option Int:=
  (jO slot).bind fun x3=>(if !x3 then tF slot c true else (hY c).bind fun x4=>(if !x4 then tF slot c true else (lL c).bind fun x5=>tF slot c (decide (x5≤(Int.tmod slot 4)))))
def uC(h:aB)(slot:Int)(x1:Bool):Option Int:=
  (if x1 then some (-1) else (idx h.Class (aX (Int.tdiv slot 4))).bind fun x2=>some x2)
def lM(h:aB)(slot:Int):Option Int:=
  (jO slot).bind fun x3=>(if !x3 then uC h slot true else (idx h.Class (aX (Int.tdiv slot 4))).bind fun x4=>(qR slot x4).bind fun x5=>uC h slot (decide (x5 < 0)))
def wS(h:aB)(slot:Int):Option Int:=
  (AG h).bind fun x1=>(if !x1 then some (-1) else (lM h slot).bind fun x2=>some x2)
def vC(h:aB)(slot:Int):Option Int:=
  (wS h slot).bind fun x1=>(if decide (x1 < 0) then some 0 else (qR slot x1).bind fun x2=>(nV h.Bytes x2 4).bind fun x3=>some x3)
def QL:Option Bool:=
  some true
def rU(x2:Int)(x4:Bool):Option (Step Int (Out Unit Bool)):=
  (if x4 then some (.stop (Out.ret false)) else some (.next (aX (x2+1))))
def jV(h:aB)(s:aD)(c:Int):Int→Option (Step Int (Out Unit Bool))
  | x2=>(if decide (x2 < (s.aO.length:Int)) then (idx s.aO x2).bind fun x3=>(lM h x3).bind fun x5=>(if x5 != c then rU x2 true else (vC h x3).bind fun x6=>rU x2 (decide (6 < x6))) else some (.stop (Out.brk ())))
def QM:(Out Unit Bool)→Option Bool
  | .brk ()=>QL
  | .ret r=>some r
def tG(h:aB)(s:aD)(c:Int):Option Bool:=
  (loop (jV h s c) 0).bind (QM)
def YA:Option Bool:=
  some true
def o9(m:Mem):Int→Option (Step Int (Out Unit Bool))
  | x5=>(if decide (x5 < (m.aA.aR.length:Int)) then (idx m.aA.aR x5).bind fun x6=>(tG m.aB x6 (Int.tmod x5 3)).bind fun x7=>(if !x7 then some (.stop (Out.ret false)) else some (.next (aX (x5+1)))) else some (.stop (Out.brk ())))
def YB:(Out Unit Bool)→Option Bool
  | .brk ()=>YA
  | .ret r=>some r
def MR(m:Mem):Option Bool:=
  (loop (o9 m) 0).bind (YB)
def pA(m:Mem):Int→Option (Step Int (Out Unit Bool))
  | x3=>(if decide (x3 < (m.aA.Global.length:Int)) then (idx m.aA.Global x3).bind fun x8=>(tG m.aB x8 x3).bind fun x9=>(if !x9 then some (.stop (Out.ret false)) else some (.next (aX (x3+1)))) else some (.stop (Out.brk ())))
def MS(m:Mem):(Out Unit Bool)→Option Bool
  | .brk ()=>MR m
  | .ret r=>some r
def zF(m:Mem)(x1:Bool):Option Bool:=
  (if x1 then some false else (loop (pA m) 0).bind (MS m))
def C6(m:Mem):Option Bool:=
  (AI m.aB).bind fun x10=>(if !x10 then zF m true else (hU m.aA).bind fun x11=>zF m (!x11))
def wT(x5:Int):Option Int:=
  some x5
def f8(l:List aK):(Int×Int)→Option (Step (Int×Int) Int)
  | (x3,x4)=>(if decide (x4 < (l.length:Int)) then (idx l x4).bind fun x6=>some (.next (aX (x3+(x6.Rows.length:Int)),aX (x4+1))) else some (.stop (x3)))
def OW:Int→Option Int
  | x5=>wT x5
def qS(l:List aK):Option Int:=
  (loop (f8 l) (0,0)).bind (OW)
def jW(x1:Bool):Option Bool:=
  some x1
def fW(h:Int):Option Bool:=
  (b8 h 32 223).bind fun x2=>(if x2 then jW (decide ((Int.tmod h 32) < 24)) else jW false)
def uD(l:List aK):Option Bool:=
  (qS l).bind fun x5=>some (decide (x5≤24))
def uE(x3:Int)(x11:List Bool):Option (Step (Int×(List Bool)) (Out Unit Bool)):=
  some (.next (aX (x3+1),x11))
def gK(x9:Int)(x10:List Bool)(x12:bM)(x13:Bool):Option (Step (Int×(List Bool)) (Out (List Bool) Bool)):=
  (if x13 then some (.stop (Out.ret false)) else need (0≤(Int.tmod x12.Handle 32:Int)∧(Int.tmod x12.Handle 32:Int) < 24) ((idx (x10:List Bool) (Int.tmod x12.Handle 32)).bind fun x14=>some (.next (aX (x9+1),x10.set ((Int.tmod x12.Handle 32).toNat) true))))
def i4(x6:aK):(Int×(List Bool))→Option (Step (Int×(List Bool)) (Out (List Bool) Bool))
  | (x9,x10)=>(if decide (x9 < (x6.Rows.length:Int)) then (idx x6.Rows x9).bind fun x12=>(fW x12.Handle).bind fun x15=>(if !x15 then gK x9 x10 x12 true else (b8 x12.aE 0 100000).bind fun x16=>(if !x16 then gK x9 x10 x12 true else need (0≤(Int.tmod x12.Handle 32:Int)∧(Int.tmod x12.Handle 32:Int) < 24) ((idx (x10:List Bool) (Int.tmod x12.Handle 32)).bind fun x17=>gK x9 x10 x12 x17))) else some (.stop (Out.brk x10)))
def IJ(x3:Int):(Out (List Bool) Bool)→Option (Step (Int×(List Bool)) (Out Unit Bool))
  | .brk x11=>uE x3 x11
  | .ret r=>some (.stop (Out.ret r))
def i5(l:List aK):(Int×(List Bool))→Option (Step (Int×(List Bool)) (Out Unit Bool))
  | (x3,x4)=>(if decide (x3 < (l.length:Int)) then (idx l x3).bind fun x6=>(loop (i4 x6) (0,x4)).bind (IJ x3) else some (.stop (Out.brk ())))
def IK(l:List aK):(Out Unit Bool)→Option Bool
  | .brk ()=>uD l
  | .ret r=>some r
def jI(l:List aK):Option Bool:=
  (if (l.length:Int) != 3 then some false else (loop (i5 l) (0,[false,false,false,false,false,false,false,false,false,false,false,false,false,false,false,false,false,false,false,false,false,false,false,false])).bind (IK l))
def wU(x1:Bool):Option Bool:=
  some x1
def J2(h:Int):Option Bool:=
  (if h == 0 then wU true else (fW h).bind fun x2=>wU x2)
def B7(h:Int):Option Bool:=
  (J2 h).bind fun x1=>some (!x1)
def zG(x1:Bool):Option Bool:=
  some x1
def yN(z:List Int):Option Bool:=
  (if (z.length:Int) == 3 then (dX z (fun y0=>B7 y0)).bind fun x2=>zG (!x2) else zG false)
def sI:Option Int:=
  some (-1)
def gQ(s:List aK)(f:(aK→Option Bool)):Int→Option (Step Int (Out Unit Int))
  | x2=>(if decide (x2 < (s.length:Int)) then (idx s x2).bind fun x3=>(f x3).bind fun x4=>(if x4 then some (.stop (Out.ret x2)) else some (.next (aX (x2+1)))) else some (.stop (Out.brk ())))
def kQ:(Out Unit Int)→Option Int
  | .brk ()=>sI
  | .ret r=>some r
def nW(s:List aK)(f:(aK→Option Bool)):Option Int:=
  (loop (gQ s f) 0).bind (kQ)
def eY(s:List aK)(f:(aK→Option Bool)):Option Bool:=
  (nW s f).bind fun x1=>some (decide (0≤x1))
def tH:Option Int:=
  some (-1)
def iA(s:List bM)(f:(bM→Option Bool)):Int→Option (Step Int (Out Unit Int))
  | x2=>(if decide (x2 < (s.length:Int)) then (idx s x2).bind fun x3=>(f x3).bind fun x4=>(if x4 then some (.stop (Out.ret x2)) else some (.next (aX (x2+1)))) else some (.stop (Out.brk ())))
def lT:(Out Unit Int)→Option Int
  | .brk ()=>tH
  | .ret r=>some r
def pJ(s:List bM)(f:(bM→Option Bool)):Option Int:=
  (loop (iA s f) 0).bind (lT)
def fH(s:List bM)(f:(bM→Option Bool)):Option Bool:=
  (pJ s f).bind fun x1=>some (decide (0≤x1))
def BS:Option Int:=
  some (-1)
def dI(s:List Int)(v:Int):Int→Option (Step Int (Out Unit Int))
  | x2=>(if decide (x2 < (s.length:Int)) then (idx s x2).bind fun x3=>(if v == x3 then some (.stop (Out.ret x2)) else some (.next (aX (x2+1)))) else some (.stop (Out.brk ())))
def mC:(Out Unit Int)→Option Int
  | .brk ()=>BS
  | .ret r=>some r
def jX(s:List Int)(v:Int):Option Int:=
  (loop (dI s v) 0).bind (mC)
def mD(s:List Int)(v:Int):Option Bool:=
  (jX s v).bind fun x1=>some (decide (0≤x1))
def lU(s:aD)(k0:Int):Option Bool:=
  (mD s.aO k0).bind fun x1=>some x1
def sJ:Option Int:=
  some (-1)
def gR(s:List aD)(f:(aD→Option Bool)):Int→Option (Step Int (Out Unit Int))
  | x2=>(if decide (x2 < (s.length:Int)) then (idx s x2).bind fun x3=>(f x3).bind fun x4=>(if x4 then some (.stop (Out.ret x2)) else some (.next (aX (x2+1)))) else some (.stop (Out.brk ())))
def kR:(Out Unit Int)→Option Int
  | .brk ()=>sJ
  | .ret r=>some r
def nX(s:List aD)(f:(aD→Option Bool)):Option Int:=
  (loop (gR s f) 0).bind (kR)
def eZ(s:List aD)(f:(aD→Option Bool)):Option Bool:=
  (nX s f).bind fun x1=>some (decide (0≤x1))
def wV(x1:Bool):Option Bool:=
  some x1
def AJ(l:aA)(slot:Int):Option Bool:=
  (eZ l.Global (fun y0=>lU y0 slot)).bind fun x2=>(if x2 then wV true else (eZ l.aR (fun y0=>lU y0 slot)).bind fun x3=>wV x3)
def B8(m:Mem)(slot:Int):Option Int:=
  (lM m.aB slot).bind fun x1=>(if decide (x1 < 0) then some 0 else (AJ m.aA slot).bind fun x2=>(if x2 then some 1 else (vC m.aB slot).bind fun x3=>(if decide (6 < x3) then some 2 else some 3)))
def qT(x1:Bool):Option Bool:=
  some x1
def vU(m:Mem)(h:Int):Option Bool:=
  (fW h).bind fun x2=>(if x2 then (B8 m (Int.tmod h 32)).bind fun x3=>(if x3 == 3 then (vC m.aB (Int.tmod h 32)).bind fun x4=>qT (x4 == (aX (Int.tdiv h 32))) else qT false) else qT false)
def nY(x1:Bool):Option Bool:=
  some x1
def uF(r_:bM)(k0:aI):Option Bool:=
  (vU k0.Mem r_.Handle).bind fun x2=>(if !x2 then nY true else nY (decide (k0.aC.aE < r_.aE)))
def zH(l:aK)(k0:aI):Option Bool:=
  (fH l.Rows (fun y0=>uF y0 k0)).bind fun x1=>some x1
def mV(b:aI)(x1:Bool):Option Bool:=
  (if x1 then some false else (eY b.aJ (fun y0=>zH y0 b)).bind fun x2=>some (!x2))
def AK(b:aI):Option Bool:=
  (C6 b.Mem).bind fun x3=>(if !x3 then mV b true else (hQ b.aC).bind fun x4=>(if !x4 then mV b true else (jI b.aJ).bind fun x5=>(if !x5 then mV b true else (yN b.cA).bind fun x6=>mV b (!x6))))
def SK(x y:Int):Option (Int×Int):=
  some (IntKind.u64.wrap ((IntKind.u64.wrap ((IntKind.u64.wrap ((pX .u64 x 32) * (pX .u64 y 32)))+(pX .u64 (IntKind.u64.wrap ((IntKind.u64.wrap ((pX .u64 x 32) * (eN .and .u64 y 4294967295)))+(pX .u64 (IntKind.u64.wrap ((eN .and .u64 x 4294967295) * (eN .and .u64 y 4294967295))) 32))) 32)))+(pX .u64 (IntKind.u64.wrap ((eN .and .u64 (IntKind.u64.wrap ((IntKind.u64.wrap ((pX .u64 x 32) * (eN .and .u64 y 4294967295)))+(pX .u64 (IntKind.u64.wrap ((eN .and .u64 x 4294967295) * (eN .and .u64 y 4294967295))) 32))) 4294967295)+(IntKind.u64.wrap ((eN .and .u64 x 4294967295) * (pX .u64 y 32))))) 32)),IntKind.u64.wrap (x * y))
def MT(x y:Int):Option (Int×Int):=
  (SK x y).bind fun x1=>some (x1.1,x1.2)
def lN(kind a_:Int):Option Sub:=
  some (⟨kind,a_,0,0,0,0,0,0,0,false⟩:Sub)
def aZ(s:Sub)(code:Int):Option Sub:=
  some ({s with Code:=code,cQ:=true}:Sub)
def SL:Option Int:=
  some (-1)
def uG(x2:Int)(x3:Bool):Option (Step Int (Out Unit Int)):=
  (if x3 then some (.stop (Out.ret x2)) else some (.next (aX (x2+1))))
def gL(size:Int):Int→Option (Step Int (Out Unit Int))
  | x2=>(if decide (x2 < 3) then (if decide (1≤size) then (vT x2).bind fun x4=>uG x2 (decide (size≤x4)) else uG x2 false) else some (.stop (Out.brk ())))
def SM:(Out Unit Int)→Option Int
  | .brk ()=>SL
  | .ret r=>some r
def B9(size:Int):Option Int:=
  (loop (gL size) 0).bind (SM)
def dJ(w_:Int):Option Bool:=
  (b8 w_ 0 2).bind fun x1=>some x1
def zI(w_ c:Int)(x1:Bool):Option Int:=
  (if x1 then some (-1) else some (aX ((aX (w_ * 3))+c)))
def C7(w_ c:Int):Option Int:=
  (dJ w_).bind fun x2=>(if !x2 then zI w_ c true else (hY c).bind fun x3=>zI w_ c (!x3))
def qU(s:aD):Option (Int×aD):=
  (if decide ((aX ((s.aO.length:Int) - 1)) < 0) then some ((-1),s) else (idx s.aO (aX ((s.aO.length:Int) - 1))).bind fun x1=>need (0≤(aX ((s.aO.length:Int) - 1):Int)∧(aX ((s.aO.length:Int) - 1):Int)≤(aX ((s.aO.length:Int) - 1):Int)∧(aX ((s.aO.length:Int) - 1):Int)≤(s.aO.length:Int)) (some (x1,(⟨(s.aO.take ((aX ((s.aO.length:Int) - 1)).toNat)).drop 0⟩:aD))))
def uH(x1:aA)(x2:Int)(x3:Bool):Option (aA×Int):=
  (if x3 then some (x1,(-1)) else (idx x1.aR x2).bind fun x4=>(qU x4).bind fun x5=>some ((⟨x1.Global,x1.aR.set x2.toNat x5.2⟩:aA),x5.1))
def CA(l:aA)(w_ c:Int):Option (aA×Int):=
  (fG l).bind fun x1=>(C7 w_ c).bind fun x2=>(hU l).bind fun x6=>(if !x6 then uH x1 x2 true else uH x1 x2 (decide (x2 < 0)))
def nZ(c:Int)(x1:aA)(x2:Bool):Option (aA×Int):=
  (if x2 then some (x1,(-1)) else (idx x1.Global c).bind fun x3=>(qU x3).bind fun x4=>some ((⟨x1.Global.set c.toNat x4.2,x1.aR⟩:aA),x4.1))
def uI(l:aA)(c:Int):Option (aA×Int):=
  (fG l).bind fun x1=>(hU l).bind fun x5=>(if !x5 then nZ c x1 true else (hY c).bind fun x6=>nZ c x1 (!x6))
def n7(width:Int):Option Bool:=
  (b8 width 1 7).bind fun x1=>some x1
def YC(x8:List UInt8):Option (List UInt8):=
  some x8
def zJ:(Int×(List UInt8)×Int)→Option (Step (Int×(List UInt8)×Int) (List UInt8))
  | (x5,x6,x7)=>(if decide (0≤x7) then (idx x6 x7).bind fun x9=>some (.next (pX .i64 x5 8,x6.set x7.toNat (u8 x5),aX (x7 - 1))) else some (.stop (x6)))
def YD:(List UInt8)→Option (List UInt8)
  | x8=>YC x8
def tI(n width:Int)(x1:Bool):Option (List UInt8):=
  (if x1 then some ([]) else need (0≤(width:Int)∧(width:Int)≤4294967296) ((loop (zJ) (n,List.replicate (width.toNat) 0,aX (width - 1))).bind (YD)))
def vD(n width:Int):Option (List UInt8):=
  (n7 width).bind fun x10=>(if !x10 then tI n width true else (if decide (n < 0) then tI n width true else need (0≤(IntKind.u64.wrap (aX (8 * width)):Int)) (tI n width (decide ((ZG .i64 1 (IntKind.u64.wrap (aX (8 * width))))≤n)))))
def J3(b x5:List Int):Option (List Int):=
  need (x5.length=b.length) (some x5)
def wW(b:List Int)(at_:Int)(text:List UInt8):((List Int)×Int)→Option (Step ((List Int)×Int) (List Int))
  | (x3,x4)=>need (x3.length=b.length) ((if decide (x4 < (text.length:Int)) then (idx text x4).bind fun x6=>(idx x3 (aX (at_+x4))).bind fun x7=>some (.next (x3.set ((aX (at_+x4)).toNat) (x6.toNat:Int),aX (x4+1))) else some (.stop (x3))))
def J4(b:List Int):(List Int)→Option (List Int)
  | x5=>J3 b x5
def qV(b:List Int)(at_:Int)(text:List UInt8):Option (List Int):=
  (loop (wW b at_ text) (b,0)).bind (J4 b)
def wX(page index:Int)(x1:Bool):Option Int:=
  (if x1 then some (-1) else some (aX ((aX (page * 4))+index)))
def EP(page index:Int):Option Int:=
  (b8 page 0 5).bind fun x2=>(if !x2 then wX page index true else (b8 index 0 3).bind fun x3=>wX page index (!x3))
def YE(c:Int)(x1:aB)(x2:Int)(x13 x14:List Int):Option (aB×(List Int)):=
  some ((⟨x14,x1.Class.set x2.toNat c⟩:aB),x13)
def FB(x10:List Int)(x11 x15:Int)(x16:List Int):Option (Step ((List Int)×Int×(List Int)) ((List Int)×(List Int))):=
  need (x10.length+([x15]).length≤1073741824) (some (.next (x10++([x15]),aX (x11+1),x16)))
def zK(c x2 x6:Int):((List Int)×Int×(List Int))→Option (Step ((List Int)×Int×(List Int)) ((List Int)×(List Int)))
  | (x10,x11,x12)=>(if decide (x11 < x6) then (EP x2 x11).bind fun x15=>(qR x15 c).bind fun x17=>(vD 1 4).bind fun x18=>(qV x12 x17 x18).bind fun x19=>FB x10 x11 x15 x19 else some (.stop ((x10,x12))))
def YF(c:Int)(x1:aB)(x2:Int):((List Int)×(List Int))→Option (aB×(List Int))
  | (x13,x14)=>YE c x1 x2 x13 x14
def FC(c:Int)(x1:aB)(x2:Int)(x5:List Int):Option (aB×(List Int)):=
  (lL c).bind fun x6=>(loop (zK c x2 x6) (([]:List Int),0,x5)).bind (YF c x1 x2)
def tJ(c:Int)(x1:aB)(x2:Int)(x3:Bool):Option (aB×(List Int)):=
  (if x3 then some (x1,([]:List Int)) else (idx x1.Class x2).bind fun x4=>need (0≤(aX (x2 * 64):Int)∧(aX (x2 * 64):Int)≤(x1.Bytes.length:Int))<|(lL c).bind fun x20=>FC c x1 x2 (cX x1.Bytes ((aX (x2 * 64)).toNat) ([171,c,x20]:List Int)))
def yO(h:aB)(c:Int):Option (aB×(List Int)):=
  (o7 h).bind fun x1=>(jX h.Class (-1)).bind fun x2=>(AI h).bind fun x21=>(if !x21 then tJ c x1 x2 true else (hY c).bind fun x22=>(if !x22 then tJ c x1 x2 true else tJ c x1 x2 (decide (x2 < 0))))
def A5(x4:Int)(x5:Mem):Option (Mem×Int):=
  some (x5,x4)
def A6(c:Int)(x1:aB×(List Int))(x2:Mem):Option (Mem×Int):=
  (if (x1.2.length:Int) == 0 then some (x2,(-1)) else (idx x2.aA.Global c).bind fun x3=>need (0≤(1:Int)∧(1:Int)≤(x1.2.length:Int)) (need (x3.aO.length+((x1.2.take x1.2.length).drop ((1:Int).toNat)).length≤1073741824) ((idx x1.2 0).bind fun x6=>A5 x6 (⟨x2.aB,(⟨x2.aA.Global.set c.toNat (⟨x3.aO++((x1.2.take x1.2.length).drop ((1:Int).toNat))⟩:aD),x2.aA.aR⟩:aA)⟩:Mem))))
def CB(m:Mem)(c:Int):Option (Mem×Int):=
  (yO m.aB c).bind fun x1=>(fG m.aA).bind fun x7=>A6 c x1 (⟨x1.1,x7⟩:Mem)
def rV(slot gen:Int)(x1:Bool):Option Int:=
  (if x1 then some 0 else some (aX ((aX (gen * 32))+slot)))
def FD(slot gen:Int):Option Int:=
  (jO slot).bind fun x2=>(if !x2 then rV slot gen true else (b8 gen 1 6).bind fun x3=>rV slot gen (!x3))
def zL(m:Mem)(slot:Int):Option Int:=
  (vC m.aB slot).bind fun x1=>(FD slot x1).bind fun x2=>some x2
def fE(s:Sub)(x3:Int)(x4:aI):Option (Sub×aI):=
  (if decide (0≤x3) then (zL x4.Mem x3).bind fun x5=>(aZ ({s with Out:=x5}:Sub) 0).bind fun x6=>some (x6,x4) else (if s.Pc == 3 then (aZ s 3).bind fun x7=>some (x7,x4) else some (({s with Pc:=aX (s.Pc+1)}:Sub),x4)))
def kN(s:Sub)(b:aI)(x1:Int)(x9:Bool):Option (Sub×aI):=
  (if x9 then (uI b.Mem.aA x1).bind fun x10=>fE s x10.2 ({b with Mem:=(⟨b.Mem.aB,x10.1⟩:Mem)}:aI) else (if s.Pc == 2 then (CB b.Mem x1).bind fun x11=>fE s x11.2 ({b with Mem:=x11.1}:aI) else (aZ s 1).bind fun x12=>some (x12,b)))
def n8(s:Sub)(b:aI)(w_:Int):Option (Sub×aI):=
  (B9 s.A).bind fun x1=>(if decide (x1 < 0) then (aZ s 2).bind fun x2=>some (x2,b) else (if s.Pc == 0 then (CA b.Mem.aA w_ x1).bind fun x8=>fE s x8.2 ({b with Mem:=(⟨b.Mem.aB,x8.1⟩:Mem)}:aI) else (if s.Pc == 1 then kN s b x1 true else kN s b x1 (s.Pc == 3))))
def mE(x1:Bool):Option Bool:=
  some x1
def mW(r_:bM)(k0:Int):Option Bool:=
  (fW r_.Handle).bind fun x2=>(if x2 then mE ((Int.tmod r_.Handle 32) == k0) else mE false)
def wY(own:aK)(k0:Int):Option Bool:=
  (fH own.Rows (fun y0=>mW y0 k0)).bind fun x1=>some x1
def CC(l:List aK)(slot:Int):Option Bool:=
  (eY l (fun y0=>wY y0 slot)).bind fun x1=>some x1
def rW(l:List aK)(w_ h e_:Int)(x1:Bool):Option ((List aK)×Bool):=
  (if x1 then (iI l).bind fun x2=>some (x2,false) else (iI l).bind fun x3=>(idx x3 w_).bind fun x4=>need (x4.Rows.length+([(⟨h,e_⟩:bM)]).length≤1073741824) ((jI (x3.set w_.toNat (⟨x4.Rows++([(⟨h,e_⟩:bM)])⟩:aK))).bind fun x5=>(if !x5 then (iI l).bind fun x6=>some (x6,false) else some (x3.set w_.toNat (⟨x4.Rows++([(⟨h,e_⟩:bM)])⟩:aK),true))))
def zM(l:List aK)(w_ h e_:Int):Option ((List aK)×Bool):=
  (jI l).bind fun x7=>(if !x7 then rW l w_ h e_ true else (dJ w_).bind fun x8=>rW l w_ h e_ (!x8))
def jJ(s:Sub)(b:aI)(w_:Int)(x3:Bool):Option (Sub×aI):=
  (if x3 then (aZ s 4).bind fun x4=>some (x4,b) else (zM b.aJ w_ s.A s.E).bind fun x5=>(aZ s 0).bind fun x6=>some (x6,({b with aJ:=x5.1}:aI)))
def jK(s:Sub)(b:aI)(w_:Int)(x1:Bool):Option (Sub×aI):=
  (if x1 then (aZ s 1).bind fun x2=>some (x2,b) else (vU b.Mem s.A).bind fun x7=>(if !x7 then jJ s b w_ true else (CC b.aJ (Int.tmod s.A 32)).bind fun x8=>jJ s b w_ x8))
def mF(s:Sub)(b:aI)(w_:Int):Option (Sub×aI):=
  (if s.Pc == 0 then some (({s with Pc:=1,E:=b.aC.aE}:Sub),b) else (if s.Pc != 1 then jK s b w_ true else (b8 s.E 0 b.aC.aE).bind fun x9=>jK s b w_ (!x9)))
def mX(w_:Int)(x1:aC)(x4:Bool):Option (aC×Bool):=
  (if x4 then some (x1,true) else (idx x1.aN w_).bind fun x5=>(if decide (x5.Seen < 2) then some ((⟨x1.aE,x1.aN.set w_.toNat ({x5 with Seen:=aX (x5.Seen+1)}:dS)⟩:aC),false) else some ((⟨x1.aE,x1.aN.set w_.toNat ({x5 with d5:=true,Seen:=0}:dS)⟩:aC),true)))
def wZ(w_ e_:Int)(x1:aC)(x2:Bool):Option (aC×Bool):=
  (if x2 then some (x1,false) else (idx x1.aN w_).bind fun x3=>(if !x3.On then mX w_ x1 true else (if x3.d5 then mX w_ x1 true else mX w_ x1 (x3.aE == e_))))
def ER(c:aC)(w_ e_:Int):Option (aC×Bool):=
  (iH c).bind fun x1=>(hQ c).bind fun x6=>(if !x6 then wZ w_ e_ x1 true else (dJ w_).bind fun x7=>wZ w_ e_ x1 (!x7))
def w4(x1:aC)(x2:Bool):Option (aC×Bool):=
  (if x2 then some (x1,false) else some ((⟨aX (x1.aE+1),x1.aN⟩:aC),true))
def LY(c:aC)(e_:Int):Option (aC×Bool):=
  (iH c).bind fun x1=>(hQ c).bind fun x3=>(if !x3 then w4 x1 true else (if c.aE != e_ then w4 x1 true else w4 x1 (c.aE == 100000)))
def iS(s:Sub)(b:aI)(x4:aC×Bool)(x5:Int):Option (Sub×aI):=
  (aZ ({s with Out:=x5}:Sub) 0).bind fun x6=>some (x6,({b with aC:=x4.1}:aI))
def iT(s:Sub)(b:aI)(x1:Bool):Option (Sub×aI):=
  (if x1 then (ER b.aC s.B s.E).bind fun x2=>(if !x2.2 then (aZ s 8).bind fun x3=>some (x3,({b with aC:=x2.1}:aI)) else (if (aX (s.B+1)) == 3 then some (({s with Pc:=2,B:=aX (s.B+1)}:Sub),({b with aC:=x2.1}:aI)) else some (({s with B:=aX (s.B+1)}:Sub),({b with aC:=x2.1}:aI)))) else (if s.Pc == 2 then (LY b.aC s.E).bind fun x4=>(if x4.2 then iS s b x4 1 else iS s b x4 s.Out) else (aZ s 1).bind fun x7=>some (x7,b)))
def lO(s:Sub)(b:aI):Option (Sub×aI):=
  (if s.Pc == 0 then some (({s with Pc:=1,E:=b.aC.aE,B:=0}:Sub),b) else (if s.Pc == 1 then (dJ s.B).bind fun x8=>iT s b x8 else iT s b false))
def w5(x1:Bool):Option Bool:=
  some x1
def AL(l:List aK)(w_ i:Int):Option Bool:=
  (dJ w_).bind fun x2=>(if x2 then (idx l w_).bind fun x3=>(b8 i 0 (aX ((x3.Rows.length:Int) - 1))).bind fun x4=>w5 x4 else w5 false)
def CD(x1:Bool):Option Bool:=
  some x1
def GN(r_:bM)(e_:Int):Option Bool:=
  (if decide (2≤e_) then CD (decide (r_.aE≤(aX (e_ - 2)))) else CD false)
def AM(s:Sub)(b:aI):Option (Sub×aI):=
  (aZ s 0).bind fun x3=>some (x3,b)
def dQ(s:Sub)(b:aI)(w_:Int):Int→Option (Step Int (Out Unit (Sub×aI)))
  | x2=>(idx b.aJ w_).bind fun x4=>(if decide (x2 < (x4.Rows.length:Int)) then (idx x4.Rows x2).bind fun x5=>(GN x5 s.E).bind fun x6=>(if x6 then some (.stop (Out.ret (({s with Pc:=2,Row:=x2,B:=0,H:=x5.Handle}:Sub),b))) else some (.next (aX (x2+1)))) else some (.stop (Out.brk ())))
def J5(s:Sub)(b:aI):(Out Unit (Sub×aI))→Option (Sub×aI)
  | .brk ()=>AM s b
  | .ret r=>some r
def lP(s:Sub)(b:aI)(w_:Int):Option (Sub×aI):=
  (loop (dQ s b w_) (if s.Row < 0 then 0 else s.Row)).bind (J5 s b)
def vF(s:List bM)(i j:Int):Option (List bM):=
  need (0≤(i:Int)∧(i:Int)≤(j:Int)∧(j:Int)≤((s.length:Int):Int)∧((s.length:Int):Int)≤(s.length:Int)) ((if i == j then some s else need (0≤(i:Int)∧(i:Int)≤(s.length:Int)) (need (0≤(j:Int)∧(j:Int)≤(s.length:Int)) (need (i.toNat≤j.toNat) (need (0≤(((((cX s i.toNat (s.drop j.toNat)).take (i.toNat+(s.length - j.toNat))).drop 0).length:Int):Int)∧(((((cX s i.toNat (s.drop j.toNat)).take (i.toNat+(s.length - j.toNat))).drop 0).length:Int):Int)≤((s.length:Int):Int)∧((s.length:Int):Int)≤((cX s i.toNat (s.drop j.toNat)).length:Int)) (some (((cX s i.toNat (s.drop j.toNat)).take (i.toNat+(s.length - j.toNat))).drop 0)))))))
def uJ(w_ i:Int)(x1:(List aK))(x2:Bool):Option ((List aK)×Bool):=
  (if x2 then some (x1,false) else (idx x1 w_).bind fun x3=>(vF x3.Rows i (aX (i+1))).bind fun x4=>some (x1.set w_.toNat (⟨x4⟩:aK),true))
def CE(l:List aK)(w_ i:Int):Option ((List aK)×Bool):=
  (iI l).bind fun x1=>(jI l).bind fun x5=>(if !x5 then uJ w_ i x1 true else (AL l w_ i).bind fun x6=>uJ w_ i x1 (!x6))
def C8(x3 x5:List Int):Option (aB×Bool):=
  some ((⟨x5,x3⟩:aB),true)
def w6(slot gen x1:Int)(x2 x3:List Int)(x4:Bool):Option (aB×Bool):=
  (if x4 then some ((⟨x2,x3⟩:aB),false) else (qR slot x1).bind fun x6=>(vD gen 4).bind fun x7=>(qV x2 x6 x7).bind fun x8=>C8 x3 x8)
def C9(slot gen x1:Int)(x2 x3:List Int):Option (aB×Bool):=
  (if decide (x1 < 0) then w6 slot gen x1 x2 x3 true else (b8 gen 1 7).bind fun x9=>w6 slot gen x1 x2 x3 (!x9))
def J6(h:aB)(slot gen:Int):Option (aB×Bool):=
  (o7 h).bind fun x10=>(wS h slot).bind fun x11=>C9 slot gen x11 x10.Bytes x10.Class
def rX(c slot:Int)(x1:aA)(x2:Int)(x3:Bool):Option (aA×Bool):=
  (if x3 then some (x1,false) else (idx x1.aR x2).bind fun x4=>(if decide (2≤(x4.aO.length:Int)) then (idx x1.Global c).bind fun x5=>need (x5.aO.length+([slot]).length≤1073741824) (some ((⟨x1.Global.set c.toNat (⟨x5.aO++([slot])⟩:aD),x1.aR⟩:aA),true)) else need (x4.aO.length+([slot]).length≤1073741824) (some ((⟨x1.Global,x1.aR.set x2.toNat (⟨x4.aO++([slot])⟩:aD)⟩:aA),true))))
def QN(l:aA)(w_ c slot:Int):Option (aA×Bool):=
  (fG l).bind fun x1=>(C7 w_ c).bind fun x2=>(hU l).bind fun x6=>(if !x6 then rX c slot x1 x2 true else (if decide (x2 < 0) then rX c slot x1 x2 true else (jO slot).bind fun x7=>(if !x7 then rX c slot x1 x2 true else (AJ l slot).bind fun x8=>rX c slot x1 x2 x8)))
def FE(x3:Mem):Option Mem:=
  some x3
def FF(m:Mem)(w_ h:Int)(x2:Mem):Option Mem:=
  (if decide ((aX ((aX (Int.tdiv h 32))+1))≤6) then (lM m.aB (Int.tmod h 32)).bind fun x4=>(QN m.aA w_ x4 (Int.tmod h 32)).bind fun x5=>FE (⟨x2.aB,x5.1⟩:Mem) else FE x2)
def HE(m:Mem)(w_ h:Int):Option Mem:=
  (J6 m.aB (Int.tmod h 32) (aX ((aX (Int.tdiv h 32))+1))).bind fun x1=>(fG m.aA).bind fun x6=>FF m w_ h (⟨x1.1,x6⟩:Mem)
def cK(s:Sub)(b:aI)(w_:Int)(x5:Bool):Option (Sub×aI):=
  (if x5 then (CE b.aJ w_ s.Row).bind fun x6=>(HE b.Mem w_ s.H).bind fun x7=>some (({s with Pc:=1,Out:=aX (s.Out+1)}:Sub),({b with Mem:=x7,aJ:=x6.1}:aI)) else (aZ s 1).bind fun x8=>some (x8,b))
def dC(s:Sub)(b:aI)(w_:Int)(x1 x3:Bool):Option (Sub×aI):=
  (if x3 then (idx b.cA s.B).bind fun x4=>(if x4 == s.H then some (({s with Pc:=1,Row:=aX (s.Row+1)}:Sub),b) else (if (aX (s.B+1)) == 3 then some (({s with Pc:=3,B:=aX (s.B+1)}:Sub),b) else some (({s with B:=aX (s.B+1)}:Sub),b))) else (if s.Pc == 3 then (if x1 then (idx b.aJ w_).bind fun x9=>(idx x9.Rows s.Row).bind fun x10=>(GN x10 s.E).bind fun x11=>cK s b w_ x11 else cK s b w_ false) else cK s b w_ false))
def dY(s:Sub)(b:aI)(w_:Int)(x1:Bool):Option (Sub×aI):=
  (if s.Pc == 0 then some (({s with Pc:=1,E:=b.aC.aE,Row:=0}:Sub),b) else (if s.Pc == 1 then (lP s b w_).bind fun x2=>some (x2.1,x2.2) else (if s.Pc == 2 then (dJ s.B).bind fun x12=>(if x12 then dC s b w_ x1 x1 else dC s b w_ x1 false) else dC s b w_ x1 false)))
def lQ(s:Sub)(b:aI)(w_:Int):Option (Sub×aI):=
  (AL b.aJ w_ s.Row).bind fun x13=>(if x13 then (idx b.aJ w_).bind fun x14=>(idx x14.Rows s.Row).bind fun x15=>dY s b w_ (x15.Handle == s.H) else dY s b w_ false)
def tK(w_ e_:Int)(x1:aC)(x2:Bool):Option (aC×Bool):=
  (if x2 then some (x1,false) else (idx x1.aN w_).bind fun x3=>some ((⟨x1.aE,x1.aN.set w_.toNat (⟨true,e_,false,0⟩:dS)⟩:aC),true))
def HF(c:aC)(w_ e_:Int):Option (aC×Bool):=
  (iH c).bind fun x1=>(hQ c).bind fun x4=>(if !x4 then tK w_ e_ x1 true else (dJ w_).bind fun x5=>(if !x5 then tK w_ e_ x1 true else (b8 e_ 0 c.aE).bind fun x6=>tK w_ e_ x1 (!x6)))
def sO(s:Sub)(b:aI)(x1:Bool)(x2:Int)(x3:List dS):Option (Sub×aI):=
  (if !x1 then (aZ s 1).bind fun x4=>some (x4,b) else some (({s with Pc:=2}:Sub),({b with aC:=(⟨x2,x3⟩:aC)}:aI)))
def rY(s:Sub)(b:aI)(w_:Int):Option (Sub×aI):=
  (if s.Pc == 0 then some (({s with Pc:=1,E:=b.aC.aE}:Sub),b) else (if s.Pc == 1 then (HF b.aC w_ s.E).bind fun x5=>sO s b x5.2 x5.1.aE x5.1.aN else (if s.Pc == 2 then (if b.aC.aE == s.E then (aZ s 0).bind fun x6=>some (x6,b) else some (({s with Pc:=0}:Sub),b)) else (aZ s 1).bind fun x7=>some (x7,b))))
def jP(s:Sub)(b:aI)(w_:Int):Option (Sub×aI):=
  (if s.cQ then some (s,b) else (if s.Kind == 1 then (n8 s b w_).bind fun x1=>some (x1.1,x1.2) else (if s.Kind == 2 then (mF s b w_).bind fun x2=>some (x2.1,x2.2) else (if s.Kind == 3 then (lO s b).bind fun x3=>some (x3.1,x3.2) else (if s.Kind == 4 then (lQ s b w_).bind fun x4=>some (x4.1,x4.2) else (if s.Kind == 5 then (rY s b w_).bind fun x5=>some (x5.1,x5.2) else (aZ s 1).bind fun x6=>some (x6,b)))))))
def HH(slot c:Int):Option Int:=
  (qR slot c).bind fun x1=>(if decide (x1 < 0) then some (-1) else some (aX (x1+4)))
def OX(slot c:Int):Option Span:=
  (HH slot c).bind fun x1=>(if decide (x1 < 0) then some (⟨0,0⟩:Span) else (vT c).bind fun x2=>some (⟨x1,aX (x1+x2)⟩:Span))
def CF(h:aB)(slot at_ width:Int):Option Int:=
  (lM h slot).bind fun x1=>(OX slot x1).bind fun x2=>(b8 at_ 0 (aX ((aX (x2.To - x2.aOC)) - width))).bind fun x3=>(if !x3 then some (-1) else some (aX (x2.aOC+at_)))
def DA(m:Mem)(h at_ width:Int)(x1:Bool):Option (Int×Int):=
  (if x1 then some (0,1) else (vU m h).bind fun x2=>(if !x2 then some (0,4) else (CF m.aB (Int.tmod h 32) at_ width).bind fun x3=>(if decide (x3 < 0) then some (0,2) else (nV m.aB.Bytes x3 width).bind fun x4=>some (x4,0))))
def RL(m:Mem)(h at_ width:Int):Option (Int×Int):=
  (C6 m).bind fun x5=>(if !x5 then DA m h at_ width true else (n7 width).bind fun x6=>DA m h at_ width (!x6))
def SN(x4:Mem):Option (Mem×Int):=
  some (x4,0)
def OY(m:Mem)(h at_ width n:Int):Option (Mem×Int):=
  (wO m).bind fun x1=>(vD n width).bind fun x2=>(RL m h at_ width).bind fun x3=>(if x3.2 != 0 then some (x1,x3.2) else (if x2 == ([]) then some (x1,1) else (CF m.aB (Int.tmod h 32) at_ width).bind fun x5=>(qV x1.aB.Bytes x5 x2).bind fun x6=>SN (⟨(⟨x6,x1.aB.Class⟩:aB),x1.aA⟩:Mem)))
def gU(x1:Bool):Option Bool:=
  some x1
def kD(p:dS):Option Bool:=
  (if p.On then gU (!p.d5) else gU false)
def zN(w_:Int)(x1:aC)(x2:Bool):Option (aC×Bool):=
  (if x2 then some (x1,false) else (idx x1.aN w_).bind fun x3=>some ((⟨x1.aE,x1.aN.set w_.toNat (⟨false,0,false,0⟩:dS)⟩:aC),true))
def VM(c:aC)(w_:Int):Option (aC×Bool):=
  (iH c).bind fun x1=>(hQ c).bind fun x4=>(if !x4 then zN w_ x1 true else (dJ w_).bind fun x5=>(if !x5 then zN w_ x1 true else (idx c.aN w_).bind fun x6=>zN w_ x1 (!x6.On)))
def uK(w_ h:Int)(x1:(List Int))(x2:Bool):Option ((List Int)×Bool):=
  (if x2 then some (x1,false) else (idx x1 w_).bind fun x3=>some (x1.set w_.toNat h,true))
def OZ(z:List Int)(w_ h:Int):Option ((List Int)×Bool):=
  (eF z).bind fun x1=>(yN z).bind fun x4=>(if !x4 then uK w_ h x1 true else (dJ w_).bind fun x5=>(if !x5 then uK w_ h x1 true else (fW h).bind fun x6=>uK w_ h x1 (!x6)))
def zO(w_:Int)(x1:(List Int))(x2:Bool):Option ((List Int)×Bool):=
  (if x2 then some (x1,false) else (idx x1 w_).bind fun x3=>some (x1.set w_.toNat 0,true))
def VN(z:List Int)(w_:Int):Option ((List Int)×Bool):=
  (eF z).bind fun x1=>(yN z).bind fun x4=>(if !x4 then zO w_ x1 true else (dJ w_).bind fun x5=>(if !x5 then zO w_ x1 true else (idx z w_).bind fun x6=>zO w_ x1 (x6 == 0)))
def w7(code:List UInt8):Option Bool:=
  some (decide (1048576 < (code.length:Int)))
def YG(x5:Int):Option (Int×Int):=
  some (0,x5)
def zP(code:List UInt8)(x3 x4:Int)(x6:Bool):Option (Step (Int×Int) Int):=
  (if x6 then (idx code x4).bind fun x7=>some (.next (eN .and .i64 (aX ((aX ((aX (x3 * 131))+(x7.toNat:Int)))+7)) 1073741823,aX (x4+1))) else some (.stop (x3)))
def MU(code:List UInt8):(Int×Int)→Option (Step (Int×Int) Int)
  | (x3,x4)=>(if decide (x4 < (code.length:Int)) then zP code x3 x4 (decide (x4 < 4000)) else zP code x3 x4 false)
def YH:Int→Option (Int×Int)
  | x5=>YG x5
def yP(code:List UInt8):Option (Int×Int):=
  (loop (MU code) (aX (10101+(code.length:Int)),0)).bind (YH)
def w8(c:aL)(x1 x2:Int):Option (Int×(Int×Int)):=
  some (x1,(x2,aX ((aX (c.h * 6364136223846793005))+1442695040888963407)))
def nK(c:aL):Option (Int×(Int×Int)):=
  (if decide (c.i < (c.b.length:Int)) then (idx c.b c.i).bind fun x3=>w8 c (eN .and .i64 (aX ((eN .and .i64 (eN .xor .i64 (pX .i64 (aX ((aX (c.h * 6364136223846793005))+1442695040888963407)) 33) (pX .i64 (aX ((aX (c.h * 6364136223846793005))+1442695040888963407)) 45)) 255)+(x3.toNat:Int))) 255) (aX (c.i+1)) else w8 c (eN .and .i64 (eN .xor .i64 (pX .i64 (aX ((aX (c.h * 6364136223846793005))+1442695040888963407)) 33) (pX .i64 (aX ((aX (c.h * 6364136223846793005))+1442695040888963407)) 45)) 255) c.i)
def aQ(c:aL)(n:Int):Option (Int×(Int×Int)):=
  (if decide (n≤0) then some (0,(c.i,c.h)) else (if decide (n≤256) then (nK c).bind fun x1=>need (n≠0) (some (Int.tmod x1.1 n,(x1.2.1,x1.2.2))) else (nK c).bind fun x2=>(nK (⟨c.b,x2.2.1,x2.2.2⟩:aL)).bind fun x3=>(nK (⟨c.b,x3.2.1,x3.2.2⟩:aL)).bind fun x4=>(nK (⟨c.b,x4.2.1,x4.2.2⟩:aL)).bind fun x5=>need (n≠0) (some (Int.tmod (aX ((aX ((aX ((aX (x2.1 * 16777216))+(aX (x3.1 * 65536))))+(aX (x4.1 * 256))))+x5.1)) n,(x5.2.1,x5.2.2)))))
def dZ(c:aL)(list:List Int):Option (Int×(Int×Int)):=
  (aQ c (list.length:Int)).bind fun x1=>(idx list x1.1).bind fun x2=>some (x2,(x1.2.1,x1.2.2))
def nL(c:aL)(n:Int):Option (Bool×(Int×Int)):=
  (aQ c n).bind fun x1=>some (x1.1 == 0,(x1.2.1,x1.2.2))
def SO(x5:List Int):Option aB:=
  some (⟨List.replicate ((384:Int).toNat) 0,x5⟩:aB)
def oR:(Int×(List Int))→Option (Step (Int×(List Int)) (List Int))
  | (x3,x4)=>(if decide (x3 < 6) then need (x4.length+([(-1)]).length≤1073741824) (some (.next (aX (x3+1),x4++([(-1)])))) else some (.stop (x4)))
def SP:(List Int)→Option aB
  | x5=>SO x5
def w9:Option aB:=
  need (0≤(384:Int)∧(384:Int)≤4294967296) ((loop (oR) (0,[])).bind (SP))
def rZ:Option aA:=
  some (⟨List.replicate ((3:Int).toNat) (⟨[]⟩:aD),List.replicate ((9:Int).toNat) (⟨[]⟩:aD)⟩:aA)
def pB:Option aA:=
  need (0≤(3:Int)∧(3:Int)≤4294967296)<|need (0≤(9:Int)∧(9:Int)≤4294967296)<|rZ
def AN:Option Mem:=
  (w9).bind fun x1=>(pB).bind fun x2=>some (⟨x1,x2⟩:Mem)
def tL:Option aC:=
  need (0≤(3:Int)∧(3:Int)≤4294967296) (some (⟨0,List.replicate ((3:Int).toNat) (⟨false,0,false,0⟩:dS)⟩:aC))
def tM:Option (List aK):=
  need (0≤(3:Int)∧(3:Int)≤4294967296) (some (List.replicate ((3:Int).toNat) (⟨[]⟩:aK)))
def AO:Option (List Int):=
  need (0≤(3:Int)∧(3:Int)≤4294967296) (some (List.replicate ((3:Int).toNat) 0))
def CG:Option aI:=
  (AN).bind fun x1=>(tL).bind fun x2=>(tM).bind fun x3=>(AO).bind fun x4=>some (⟨x1,x2,x3,x4⟩:aI)
def VO(x10:Sub)(x11:aI):Option (aI×Sub):=
  some (x11,x10)
def mY(w_ x7:Int)(x8:Sub)(x12:Bool)(x13:aI):Option (Step (Int×Sub×aI) (Sub×aI)):=
  (if x12 then (vA x13 w_ x8).bind fun x14=>some (.next (aX (x7+1),x14.2,x14.1)) else some (.stop ((x8,x13))))
def qW(w_:Int):(Int×Sub×aI)→Option (Step (Int×Sub×aI) (Sub×aI))
  | (x7,x8,x9)=>(if decide (x7 < 200) then mY w_ x7 x8 (!x8.cQ) x9 else mY w_ x7 x8 false x9)
def VQ:(Sub×aI)→Option (aI×Sub)
  | (x10,x11)=>VO x10 x11
def xA(w_:Int)(s:Sub)(x2:Bool)(x3:aI):Option (aI×Sub):=
  (if x2 then some (x3,s) else (loop (qW w_) (0,s,x3)).bind (VQ))
def lR(b:aI)(w_:Int)(s:Sub):Option (aI×Sub):=
  (wD b).bind fun x1=>(iF b).bind fun x15=>(if !x15 then xA w_ s true x1 else (bG w_ 0 2).bind fun x16=>xA w_ s (!x16) x1)
def A7(x17 x18 x19:Int)(x20:aI):Option (aI×Int×(Int×Int)):=
  some (x20,x17,(x18,x19))
def IL(c:aL)(x13:List Int)(x14 x15:Int)(x16:aI):Option (aI×Int×(Int×Int)):=
  (aQ (⟨c.b,x14,x15⟩:aL) (x13.length:Int)).bind fun x21=>(idx x13 x21.1).bind fun x22=>A7 x22 x21.2.1 x21.2.2 x16
def dN(x9:Int)(x23:List Int)(x24 x25:Int)(x26:aI):Option (Step ((List Int)×Int×Int×Int×aI) ((List Int)×Int×Int×aI)):=
  some (.next (x23,aX (x9 - 1),x24,x25,x26))
def A8(x8:List Int)(x9:Int)(x37:Sub)(x38 x39:Int)(x40:aI)(x41:Mem):Option (Step ((List Int)×Int×Int×Int×aI) ((List Int)×Int×Int×aI)):=
  dN x9 (x8++([x37.Out])) x38 x39 ({x40 with Mem:=x41}:aI)
def A9(c:aL)(x8:List Int)(x9 x33 x34:Int)(x35 x36:aI)(x37:Sub):Option (Step ((List Int)×Int×Int×Int×aI) ((List Int)×Int×Int×aI)):=
  (if x37.Out != 0 then need (x8.length+([x37.Out]).length≤1073741824) ((aQ (⟨c.b,x33,x34⟩:aL) 60000).bind fun x42=>(nT x36.Mem x37.Out 0 4 x42.1).bind fun x43=>A8 x8 x9 x37 x42.2.1 x42.2.2 x36 x43.1) else dN x9 x8 x33 x34 x36)
def BA(x8:List Int)(x9:Int)(x30:Int×(Int×Int))(x49:aI):Option (Step ((List Int)×Int×Int×Int×aI) ((List Int)×Int×Int×aI)):=
  dN x9 x8 x30.2.1 x30.2.2 x49
def yQ(x8:List Int)(x9:Int)(x30:Int×(Int×Int))(x54:aI):Option (Step ((List Int)×Int×Int×Int×aI) ((List Int)×Int×Int×aI)):=
  dN x9 x8 x30.2.1 x30.2.2 x54
def yR(x8:List Int)(x9:Int)(x30:Int×(Int×Int))(x57:aI):Option (Step ((List Int)×Int×Int×Int×aI) ((List Int)×Int×Int×aI)):=
  dN x9 x8 x30.2.1 x30.2.2 x57
def yS(x8:List Int)(x9:Int)(x30:Int×(Int×Int))(x60:aI):Option (Step ((List Int)×Int×Int×Int×aI) ((List Int)×Int×Int×aI)):=
  dN x9 x8 x30.2.1 x30.2.2 x60
def oS(c:aL)(x8:List Int)(x9:Int)(x27:Int×(Int×Int))(x29:Int)(x30:Int×(Int×Int))(x52:Bool)(x53:aI):Option (Step ((List Int)×Int×Int×Int×aI) ((List Int)×Int×Int×aI)):=
  (if x52 then (iG 3 0).bind fun x55=>(lR x53 x27.1 x55).bind fun x56=>yQ x8 x9 x30 x56.1 else (if x30.1 == 8 then (iG 4 0).bind fun x58=>(lR x53 x27.1 x58).bind fun x59=>yR x8 x9 x30 x59.1 else (if x30.1 == 9 then (iG 5 0).bind fun x61=>(lR x53 x27.1 x61).bind fun x62=>yS x8 x9 x30 x62.1 else (if x30.1 == 10 then (C5 x53.aC x27.1).bind fun x63=>dN x9 x8 x30.2.1 x30.2.2 ({x53 with aC:=x63.1}:aI) else (wJ x53.cA x27.1 x29).bind fun x64=>(nL (⟨c.b,x30.2.1,x30.2.2⟩:aL) 3).bind fun x65=>(if x65.1 then (HC x64.1 x27.1).bind fun x66=>dN x9 x8 x65.2.1 x65.2.2 ({x53 with cA:=x66.1}:aI) else dN x9 x8 x65.2.1 x65.2.2 ({x53 with cA:=x64.1}:aI))))))
def oT(c:aL)(x8:List Int)(x9:Int)(x27:Int×(Int×Int))(x29:Int)(x30:Int×(Int×Int))(x47:Bool)(x48:aI):Option (Step ((List Int)×Int×Int×Int×aI) ((List Int)×Int×Int×aI)):=
  (if x47 then (iG 2 x29).bind fun x50=>(lR x48 x27.1 x50).bind fun x51=>BA x8 x9 x30 x51.1 else (if x30.1 == 6 then oS c x8 x9 x27 x29 x30 true x48 else oS c x8 x9 x27 x29 x30 (x30.1 == 7) x48))
def i6(c:aL)(x8:List Int)(x9:Int)(x27:Int×(Int×Int))(x29:Int)(x30:Int×(Int×Int))(x31:Bool)(x32:aI):Option (Step ((List Int)×Int×Int×Int×aI) ((List Int)×Int×Int×aI)):=
  (if x31 then (aQ (⟨c.b,x30.2.1,x30.2.2⟩:aL) 40).bind fun x44=>(iG 1 (aX (1+x44.1))).bind fun x45=>(lR x32 x27.1 x45).bind fun x46=>A9 c x8 x9 x44.2.1 x44.2.2 x32 x46.1 x46.2 else (if x30.1 == 4 then oT c x8 x9 x27 x29 x30 true x32 else oT c x8 x9 x27 x29 x30 (x30.1 == 5) x32))
def IM(c:aL):((List Int)×Int×Int×Int×aI)→Option (Step ((List Int)×Int×Int×Int×aI) ((List Int)×Int×Int×aI))
  | (x8,x9,x10,x11,x12)=>(if decide (0 < x9) then (aQ (⟨c.b,x10,x11⟩:aL) 3).bind fun x27=>(aQ (⟨c.b,x27.2.1,x27.2.2⟩:aL) (x8.length:Int)).bind fun x28=>(idx x8 x28.1).bind fun x29=>(aQ (⟨c.b,x28.2.1,x28.2.2⟩:aL) 12).bind fun x30=>(if x30.1 == 0 then i6 c x8 x9 x27 x29 x30 true x12 else (if x30.1 == 1 then i6 c x8 x9 x27 x29 x30 true x12 else (if x30.1 == 2 then i6 c x8 x9 x27 x29 x30 true x12 else i6 c x8 x9 x27 x29 x30 (x30.1 == 3) x12))) else some (.stop ((x8,x10,x11,x12))))
def IN(c:aL):((List Int)×Int×Int×aI)→Option (aI×Int×(Int×Int))
  | (x13,x14,x15,x16)=>IL c x13 x14 x15 x16
def CH(c:aL)(most:Int):Option (aI×Int×(Int×Int)):=
  (CG).bind fun x1=>(aQ c most).bind fun x2=>(loop (IM c) ([0],x2.1,x2.2.1,x2.2.2,x1)).bind (IN c)
def pC(c:aL):Option (Int×(Int×Int)):=
  (nL c 8).bind fun x1=>(if x1.1 then (dZ (⟨c.b,x1.2.1,x1.2.2⟩:aL) ([0,(-1),31,32,55,56,63,64,192,215,216,223,224]:List Int)).bind fun x2=>some (x2.1,(x2.2.1,x2.2.2)) else (aQ (⟨c.b,x1.2.1,x1.2.2⟩:aL) 24).bind fun x3=>(aQ (⟨c.b,x3.2.1,x3.2.2⟩:aL) 6).bind fun x4=>(jN x3.1 (aX (1+x4.1))).bind fun x5=>some (x5,(x4.2.1,x4.2.2)))
def oV(x1:aA)(x2:Int)(x3:Bool):Option (aA×Int):=
  (if x3 then some (x1,(-1)) else (idx x1.aR x2).bind fun x4=>(iX x4).bind fun x5=>some ((⟨x1.Global,x1.aR.set x2.toNat x5.1⟩:aA),x5.2))
def r5(l:aA)(w_ c:Int):Option (aA×Int):=
  (qF l).bind fun x1=>(j8 w_ c).bind fun x2=>(nN l).bind fun x6=>(if !x6 then oV x1 x2 true else oV x1 x2 (decide (x2 < 0)))
def kE(c:Int)(x1:aA)(x2:Bool):Option (aA×Int):=
  (if x2 then some (x1,(-1)) else (idx x1.Global c).bind fun x3=>(iX x3).bind fun x4=>some ((⟨x1.Global.set c.toNat x4.1,x1.aR⟩:aA),x4.2))
def lB(l:aA)(c:Int):Option (aA×Int):=
  (qF l).bind fun x1=>(nN l).bind fun x5=>(if !x5 then kE c x1 true else (bG c 0 2).bind fun x6=>kE c x1 (!x6))
def gY(x10:Int)(x11:Mem):Option (Mem×Int×Int):=
  (if decide (x10 < 0) then some (x11,0,3) else (lS x11 x10).bind fun x12=>some (x11,x12,0))
def gZ(x2 x6:Int)(x7:Mem)(x8 x9:List aD):Option (Mem×Int×Int):=
  (if decide (x6 < 0) then (nQ (⟨x7.aB,(⟨x8,x9⟩:aA)⟩:Mem) x2).bind fun x13=>gY x13.2 x13.1 else gY x6 (⟨x7.aB,(⟨x8,x9⟩:aA)⟩:Mem))
def mZ(w_ x2:Int)(x3:Bool)(x4:Mem):Option (Mem×Int×Int):=
  (if x3 then some (x4,0,1) else (if decide (x2 < 0) then some (x4,0,2) else (r5 x4.aA w_ x2).bind fun x5=>(if decide (x5.2 < 0) then (lB x5.1 x2).bind fun x14=>gZ x2 x14.2 x4 x14.1.Global x14.1.aR else gZ x2 x5.2 x4 x5.1.Global x5.1.aR)))
def lV(m:Mem)(w_ size:Int):Option (Mem×Int×Int):=
  (qG m).bind fun x1=>(nP size).bind fun x2=>(qC m).bind fun x15=>(if !x15 then mZ w_ x2 true x1 else (bG w_ 0 2).bind fun x16=>mZ w_ x2 (!x16) x1)
def uL(m:Mem)(w_ h:Int)(x2:Bool)(x3:Mem):Option (Mem×Int):=
  (if x2 then some (x3,1) else (nO m h).bind fun x4=>(if !x4 then some (x3,4) else (eE h).bind fun x5=>(qK x3 w_ x5).bind fun x6=>some (x6,0)))
def CI(m:Mem)(w_ h:Int):Option (Mem×Int):=
  (qG m).bind fun x1=>(qC m).bind fun x7=>(if !x7 then uL m w_ h true x1 else (bG w_ 0 2).bind fun x8=>uL m w_ h (!x8) x1)
def DB(x17 x18 x19:Int)(x20:Mem):Option (Mem×Int×(Int×Int)):=
  some (x20,x17,(x18,x19))
def J7(c:aL)(x13:List Int)(x14 x15:Int)(x16:Mem):Option (Mem×Int×(Int×Int)):=
  (aQ (⟨c.b,x14,x15⟩:aL) (x13.length:Int)).bind fun x21=>(idx x13 x21.1).bind fun x22=>DB x22 x21.2.1 x21.2.2 x16
def m3(x9:Int)(x23:List Int)(x24 x25:Int)(x26:Mem):Option (Step ((List Int)×Int×Int×Int×Mem) ((List Int)×Int×Int×Mem)):=
  some (.next (x23,aX (x9 - 1),x24,x25,x26))
def DC(x8:List Int)(x9 x31 x32:Int)(x33 x34:Mem):Option (Step ((List Int)×Int×Int×Int×Mem) ((List Int)×Int×Int×Mem)):=
  m3 x9 x8 x31 x32 x34
def DD(x8:List Int)(x9 x39 x45 x46:Int)(x47 x48:Mem):Option (Step ((List Int)×Int×Int×Int×Mem) ((List Int)×Int×Int×Mem)):=
  m3 x9 (x8++([x39])) x45 x46 x48
def DE(c:aL)(x8:List Int)(x9 x39 x40 x41 x42:Int)(x43 x44:Mem):Option (Step ((List Int)×Int×Int×Int×Mem) ((List Int)×Int×Int×Mem)):=
  (if x40 == 0 then need (x8.length+([x39]).length≤1073741824) ((aQ (⟨c.b,x41,x42⟩:aL) 5).bind fun x49=>(aQ (⟨c.b,x49.2.1,x49.2.2⟩:aL) 3).bind fun x50=>(aQ (⟨c.b,x50.2.1,x50.2.2⟩:aL) 256).bind fun x51=>(nT x44 x39 x49.1 (aX (1+x50.1)) x51.1).bind fun x52=>DD x8 x9 x39 x51.2.1 x51.2.2 x44 x52.1) else m3 x9 x8 x41 x42 x44)
def qX(c:aL)(x8:List Int)(x9:Int)(x27:Bool)(x28 x29:Int)(x30:Mem):Option (Step ((List Int)×Int×Int×Int×Mem) ((List Int)×Int×Int×Mem)):=
  (if x27 then (aQ (⟨c.b,x28,x29⟩:aL) 3).bind fun x35=>(aQ (⟨c.b,x35.2.1,x35.2.2⟩:aL) (x8.length:Int)).bind fun x36=>(idx x8 x36.1).bind fun x37=>(CI x30 x35.1 x37).bind fun x38=>DC x8 x9 x36.2.1 x36.2.2 x30 x38.1 else (aQ (⟨c.b,x28,x29⟩:aL) 3).bind fun x53=>(aQ (⟨c.b,x53.2.1,x53.2.2⟩:aL) 40).bind fun x54=>(lV x30 x53.1 (aX (1+x54.1))).bind fun x55=>DE c x8 x9 x55.2.1 x55.2.2 x54.2.1 x54.2.2 x30 x55.1)
def J8(c:aL):((List Int)×Int×Int×Int×Mem)→Option (Step ((List Int)×Int×Int×Int×Mem) ((List Int)×Int×Int×Mem))
  | (x8,x9,x10,x11,x12)=>(if decide (0 < x9) then (nL (⟨c.b,x10,x11⟩:aL) 3).bind fun x56=>(if x56.1 then qX c x8 x9 (decide (1 < (x8.length:Int))) x56.2.1 x56.2.2 x12 else qX c x8 x9 false x56.2.1 x56.2.2 x12) else some (.stop ((x8,x10,x11,x12))))
def J9(c:aL):((List Int)×Int×Int×Mem)→Option (Mem×Int×(Int×Int))
  | (x13,x14,x15,x16)=>J7 c x13 x14 x15 x16
def ES(c:aL)(most:Int):Option (Mem×Int×(Int×Int)):=
  (AN).bind fun x1=>(aQ c most).bind fun x2=>(loop (J8 c) ([0],x2.1,x2.2.1,x2.2.2,x1)).bind (J9 c)
def zQ(c:Int)(x1:aB)(x2:Bool):Option (aB×(List Int)):=
  (if x2 then some (x1,([]:List Int)) else (jG x1 c).bind fun x3=>some (x3.1,x3.2))
def HI(h:aB)(c:Int):Option (aB×(List Int)):=
  (vO h).bind fun x1=>(vM h).bind fun x4=>(if !x4 then zQ c x1 true else (bG c 0 2).bind fun x5=>zQ c x1 (!x5))
def HJ(h:aB)(slot:Int):Option Int:=
  (wA h).bind fun x1=>(if !x1 then some (-1) else (g9 h slot).bind fun x2=>some x2)
def KA(x1:aB)(x3:List Int):Option (aB×Bool):=
  some ((⟨x3,x1.Class⟩:aB),true)
def xB(h:aB)(slot gen:Int)(x1:aB)(x2:Bool):Option (aB×Bool):=
  (if x2 then some (x1,false) else (g9 h slot).bind fun x4=>(nM slot x4).bind fun x5=>(hJ x1.Bytes x5 4 gen).bind fun x6=>KA x1 x6)
def ET(h:aB)(slot gen:Int):Option (aB×Bool):=
  (vO h).bind fun x1=>(HJ h slot).bind fun x7=>(if decide (x7 < 0) then xB h slot gen x1 true else (bG gen 1 7).bind fun x8=>xB h slot gen x1 (!x8))
def VR(x13 x14:Int)(x15 x16:List Int):Option (aB×(Int×Int)):=
  some ((⟨x15,x16⟩:aB),(x13,x14))
def KB(x8 x32 x33:Int)(x34 x35:List Int):Option (Step (Int×Int×Int×(List Int)×(List Int)) (Int×Int×(List Int)×(List Int))):=
  some (.next (aX (x8 - 1),x32,x33,x34,x35))
def xC(x27 x36 x37:Int)(x38 x39:List Int):Option (Step (Int×Int×Int×(List Int)×(List Int)) (Int×Int×(List Int)×(List Int))):=
  some (.next (aX (x27+1),x36,x37,x38,x39))
def DF(x27 x41 x42:Int)(x43 x44:List Int):Option (Step (Int×Int×Int×(List Int)×(List Int)) (Int×Int×(List Int)×(List Int))):=
  xC x27 x41 x42 x43 x44
def KC(c:aL)(x17:List Int):(Int×Int×Int×(List Int)×(List Int))→Option (Step (Int×Int×Int×(List Int)×(List Int)) (Int×Int×(List Int)×(List Int)))
  | (x27,x28,x29,x30,x31)=>(if decide (x27 < (x17.length:Int)) then (nL (⟨c.b,x28,x29⟩:aL) 3).bind fun x40=>(if x40.1 then (idx x17 x27).bind fun x45=>(aQ (⟨c.b,x40.2.1,x40.2.2⟩:aL) 7).bind fun x46=>(ET (⟨x30,x31⟩:aB) x45 (aX (1+x46.1))).bind fun x47=>DF x27 x46.2.1 x46.2.2 x47.1.Bytes x47.1.Class else xC x27 x40.2.1 x40.2.2 x30 x31) else some (.stop ((x28,x29,x30,x31))))
def KD(x8:Int):(Int×Int×(List Int)×(List Int))→Option (Step (Int×Int×Int×(List Int)×(List Int)) (Int×Int×(List Int)×(List Int)))
  | (x32,x33,x34,x35)=>KB x8 x32 x33 x34 x35
def DG(c:aL)(x8:Int)(x17:List Int)(x18 x19:Int)(x20 x21:List Int):Option (Step (Int×Int×Int×(List Int)×(List Int)) (Int×Int×(List Int)×(List Int))):=
  (loop (KC c x17) (0,x18,x19,x20,x21)).bind (KD x8)
def KE(c:aL):(Int×Int×Int×(List Int)×(List Int))→Option (Step (Int×Int×Int×(List Int)×(List Int)) (Int×Int×(List Int)×(List Int)))
  | (x8,x9,x10,x11,x12)=>(if decide (0 < x8) then (aQ (⟨c.b,x9,x10⟩:aL) 3).bind fun x48=>(HI (⟨x11,x12⟩:aB) x48.1).bind fun x49=>DG c x8 x49.2 x48.2.1 x48.2.2 x49.1.Bytes x49.1.Class else some (.stop ((x9,x10,x11,x12))))
def VT:(Int×Int×(List Int)×(List Int))→Option (aB×(Int×Int))
  | (x13,x14,x15,x16)=>VR x13 x14 x15 x16
def EU(c:aL):Option (aB×(Int×Int)):=
  (w9).bind fun x1=>(aQ c 7).bind fun x2=>(loop (KE c) (x2.1,x2.2.1,x2.2.2,x1.Bytes,x1.Class)).bind (VT)
def jQ(x2 x3:Int)(x4 x5:List Int):Option (aB×(Int×Int)):=
  some ((⟨x4,x5⟩:aB),(x2,x3))
def FG(x1:aB×(Int×Int))(x7 x8:Int)(x9:List Int):Option (aB×(Int×Int)):=
  jQ x7 x8 x9 x1.1.Class
def FH(x1:aB×(Int×Int))(x11 x12:Int)(x13:List Int):Option (aB×(Int×Int)):=
  jQ x11 x12 x1.1.Bytes x13
def FI(x1:aB×(Int×Int))(x17 x18:Int)(x19:List Int):Option (aB×(Int×Int)):=
  jQ x17 x18 x19 x1.1.Class
def HK(c:aL):Option (aB×(Int×Int)):=
  (EU c).bind fun x1=>(aQ (⟨c.b,x1.2.1,x1.2.2⟩:aL) 24).bind fun x6=>(if x6.1 == 0 then (aQ (⟨c.b,x6.2.1,x6.2.2⟩:aL) (x1.1.Bytes.length:Int)).bind fun x10=>need (0≤(x10.1:Int)∧(x10.1:Int)≤(x1.1.Bytes.length:Int))<|FG x1 x10.2.1 x10.2.2 ((x1.1.Bytes.take x10.1.toNat).drop 0) else (if x6.1 == 1 then need (x1.1.Class.length+([0]).length≤1073741824) (jQ x6.2.1 x6.2.2 x1.1.Bytes (x1.1.Class++([0]))) else (if x6.1 == 2 then (aQ (⟨c.b,x6.2.1,x6.2.2⟩:aL) (x1.1.Class.length:Int)).bind fun x14=>(dZ (⟨c.b,x14.2.1,x14.2.2⟩:aL) ([(-2),3,0,(-1)]:List Int)).bind fun x15=>(idx x1.1.Class x14.1).bind fun x16=>FH x1 x15.2.1 x15.2.2 (x1.1.Class.set x14.1.toNat x15.1) else (if x6.1 == 3 then (aQ (⟨c.b,x6.2.1,x6.2.2⟩:aL) (x1.1.Bytes.length:Int)).bind fun x20=>(dZ (⟨c.b,x20.2.1,x20.2.2⟩:aL) ([(-1),256,171,1]:List Int)).bind fun x21=>(idx x1.1.Bytes x20.1).bind fun x22=>FI x1 x21.2.1 x21.2.2 (x1.1.Bytes.set x20.1.toNat x21.1) else (if x6.1 == 4 then (aQ (⟨c.b,x6.2.1,x6.2.2⟩:aL) 6).bind fun x23=>(aQ (⟨c.b,x23.2.1,x23.2.2⟩:aL) 12).bind fun x24=>(aQ (⟨c.b,x24.2.1,x24.2.2⟩:aL) 9).bind fun x25=>(idx x1.1.Bytes (aX ((aX (x23.1 * 64))+x24.1))).bind fun x26=>jQ x25.2.1 x25.2.2 (x1.1.Bytes.set ((aX ((aX (x23.1 * 64))+x24.1)).toNat) x25.1) x1.1.Class else jQ x6.2.1 x6.2.2 x1.1.Bytes x1.1.Class)))))
def r6(w_ c slot:Int)(x1:aA)(x2:Bool):Option (aA×Bool):=
  (if x2 then some (x1,false) else (vP x1 w_ c slot).bind fun x3=>some (x3,true))
def LZ(l:aA)(w_ c slot:Int):Option (aA×Bool):=
  (qF l).bind fun x1=>(nN l).bind fun x4=>(if !x4 then r6 w_ c slot x1 true else (j8 w_ c).bind fun x5=>(if decide (x5 < 0) then r6 w_ c slot x1 true else (bG slot 0 23).bind fun x6=>(if !x6 then r6 w_ c slot x1 true else (yJ l).bind fun x7=>(uY x7 slot).bind fun x8=>r6 w_ c slot x1 x8)))
def SQ(x13 x14:Int)(x15 x16:List aD):Option (aA×(Int×Int)):=
  some ((⟨x15,x16⟩:aA),(x13,x14))
def BC(x8 x17 x18:Int)(x19 x20:List aD):Option (Step (Int×Int×Int×(List aD)×(List aD)) (Int×Int×(List aD)×(List aD))):=
  some (.next (aX (x8 - 1),x17,x18,x19,x20))
def IP(c:aL):(Int×Int×Int×(List aD)×(List aD))→Option (Step (Int×Int×Int×(List aD)×(List aD)) (Int×Int×(List aD)×(List aD)))
  | (x8,x9,x10,x11,x12)=>(if decide (0 < x8) then (aQ (⟨c.b,x9,x10⟩:aL) 3).bind fun x21=>(aQ (⟨c.b,x21.2.1,x21.2.2⟩:aL) 3).bind fun x22=>(aQ (⟨c.b,x22.2.1,x22.2.2⟩:aL) 24).bind fun x23=>(LZ (⟨x11,x12⟩:aA) x21.1 x22.1 x23.1).bind fun x24=>BC x8 x23.2.1 x23.2.2 x24.1.Global x24.1.aR else some (.stop ((x9,x10,x11,x12))))
def SR:(Int×Int×(List aD)×(List aD))→Option (aA×(Int×Int))
  | (x13,x14,x15,x16)=>SQ x13 x14 x15 x16
def CJ(c:aL):Option (aA×(Int×Int)):=
  (pB).bind fun x1=>(aQ c 14).bind fun x2=>(loop (IP c) (x2.1,x2.2.1,x2.2.2,x1.Global,x1.aR)).bind (SR)
def lW(x2 x3:Int)(x4 x5:List aD):Option (aA×(Int×Int)):=
  some ((⟨x4,x5⟩:aA),(x2,x3))
def FJ(x1:aA×(Int×Int))(x7 x8:Int)(x9:List aD):Option (aA×(Int×Int)):=
  lW x7 x8 x1.1.Global x9
def FK(x1:aA×(Int×Int))(x13 x14:Int)(x15:List aD):Option (aA×(Int×Int)):=
  lW x13 x14 x15 x1.1.aR
def HL(c:aL):Option (aA×(Int×Int)):=
  (CJ c).bind fun x1=>(aQ (⟨c.b,x1.2.1,x1.2.2⟩:aL) 20).bind fun x6=>(if x6.1 == 0 then need (0≤(2:Int)∧(2:Int)≤(x1.1.Global.length:Int)) (lW x6.2.1 x6.2.2 ((x1.1.Global.take ((2:Int).toNat)).drop 0) x1.1.aR) else (if x6.1 == 1 then need (x1.1.aR.length+([(⟨[]⟩:aD)]).length≤1073741824) (lW x6.2.1 x6.2.2 x1.1.Global (x1.1.aR++([(⟨[]⟩:aD)]))) else (if x6.1 == 2 then (aQ (⟨c.b,x6.2.1,x6.2.2⟩:aL) (x1.1.aR.length:Int)).bind fun x10=>(idx x1.1.aR x10.1).bind fun x11=>FJ x1 x10.2.1 x10.2.2 (x1.1.aR.set x10.1.toNat (⟨([1,2,3]:List Int)⟩:aD)) else (if x6.1 == 3 then (aQ (⟨c.b,x6.2.1,x6.2.2⟩:aL) 3).bind fun x12=>(idx x1.1.Global x12.1).bind fun x16=>(dZ (⟨c.b,x12.2.1,x12.2.2⟩:aL) ([(-1),24,5,6]:List Int)).bind fun x17=>need (x16.aO.length+([x17.1]).length≤1073741824)<|FK x1 x17.2.1 x17.2.2 (x1.1.Global.set x12.1.toNat (⟨x16.aO++([x17.1])⟩:aD)) else lW x6.2.1 x6.2.2 x1.1.Global x1.1.aR))))
def tN(x2 x6 x7:Int)(x8:Mem):Option (Mem×Int×(Int×Int)):=
  some (x8,x2,(x6,x7))
def tO(c:aL)(x2 x3 x4:Int)(x5:Mem):Option (Mem×Int×(Int×Int)):=
  (aQ (⟨c.b,x3,x4⟩:aL) 24).bind fun x9=>(if x9.1 == 0 then (HK (⟨c.b,x9.2.1,x9.2.2⟩:aL)).bind fun x10=>tN x2 x10.2.1 x10.2.2 (⟨x10.1,x5.aA⟩:Mem) else (if x9.1 == 1 then (HL (⟨c.b,x9.2.1,x9.2.2⟩:aL)).bind fun x11=>tN x2 x11.2.1 x11.2.2 (⟨x5.aB,x11.1⟩:Mem) else tN x2 x9.2.1 x9.2.2 x5))
def HM(c:aL):Option (Mem×Int×(Int×Int)):=
  (ES c 22).bind fun x1=>(nL (⟨c.b,x1.2.2.1,x1.2.2.2⟩:aL) 6).bind fun x12=>(if x12.1 then (pC (⟨c.b,x12.2.1,x12.2.2⟩:aL)).bind fun x13=>tO c x13.1 x13.2.1 x13.2.2 x1.1 else tO c x1.2.1 x12.2.1 x12.2.2 x1.1)
def QO(x13 x14 x15:Int)(x16:List dS):Option (aC×(Int×Int)):=
  some ((⟨x15,x16⟩:aC),(x13,x14))
def jY(x8 x18 x19 x20:Int)(x21:List dS):Option (Step (Int×Int×Int×Int×(List dS)) (Int×Int×Int×(List dS))):=
  some (.next (aX (x8 - 1),x18,x19,x20,x21))
def r7(x8 x11:Int)(x12:List dS)(x17 x22:Int×(Int×Int))(x25:Bool):Option (Step (Int×Int×Int×Int×(List dS)) (Int×Int×Int×(List dS))):=
  (if x25 then (qI (⟨x11,x12⟩:aC) x17.1 x11).bind fun x26=>jY x8 x22.2.1 x22.2.2 x26.1.aE x26.1.aN else (yL (⟨x11,x12⟩:aC) x11).bind fun x27=>jY x8 x22.2.1 x22.2.2 x27.1.aE x27.1.aN)
def GO(c:aL):(Int×Int×Int×Int×(List dS))→Option (Step (Int×Int×Int×Int×(List dS)) (Int×Int×Int×(List dS)))
  | (x8,x9,x10,x11,x12)=>(if decide (0 < x8) then (aQ (⟨c.b,x9,x10⟩:aL) 3).bind fun x17=>(aQ (⟨c.b,x17.2.1,x17.2.2⟩:aL) 6).bind fun x22=>(if x22.1 == 0 then (uZ (⟨x11,x12⟩:aC) x17.1 x11).bind fun x23=>jY x8 x22.2.1 x22.2.2 x23.1.aE x23.1.aN else (if x22.1 == 1 then (C5 (⟨x11,x12⟩:aC) x17.1).bind fun x24=>jY x8 x22.2.1 x22.2.2 x24.1.aE x24.1.aN else (if x22.1 == 2 then r7 x8 x11 x12 x17 x22 true else r7 x8 x11 x12 x17 x22 (x22.1 == 3)))) else some (.stop ((x9,x10,x11,x12))))
def QP:(Int×Int×Int×(List dS))→Option (aC×(Int×Int))
  | (x13,x14,x15,x16)=>QO x13 x14 x15 x16
def zR(c:aL):Option (aC×(Int×Int)):=
  (tL).bind fun x1=>(aQ c 16).bind fun x2=>(loop (GO c) (x2.1,x2.2.1,x2.2.2,x1.aE,x1.aN)).bind (QP)
def gA(x3 x4 x5:Int)(x6:List dS):Option (aC×(Int×Int)):=
  some ((⟨x5,x6⟩:aC),(x3,x4))
def EV(c:aL):Option (aC×(Int×Int)):=
  (zR c).bind fun x1=>(aQ (⟨c.b,x1.2.1,x1.2.2⟩:aL) 3).bind fun x2=>(aQ (⟨c.b,x2.2.1,x2.2.2⟩:aL) 24).bind fun x7=>(if x7.1 == 0 then (dZ (⟨c.b,x7.2.1,x7.2.2⟩:aL) ([(-1),100000,100001]:List Int)).bind fun x8=>gA x8.2.1 x8.2.2 x8.1 x1.1.aN else (if x7.1 == 1 then need (0≤(x2.1:Int)∧(x2.1:Int)≤(x1.1.aN.length:Int)) (gA x7.2.1 x7.2.2 x1.1.aE ((x1.1.aN.take x2.1.toNat).drop 0)) else (if x7.1 == 2 then (idx x1.1.aN x2.1).bind fun x9=>gA x7.2.1 x7.2.2 x1.1.aE (x1.1.aN.set x2.1.toNat (⟨false,1,false,0⟩:dS)) else (if x7.1 == 3 then (idx x1.1.aN x2.1).bind fun x10=>gA x7.2.1 x7.2.2 x1.1.aE (x1.1.aN.set x2.1.toNat (⟨true,aX (x1.1.aE+1),false,0⟩:dS)) else (if x7.1 == 4 then (idx x1.1.aN x2.1).bind fun x11=>gA x7.2.1 x7.2.2 x1.1.aE (x1.1.aN.set x2.1.toNat (⟨true,0,false,3⟩:dS)) else (if x7.1 == 5 then (idx x1.1.aN x2.1).bind fun x12=>gA x7.2.1 x7.2.2 x1.1.aE (x1.1.aN.set x2.1.toNat (⟨true,0,true,0⟩:dS)) else gA x7.2.1 x7.2.2 x1.1.aE x1.1.aN))))))
def r8(l:List aK)(w_ h e_:Int)(x1:(List aK))(x2:Bool):Option ((List aK)×Bool):=
  (if x2 then some (x1,false) else (idx x1 w_).bind fun x3=>need (x3.Rows.length+([(⟨h,e_⟩:bM)]).length≤1073741824) ((rQ (x1.set w_.toNat (⟨x3.Rows++([(⟨h,e_⟩:bM)])⟩:aK))).bind fun x4=>(if !x4 then (rR l).bind fun x5=>some (x5,false) else some (x1.set w_.toNat (⟨x3.Rows++([(⟨h,e_⟩:bM)])⟩:aK),true))))
def zS(l:List aK)(w_ h e_:Int):Option ((List aK)×Bool):=
  (rR l).bind fun x1=>(rQ l).bind fun x6=>(if !x6 then r8 l w_ h e_ x1 true else (bG w_ 0 2).bind fun x7=>r8 l w_ h e_ x1 (!x7))
def QQ(x11:List aK)(x12 x13:Int):Option ((List aK)×(Int×Int)):=
  some (x11,(x12,x13))
def GP(c:aL):((List aK)×Int×Int×Int)→Option (Step ((List aK)×Int×Int×Int) ((List aK)×Int×Int))
  | (x7,x8,x9,x10)=>(if decide (0 < x8) then (aQ (⟨c.b,x9,x10⟩:aL) 3).bind fun x14=>(pC (⟨c.b,x14.2.1,x14.2.2⟩:aL)).bind fun x15=>(aQ (⟨c.b,x15.2.1,x15.2.2⟩:aL) 6).bind fun x16=>(zS x7 x14.1 x15.1 x16.1).bind fun x17=>some (.next (x17.1,aX (x8 - 1),x16.2.1,x16.2.2)) else some (.stop ((x7,x9,x10))))
def QT:((List aK)×Int×Int)→Option ((List aK)×(Int×Int))
  | (x11,x12,x13)=>QQ x11 x12 x13
def zT(c:aL):Option ((List aK)×(Int×Int)):=
  (tM).bind fun x1=>(aQ c 10).bind fun x2=>(loop (GP c) (x1,x2.1,x2.2.1,x2.2.2)).bind (QT)
def m4(x2:List aK)(x3 x4:Int):Option ((List aK)×(Int×Int)):=
  some (x2,(x3,x4))
def DH(x7:List aK)(x8 x9:Int):Option ((List aK)×(Int×Int)):=
  m4 x7 x8 x9
def EW(c:aL):Option ((List aK)×(Int×Int)):=
  (zT c).bind fun x1=>(aQ (⟨c.b,x1.2.1,x1.2.2⟩:aL) 20).bind fun x5=>(if x5.1 == 0 then need (0≤(1:Int)∧(1:Int)≤(x1.1.length:Int)) (some ((x1.1.take ((1:Int).toNat)).drop 0,(x5.2.1,x5.2.2))) else (if x5.1 == 1 then (idx x1.1 0).bind fun x6=>need (x6.Rows.length+([(⟨33,1⟩:bM),(⟨65,1⟩:bM)]:List bM).length≤1073741824) (m4 (x1.1.set ((0:Int).toNat) (⟨x6.Rows++([(⟨33,1⟩:bM),(⟨65,1⟩:bM)]:List bM)⟩:aK)) x5.2.1 x5.2.2) else (if x5.1 == 2 then (idx x1.1 1).bind fun x10=>(pC (⟨c.b,x5.2.1,x5.2.2⟩:aL)).bind fun x11=>need (x10.Rows.length+([(⟨x11.1,(-1)⟩:bM)]).length≤1073741824)<|DH (x1.1.set ((1:Int).toNat) (⟨x10.Rows++([(⟨x11.1,(-1)⟩:bM)])⟩:aK)) x11.2.1 x11.2.2 else (if x5.1 == 3 then (idx x1.1 2).bind fun x12=>need (x12.Rows.length+([(⟨0,0⟩:bM)]).length≤1073741824) (m4 (x1.1.set ((2:Int).toNat) (⟨x12.Rows++([(⟨0,0⟩:bM)])⟩:aK)) x5.2.1 x5.2.2) else m4 x1.1 x5.2.1 x5.2.2))))
def xD(x14:List Int)(x15 x16:Int):Option ((List Int)×(Int×Int)):=
  some (x14,(x15,x16))
def KF(c:aL)(x11:List Int)(x12 x13:Int):Option ((List Int)×(Int×Int)):=
  (aQ (⟨c.b,x12,x13⟩:aL) 20).bind fun x17=>(if x17.1 == 0 then need (0≤(2:Int)∧(2:Int)≤(x11.length:Int)) (some ((x11.take ((2:Int).toNat)).drop 0,(x17.2.1,x17.2.2))) else (if x17.1 == 1 then (aQ (⟨c.b,x17.2.1,x17.2.2⟩:aL) 3).bind fun x18=>(dZ (⟨c.b,x18.2.1,x18.2.2⟩:aL) ([(-1),31,56,224]:List Int)).bind fun x19=>(idx x11 x18.1).bind fun x20=>xD (x11.set x18.1.toNat x19.1) x19.2.1 x19.2.2 else xD x11 x17.2.1 x17.2.2))
def KG(c:aL):((List Int)×Int×Int×Int)→Option (Step ((List Int)×Int×Int×Int) ((List Int)×Int×Int))
  | (x7,x8,x9,x10)=>(if decide (0 < x8) then (aQ (⟨c.b,x9,x10⟩:aL) 3).bind fun x21=>(aQ (⟨c.b,x21.2.1,x21.2.2⟩:aL) 4).bind fun x22=>(aQ (⟨c.b,x22.2.1,x22.2.2⟩:aL) 2).bind fun x23=>(jN x22.1 (aX (1+x23.1))).bind fun x24=>(wJ x7 x21.1 x24).bind fun x25=>some (.next (x25.1,aX (x8 - 1),x23.2.1,x23.2.2)) else some (.stop ((x7,x9,x10))))
def KH(c:aL):((List Int)×Int×Int)→Option ((List Int)×(Int×Int))
  | (x11,x12,x13)=>KF c x11 x12 x13
def EX(c:aL):Option ((List Int)×(Int×Int)):=
  (AO).bind fun x1=>(aQ c 4).bind fun x2=>(loop (KG c) (x1,x2.1,x2.2.1,x2.2.2)).bind (KH c)
def kG(x1:aI×Int×(Int×Int))(x2 x3:Int)(x4:aI):Option (aI×Int×(Int×Int)):=
  some (x4,x1.2.1,(x2,x3))
def vV(c:aL):Option (aI×Int×(Int×Int)):=
  (CH c 26).bind fun x1=>(aQ (⟨c.b,x1.2.2.1,x1.2.2.2⟩:aL) 28).bind fun x5=>(if x5.1 == 0 then (HM (⟨c.b,x5.2.1,x5.2.2⟩:aL)).bind fun x6=>kG x1 x6.2.2.1 x6.2.2.2 (⟨x6.1,x1.1.aC,x1.1.aJ,x1.1.cA⟩:aI) else (if x5.1 == 1 then (EV (⟨c.b,x5.2.1,x5.2.2⟩:aL)).bind fun x7=>kG x1 x7.2.1 x7.2.2 (⟨x1.1.Mem,x7.1,x1.1.aJ,x1.1.cA⟩:aI) else (if x5.1 == 2 then (EW (⟨c.b,x5.2.1,x5.2.2⟩:aL)).bind fun x8=>kG x1 x8.2.1 x8.2.2 (⟨x1.1.Mem,x1.1.aC,x8.1,x1.1.cA⟩:aI) else (if x5.1 == 3 then (EX (⟨c.b,x5.2.1,x5.2.2⟩:aL)).bind fun x9=>kG x1 x9.2.1 x9.2.2 (⟨x1.1.Mem,x1.1.aC,x1.1.aJ,x9.1⟩:aI) else kG x1 x5.2.1 x5.2.2 x1.1))))
def O0:Option Bool:=
  some true
def xE(a_ b:List Int):Int→Option (Step Int (Out Unit Bool))
  | x2=>(if decide (x2 < (a_.length:Int)) then (idx a_ x2).bind fun x3=>(idx b x2).bind fun x4=>(if x3 != x4 then some (.stop (Out.ret false)) else some (.next (aX (x2+1)))) else some (.stop (Out.brk ())))
def O1:(Out Unit Bool)→Option Bool
  | .brk ()=>O0
  | .ret r=>some r
def kH(a_ b:List Int):Option Bool:=
  (if (a_.length:Int) != (b.length:Int) then some false else (loop (xE a_ b) 0).bind (O1))
def yT(x1:Bool):Option Bool:=
  some x1
def FL(a_ b:aB):Option Bool:=
  (kH a_.Bytes b.Bytes).bind fun x2=>(if x2 then (kH a_.Class b.Class).bind fun x3=>yT x3 else yT false)
def VU:Option Bool:=
  some true
def DI(a_ b:List aD):Int→Option (Step Int (Out Unit Bool))
  | x2=>(if decide (x2 < (a_.length:Int)) then (idx a_ x2).bind fun x3=>(idx b x2).bind fun x4=>(kH x3.aO x4.aO).bind fun x5=>(if !x5 then some (.stop (Out.ret false)) else some (.next (aX (x2+1)))) else some (.stop (Out.brk ())))
def VV:(Out Unit Bool)→Option Bool
  | .brk ()=>VU
  | .ret r=>some r
def AP(a_ b:List aD):Option Bool:=
  (if (a_.length:Int) != (b.length:Int) then some false else (loop (DI a_ b) 0).bind (VV))
def xF(x1:Bool):Option Bool:=
  some x1
def DJ(a_ b:aA):Option Bool:=
  (AP a_.Global b.Global).bind fun x2=>(if x2 then (AP a_.aR b.aR).bind fun x3=>xF x3 else xF false)
def BD(x1:Bool):Option Bool:=
  some x1
def r9(a_ b:Mem):Option Bool:=
  (FL a_.aB b.aB).bind fun x2=>(if x2 then (DJ a_.aA b.aA).bind fun x3=>BD x3 else BD false)
def KI(x7:List Int):Option (List Int):=
  some x7
def iJ:((List Int)×Int)→Option (Step ((List Int)×Int) (List Int))
  | (x5,x6)=>(if decide (x6 < (x5.length:Int)) then need (0≤(x6:Int)∧(x6:Int)≤(x5.length:Int)) (need (0≤(x6:Int)∧(x6:Int)≤(x5.length:Int)) (some (.next (cX x5 x6.toNat ((x5.take x6.toNat).drop 0),aX (x6+((min ((x5.take x6.toNat).drop 0).length (x5.length - x6.toNat):Nat):Int)))))) else some (.stop (x5)))
def KJ:(List Int)→Option (List Int)
  | x7=>KI x7
def qY(x:List Int)(x1:Int×Int)(x2:Bool):Option (List Int):=
  (if x2 then none else need (0≤(IntKind.i64.wrap x1.2:Int)∧(IntKind.i64.wrap x1.2:Int)≤4294967296) ((loop (iJ) (cX (List.replicate ((IntKind.i64.wrap x1.2).toNat) 0) 0 x,((min x.length ((List.replicate ((IntKind.i64.wrap x1.2).toNat) 0:List Int).length - 0):Nat):Int))).bind (KJ)))
def xG(x:List Int)(count:Int):Option (List Int):=
  (if decide (count < 0) then none else (MT (IntKind.u64.wrap (x.length:Int)) (IntKind.u64.wrap count)).bind fun x1=>(if decide (0 < x1.1) then qY x x1 true else qY x x1 (decide (9223372036854775807 < x1.2))))
def SS(x1:List Int):Option aB:=
  some (⟨List.replicate ((384:Int).toNat) 0,x1⟩:aB)
def HN:Option aB:=
  need (0≤(384:Int)∧(384:Int)≤4294967296)<|(xG ([(-1)]) 6).bind fun x2=>SS x2
def QU:Option aA:=
  some (⟨List.replicate ((3:Int).toNat) (⟨[]⟩:aD),List.replicate ((9:Int).toNat) (⟨[]⟩:aD)⟩:aA)
def MV:Option aA:=
  need (0≤(3:Int)∧(3:Int)≤4294967296)<|need (0≤(9:Int)∧(9:Int)≤4294967296)<|QU
def RM:Option Mem:=
  (HN).bind fun x1=>(MV).bind fun x2=>some (⟨x1,x2⟩:Mem)
def MW:Option aC:=
  need (0≤(3:Int)∧(3:Int)≤4294967296) (some (⟨0,List.replicate ((3:Int).toNat) (⟨false,0,false,0⟩:dS)⟩:aC))
def MX:Option (List aK):=
  need (0≤(3:Int)∧(3:Int)≤4294967296) (some (List.replicate ((3:Int).toNat) (⟨[]⟩:aK)))
def RN:Option (List Int):=
  need (0≤(3:Int)∧(3:Int)≤4294967296) (some (List.replicate ((3:Int).toNat) 0))
def O2:Option aI:=
  (RM).bind fun x1=>(MW).bind fun x2=>(MX).bind fun x3=>(RN).bind fun x4=>some (⟨x1,x2,x3,x4⟩:aI)
def qZ(code:List UInt8):Option aI:=
  (yP code).bind fun x1=>(vV (⟨code,x1.1,x1.2⟩:aL)).bind fun x2=>some x2.1
def VW(x10:Sub)(x11:aI):Option (aI×Sub):=
  some (x11,x10)
def kI(w_:Int):(Int×Sub×aI)→Option (Step (Int×Sub×aI) (Sub×aI))
  | (x7,x8,x9)=>(if decide (x7 < 200) then (jP x8 x9 w_).bind fun x12=>some (.next (aX (x7+1),x12.1,x12.2)) else some (.stop ((x8,x9))))
def VX:(Sub×aI)→Option (aI×Sub)
  | (x10,x11)=>VW x10 x11
def xH(w_:Int)(s:Sub)(x2:Bool)(x3:aI):Option (aI×Sub):=
  (if x2 then some (x3,s) else (loop (kI w_) (0,s,x3)).bind (VX))
def vW(b:aI)(w_:Int)(s:Sub):Option (aI×Sub):=
  (tE b).bind fun x1=>(AK b).bind fun x13=>(if !x13 then xH w_ s true x1 else (dJ w_).bind fun x14=>xH w_ s (!x14) x1)
def L4(code:List UInt8)(i:Int):Option Int:=
  (if decide (i < (code.length:Int)) then (idx code i).bind fun x1=>some (x1.toNat:Int) else some (Int.tmod (aX ((aX (i * 37))+(aX ((code.length:Int) * 11)))) 256))
end
end Go.Gv
end
noncomputable section
set_option linter.unusedVariables false
set_option maxHeartbeats 4000000
set_option maxRecDepth 100000
namespace Go.Proofs.YtbdmodalljibjaaGreat
open Go.Gv
theorem aS:QC Tryz.prog 3 1 (.int .i64 0):=JO (b:=8) (by kernel_rfl) rfl
theorem cH:QC Tryz.prog 105 2 (.agg #[.int .i64 0,.int .i64 0]):=JO (b:=16) (by kernel_rfl) rfl
theorem cR:QC Tryz.prog 162 1 (.agg #[.slice none 0 0]):=JO (b:=24) (by kernel_rfl) rfl
theorem AQ:QC Tryz.prog 175 4 (.agg #[.bool false,.int .i64 0,.bool false,.int .i64 0]):=JO (b:=32) (by kernel_rfl) rfl
theorem q5:QC Tryz.prog 103 1 (.agg #[.slice none 0 0]):=JO (b:=24) (by kernel_rfl) rfl
theorem ZW:QC Tryz.prog 5 1 (.int .u8 0):=JO (b:=1) (by kernel_rfl) rfl
theorem aFA:QC Tryz.prog 43 1 (.slice none 0 0):=JO (b:=24) (by kernel_rfl) rfl
theorem aG:Tryz.prog.follows .mixedOrders=true:=by kernel_rfl
theorem KK(D:Nat)(d d':dS)(w:World):(Op.eqFields (D+2) #[.bool (d.On),.int .i64 (d.aE),.bool (d.d5),.int .i64 (d.Seen)] #[.bool (d'.On),.int .i64 (d'.aE),.bool (d'.d5),.int .i64 (d'.Seen)] (match Tryz.prog.underlying 175 with | some (.struct fs)=>fs | _=>#[]).toList).run Tryz.prog w=.ok (decide (d=d')) w:=by
  rw [Tryz.underlying175]
  have h:(d.On == d'.On && (d.aE == d'.aE && (d.d5 == d'.d5 && (d.Seen == d'.Seen && true))))=decide (d=d'):=by
    cases d;cases d';rw [Bool.eq_iff_iff];simp
  rw [←h]
  exact GG _ _ _ _ _ rfl (IA Tryz.isAgg4 rfl) (IA Tryz.isAgg4 rfl) (aGE Tryz.underlying4)<|
    GG _ _ _ _ _ rfl (IA Tryz.isAgg3 rfl) (IA Tryz.isAgg3 rfl) (aAL Tryz.underlying3)<|
    GG _ _ _ _ _ rfl (IA Tryz.isAgg4 rfl) (IA Tryz.isAgg4 rfl) (aGE Tryz.underlying4)<|
    GG _ _ _ _ _ rfl (IA Tryz.isAgg3 rfl) (IA Tryz.isAgg3 rfl) (aAL Tryz.underlying3)<|
    aGD _ _ _
set_option maxRecDepth 100000 in
theorem GQ{w0:World}{n:Int}(hn:0≤n∧n≤1073741824) :
    Calls Tryz.prog 337 #[.slice none 0 0,.int .i64 n] w0 (Ret fun v w'=>∃s0_0:Value,v=s0_0∧St (b7 w0) w' [eR [s0_0] ([]:List Raw)] []):=by
  have hS:St (b7 w0) w0 [] []:=St.enter (by intro f hf;cases hf)
  have hw:aX (n - aX (0 - 0))=n:=by
    rw [C0 (x:=0 - 0) (by omega),C0 (by omega)];omega
  refine aJB (args:=[_,_]) Tryz.func337 rfl Tryz.ntmps337 rfl ?_
  intro a hA
  refine bK ?_
  refine bY hA ?_
  clear hA
  refine dV (yG rfl rfl) (bO rfl) rfl rfl ?_
  refine bA ?_
  intro a hA
  refine bK ?_
  refine bK ?_
  refine bY hA ?_
  clear hA
  refine dV (lG rfl rfl) (bO rfl) rfl rfl ?_
  refine dV (AY rfl rfl rfl) (bO rfl) rfl rfl ?_
  refine bA ?_
  intro a hA
  refine jC hA rfl (fun hc=>?_) (fun hc=>?_)
  · exfalso;simp at hc;omega
  refine l8 ?_
  refine bK ?_
  refine bK ?_
  refine bY hA ?_
  clear hA
  refine dV (lG rfl rfl) (bO rfl) rfl rfl ?_
  refine dV (lG rfl rfl) (bO rfl) rfl rfl ?_
  refine dV (ZK Tryz.underlying43 rfl rfl) (bO rfl) rfl rfl ?_
  refine dV (lG rfl rfl) (bO rfl) rfl rfl ?_
  refine dV (l9 (aJF (α:=Raw) (S:=F0)) Tryz.underlying43 rfl rfl) (bO rfl) rfl rfl ?_
  refine dV (aEJ rfl rfl rfl) (bO rfl) rfl rfl ?_
  refine dV (aEJ rfl rfl rfl) (bO rfl) rfl rfl ?_
  refine dV (yG rfl rfl) (bO rfl) rfl rfl ?_
  refine bA ?_
  intro a hA
  refine bK ?_
  refine bY hA ?_
  clear hA
  refine dV (lG rfl rfl) (bO rfl) rfl rfl ?_
  refine dV (aEM rfl rfl rfl) (bO rfl) rfl rfl ?_
  refine bA ?_
  intro a hA
  refine jC hA rfl (fun hc=>?_) (fun hc=>?_)
  · have hn1:0 < n:=by
      have h2:decide (0 < aX (n - aX (0 - 0)))=true:=hc
      rw [hw] at h2;simpa using h2
    refine bY hA ?_
    clear hA
    refine dV (lG rfl rfl) (bO rfl) rfl rfl ?_
    refine dV (lG rfl rfl) (bO rfl) rfl rfl ?_
    refine dV (ZK Tryz.underlying43 rfl rfl) (bO rfl) rfl rfl ?_
    refine dV (aGL (s:=.slice none 0 0) ⟨_,_,_,rfl⟩ Tryz.underlying43 Tryz.sizeOf162 rfl rfl rfl) (bO rfl) rfl rfl ?_
    refine dV (lG rfl rfl) (bO rfl) rfl rfl ?_
    refine E4 (aND (i:=aX (n - aX (0 - 0))) hS Tryz.underlying43 Tryz.underlying3 cR rfl rfl (by rw [hw];omega) rfl rfl rfl) (bO rfl) rfl rfl ?_
    clear hS
    intro s w hS
    refine dV (lG rfl rfl) (bO rfl) rfl rfl ?_
    refine dV (l9 (aJF (α:=Raw) (S:=F0)) Tryz.underlying43 rfl rfl) (bO rfl) rfl rfl ?_
    refine dV (aGL (hS.aJZ 0 rfl) Tryz.underlying43 Tryz.sizeOf162 rfl rfl rfl) (bO rfl) rfl rfl ?_
    refine dV (yG rfl rfl) (bO rfl) rfl rfl ?_
    refine bA ?_
    intro a hA
    replace hS:=hS.aP0 (α:=Raw) 0 rfl rfl
    refine bK ?_
    refine bY hA ?_
    clear hA
    refine dV (lG rfl rfl) (bO rfl) rfl rfl ?_
    refine dV (yG rfl rfl) (bO rfl) rfl rfl ?_
    refine bA ?_
    intro a hA
    refine uV ?_
    exact aM1 Tryz.results337 hA (TS rfl) ⟨_,rfl,(hS.G6 [0] rfl).weaken (R':=[]) (fun _ h=>nomatch h)⟩
  · refine l8 ?_
    replace hS:=hS.aPU (α:=Raw)
    refine bK ?_
    refine bY hA ?_
    clear hA
    refine dV (lG rfl rfl) (bO rfl) rfl rfl ?_
    refine dV (yG rfl rfl) (bO rfl) rfl rfl ?_
    refine bA ?_
    intro a hA
    refine uV ?_
    exact aM1 Tryz.results337 hA (TS rfl) ⟨_,rfl,(hS.G6 [0] rfl).weaken (R':=[]) (fun _ h=>nomatch h)⟩
theorem JB{w0:World}{slices:List (List Raw)}{s1:Value}{r:(List Raw)}(h1:aM.rd (JE w0) w0 [s1] (slices:List (List Raw)))(hF:mB slices=some r) :
    Calls Tryz.prog 221 #[s1] w0 (Ret fun v w'=>∃(s0_0:Value),v=s0_0∧St (b7 w0) w' [eR [s0_0] (r:List Raw)] []):=by
 have hS:St (b7 w0) w0 [] [v7 [s1] (slices:List (List Raw))]:=St.enter (by
   intro f hf
   simp only [List.mem_cons,List.not_mem_nil,or_false] at hf
   subst hf;exact h1)
 refine vJ (args:=[_]) Tryz.func221 rfl Tryz.ntmps221 rfl ?_
 unfold mB at hF
 intro a hA
 refine bK<|bY hA ?_
 clear hA
 refine oa rfl rfl<|bA fun a hA=>bK<|bY hA ?_
 clear hA
 refine oa rfl rfl<|bA fun a hA=>bK<|bK<|bY hA ?_
 clear hA
 refine om rfl rfl<|oy (l9 (hS.rd 0 rfl) Tryz.underlying313 rfl rfl) rfl<|om rfl rfl<|bA fun a hA=>?_
 obtain⟨o1,hl1,hF⟩:=pM hF
 refine yH (J:=fun a' w'=>∃(x5:Int),o1=x5∧i7 36 [(0,s1),(3,.int .i64 (x5))] a'∧St (b7 w0) w' [] [v7 [s1] (slices:List (List Raw))]) ?_ ?_
 ·refine i9 ?_
  refine ED (body:=eB slices) (r:=o1) (fun sg a' w'=>i7 36 [(0,s1),(3,.int .i64 (sg.1)),(9,s1),(10,.int .i64 ((slices.length:Int))),(11,.int .i64 (sg.2))] a'∧St (b7 w0) w' [] [v7 [s1] (slices:List (List Raw))]) ?_ hl1 ⟨hA.part ⟨rfl,rfl,rfl,rfl,rfl,trivial⟩,((hS).G6 [] rfl).rK [0] rfl⟩
  clear hA hS hl1
  rintro⟨x3,x4⟩ a w q1 ⟨hA,hS⟩ hG1 hr1
  try dsimp only at hA hS
  unfold eB at hG1
  refine bK<|bY hA ?_
  clear hA
  refine oy (AY rfl rfl rfl) rfl<|bA fun a hA=>bK<|jC hA rfl (fun hc2=>?_) (fun hc2=>?_)
  ·replace hG1:=GD hc2 hG1
   refine l8<|bK<|i9<|bK<|bY hA ?_
   clear hA
   obtain⟨x12,hx12,hG1⟩:=pM hG1
   refine oy (JL (m:=1) (hS.rd 0 rfl) rfl hx12 Tryz.underlying313 Tryz.sizeOf43 rfl rfl rfl) rfl ?_
   obtain⟨s8,hel,hS⟩:=hS.aCJ 0 rfl (iC hx12).2.2
   refine oy (fX rfl rfl Tryz.isAgg43 (aJE hel)) rfl<|oa rfl rfl<|bA fun a hA=>bK<|bY hA ?_
   clear hA
   refine om rfl rfl<|om rfl rfl<|oy (l9 (hS.rd 1 rfl) Tryz.underlying43 rfl rfl) rfl<|oy (E5 rfl rfl rfl) rfl<|oa rfl rfl<|bA fun a hA=>bK<|bY hA ?_
   clear hA
   refine om rfl rfl<|oy (AY rfl rfl rfl) rfl<|bA fun a hA=>jC hA rfl (fun hc3=>?_) (fun hc3=>?_)
   ·replace hG1:=GD hc3 hG1
    refine bY hA ?_
    clear hA
    cases hG1
   ·replace hG1:=GF hc3 hG1
    refine l8<|bY hA ?_
    clear hA
    refine oy (E5 rfl rfl rfl) rfl<|om rfl rfl<|bA fun a hA=>?_
    cases hG1
    exact⟨_,rfl,⟨hA.part ⟨rfl,rfl,rfl,rfl,rfl,trivial⟩,((hS).G6 [] rfl).rK [0] rfl⟩⟩
  ·replace hG1:=GF hc2 hG1
   refine EC<|yF ?_
   cases hG1
   have ho:=hr1 _ rfl;subst ho
   exact⟨x3,rfl,hA.part ⟨rfl,rfl,trivial⟩,((hS).G6 [] rfl).rK [0] rfl⟩
 ·skip
  clear hA hS hl1
  rintro a w ⟨x5,heq,hA,hS⟩
  replace hF:jH slices x5=some r:=by rw [heq] at hF;exact hF
  clear heq
  unfold jH at hF
  refine bK<|bY hA ?_
  clear hA
  refine om rfl rfl ?_
  obtain⟨hn1,hF⟩:=iD hF
  refine RF (EG Tryz.call337 rfl rfl) (bO rfl) rfl rfl (GQ hn1) ?_
  rintro s2 w ⟨_,rfl,hk⟩
  replace hS:=hS.after hk;clear hk
  refine oa rfl rfl<|bA fun a hA=>bK<|bK<|bY hA ?_
  clear hA
  refine om rfl rfl<|oy (l9 (hS.rd 0 rfl) Tryz.underlying313 rfl rfl) rfl<|om rfl rfl<|bA fun a hA=>?_
  obtain⟨o2,hl2,hF⟩:=pM hF
  refine yH (J:=fun a' w'=>∃(x10:List Raw) (s5:Value),o2=x10∧i7 36 [(6,s5)] a'∧St (b7 w0) w' [eR [s5] (x10:List Raw)] []) ?_ ?_
  ·refine i9 ?_
   refine ED (body:=eU slices) (r:=o2) (fun sg a' w'=>∃(s4:Value),i7 36 [(6,s4),(25,s1),(26,.int .i64 ((slices.length:Int))),(27,.int .i64 (sg.2))] a'∧St (b7 w0) w' [eR [s4] (sg.1:List Raw)] [v7 [s1] (slices:List (List Raw))]) ?_ hl2 ⟨s2,hA.part ⟨rfl,rfl,rfl,rfl,trivial⟩,((hS).G6 [0] rfl).rK [0] rfl⟩
   clear hA hS hl2
   rintro⟨x8,x9⟩ a w q2 ⟨s4,hA,hS⟩ hG2 hr2
   try dsimp only at hA hS
   unfold eU at hG2
   refine bK<|bY hA ?_
   clear hA
   refine oy (AY rfl rfl rfl) rfl<|bA fun a hA=>bK<|jC hA rfl (fun hc1=>?_) (fun hc1=>?_)
   ·replace hG2:=GD hc1 hG2
    refine l8<|bK<|i9<|bK<|bY hA ?_
    clear hA
    obtain⟨x11,hx11,hG2⟩:=pM hG2
    refine oy (JL (m:=1) (hS.rd 0 rfl) rfl hx11 Tryz.underlying313 Tryz.sizeOf43 rfl rfl rfl) rfl ?_
    obtain⟨s6,hel,hS⟩:=hS.aCJ 0 rfl (iC hx11).2.2
    refine oy (fX rfl rfl Tryz.isAgg43 (aJE hel)) rfl<|oa rfl rfl<|bA fun a hA=>bY hA ?_
    clear hA
    refine om rfl rfl<|om rfl rfl ?_
    obtain⟨hn2,hG2⟩:=iD hG2
    refine E4 (ZH (α:=Raw) 0 hS rfl (hS.rd 1 rfl) rfl Tryz.underlying43 cR rfl hn2 rfl rfl rfl) (bO rfl) rfl rfl ?_
    clear hS
    rintro s7 w hS
    refine oa rfl rfl<|bA fun a hA=>bY hA ?_
    clear hA
    refine oy (E5 rfl rfl rfl) rfl<|om rfl rfl<|bA fun a hA=>?_
    cases hG2
    exact⟨_,rfl,⟨s7,hA.part ⟨rfl,rfl,rfl,rfl,trivial⟩,((hS).G6 [0] rfl).rK [0] rfl⟩⟩
   ·replace hG2:=GF hc1 hG2
    refine EC<|yF ?_
    cases hG2
    have ho:=hr2 _ rfl;subst ho
    exact⟨x8,s4,rfl,hA.part ⟨rfl,trivial⟩,((hS).G6 [0] rfl).rK [] rfl⟩
  ·skip
   clear hA hS hl2
   rintro a w ⟨x10,s5,heq,hA,hS⟩
   replace hF:nU x10=some r:=by rw [heq] at hF;exact hF
   clear heq
   unfold nU at hF
   refine bK<|bY hA ?_
   clear hA
   refine om rfl rfl<|oa rfl rfl<|bA fun a hA=>uV ?_
   cases hF
   exact aM1 Tryz.results221 hA (TS rfl) ⟨s5,rfl,(hS.G6 [0] rfl).weaken (R':=[]) (fun _ h=>nomatch h)⟩
theorem FM{w0:World}{n:Int}{low:Int}{high:Int}{r:Bool}(hF:b8 n low high=some r) :
    Calls Tryz.prog 107 #[.int .i64 (n),.int .i64 (low),.int .i64 (high)] w0 (Ret fun v w'=>v=.bool (r)∧St (b7 w0) w' [] []):=by
 have hS:St (b7 w0) w0 [] []:=St.enter (by
   intro f hf;cases hf)
 refine vJ (args:=[_,_,_]) Tryz.func107 rfl Tryz.ntmps107 rfl ?_
 unfold b8 at hF
 intro a hA
 refine bK<|bY hA ?_
 clear hA
 refine oa rfl rfl<|bA fun a hA=>bK<|yH (J:=fun a' w'=>∃(x1:Bool),mQ x1=some r∧i7 15 [(6,.bool (x1))] a'∧St (b7 w0) w' [] []) ?_ ?_
 ·skip
  refine bY hA ?_
  clear hA
  refine om rfl rfl<|om rfl rfl<|oy (aI7 rfl rfl rfl) rfl<|om rfl rfl<|CX (s:=10) rfl (fun hc1=>?_) (fun hc1=>?_)
  ·replace hF:=GD hc1 hF
   refine dV (lG rfl rfl) (bW rfl rfl rfl (by rw [hc1];rfl)) rfl rfl ?_
   refine dV (lG rfl rfl) (bW rfl rfl rfl (by rw [hc1];rfl)) rfl rfl ?_
   refine dV (aEL rfl rfl rfl) (bW rfl rfl rfl (by rw [hc1];rfl)) rfl rfl ?_
   refine oy (rJ rfl rfl hc1 rfl) rfl<|oa rfl rfl<|bA fun a hA=>?_
   exact⟨decide (n≤high),hF,hA.part ⟨rfl,trivial⟩,((hS).G6 [] rfl).rK [] rfl⟩
  ·replace hF:=GF hc1 hF
   refine d7 (bW rfl rfl rfl (by rw [hc1];rfl)) rfl rfl ?_
   refine d7 (bW rfl rfl rfl (by rw [hc1];rfl)) rfl rfl ?_
   refine d7 (bW rfl rfl rfl (by rw [hc1];rfl)) rfl rfl ?_
   refine oy (vI rfl rfl hc1 rfl) rfl<|oa rfl rfl<|bA fun a hA=>?_
   exact⟨false,hF,hA.part ⟨rfl,trivial⟩,((hS).G6 [] rfl).rK [] rfl⟩
 ·skip
  clear hA hS hF
  rintro a w ⟨x1,hF,hA,hS⟩
  unfold mQ at hF
  refine uV ?_
  cases hF
  exact fy Tryz.results107 hA rfl hS
theorem YI{w0:World}{slot:Int}{r:Bool}(hF:jO slot=some r) :
    Calls Tryz.prog 222 #[.int .i64 (slot)] w0 (Ret fun v w'=>v=.bool (r)∧St (b7 w0) w' [] []):=by
 have hS:St (b7 w0) w0 [] []:=St.enter (by
   intro f hf;cases hf)
 refine vJ (args:=[_]) Tryz.func222 rfl Tryz.ntmps222 rfl ?_
 unfold jO at hF
 intro a hA
 refine bK<|bY hA ?_
 clear hA
 refine oa rfl rfl<|bA fun a hA=>bK<|bY hA ?_
 clear hA
 refine om rfl rfl ?_
 obtain⟨x1,hx1,hF⟩:=pM hF
 refine RF (EG Tryz.call107 rfl rfl) (bO rfl) rfl rfl (FM (n:=slot) (low:=0) (high:=23) hx1) ?_
 rintro _ w ⟨rfl,hk⟩
 replace hS:=hS.after hk;clear hk
 refine oa rfl rfl<|bA fun a hA=>uV ?_
 cases hF
 exact fy Tryz.results222 hA rfl hS
theorem VY{w0:World}{l:aA}{s1:Value}{s2:Value}{r:Bool}(h1:aM.rd (JE w0) w0 [s1] (l.Global:List aD))(h2:aM.rd (JE w0) w0 [s2] (l.aR:List aD))(hF:hU l=some r) :
    Calls Tryz.prog 123 #[.agg #[s1,s2]] w0 (Ret fun v w'=>v=.bool (r)∧St (b7 w0) w' [] []):=by
 have hS:St (b7 w0) w0 [] [v7 [s1] (l.Global:List aD),v7 [s2] (l.aR:List aD)]:=St.enter (by
   intro f hf
   simp only [List.mem_cons,List.not_mem_nil,or_false] at hf
   rcases hf with rfl | rfl
   · exact h1
   · exact h2)
 refine vJ (args:=[_]) Tryz.func123 rfl Tryz.ntmps123 rfl ?_
 unfold hU at hF
 intro a hA
 refine bK<|bY hA ?_
 clear hA
 refine E4 (aPR (cs:=[s1,s2]) hS rfl rfl rfl) (bO rfl) rfl rfl ?_
 clear hS
 rintro _ w ⟨b1,rfl,hS⟩
 refine oa rfl rfl<|bA fun a hA=>bK<|bK<|yH (J:=fun a' w'=>∃(x1:Bool),oP l x1=some r∧i7 61 [(1,.pointer (some ⟨b1,0,none⟩)),(17,.bool (x1))] a'∧St (b7 w0) w' [yB b1 [s1,s2]] [v7 [s1] (l.Global:List aD),v7 [s2] (l.aR:List aD)]) ?_ ?_
 ·skip
  refine bY hA ?_
  clear hA
  refine oy (uW (m:=0) Tryz.underlying45 rfl rfl Tryz.sizeOf43 rfl rfl) rfl<|oy (fX rfl rfl Tryz.isAgg43 (hS.cell 0 rfl rfl)) rfl<|oy (l9 (hS.rd 0 rfl) Tryz.underlying43 rfl rfl) rfl<|oy (aAJ rfl rfl rfl) rfl<|om rfl rfl<|CX (s:=12) rfl (fun hc8=>?_) (fun hc8=>?_)
  ·replace hF:=GD hc8 hF
   refine d7 (bW rfl rfl rfl (by rw [hc8];rfl)) rfl rfl ?_
   refine d7 (bW rfl rfl rfl (by rw [hc8];rfl)) rfl rfl ?_
   refine d7 (bW rfl rfl rfl (by rw [hc8];rfl)) rfl rfl ?_
   refine d7 (bW rfl rfl rfl (by rw [hc8];rfl)) rfl rfl ?_
   refine oy (rJ rfl rfl hc8 rfl) rfl<|bA fun a hA=>?_
   exact⟨true,hF,hA.part ⟨rfl,rfl,trivial⟩,((hS).G6 [0] rfl).rK [0,1] rfl⟩
  ·replace hF:=GF hc8 hF
   refine dV (uW (m:=0) Tryz.underlying45 rfl rfl Tryz.sizeOf43 rfl rfl) (bW rfl rfl rfl (by rw [hc8];rfl)) rfl rfl ?_
   refine dV (fX rfl rfl Tryz.isAgg43 (hS.cell 0 rfl rfl)) (bW rfl rfl rfl (by rw [hc8];rfl)) rfl rfl ?_
   refine dV (l9 (hS.rd 1 rfl) Tryz.underlying43 rfl rfl) (bW rfl rfl rfl (by rw [hc8];rfl)) rfl rfl ?_
   refine dV (aAJ rfl rfl rfl) (bW rfl rfl rfl (by rw [hc8];rfl)) rfl rfl ?_
   refine oy (vI rfl rfl hc8 rfl) rfl<|bA fun a hA=>?_
   exact⟨(l.aR.length:Int) != 9,hF,hA.part ⟨rfl,rfl,trivial⟩,((hS).G6 [0] rfl).rK [0,1] rfl⟩
 ·skip
  clear hA hS hF
  rintro a w ⟨x1,hF,hA,hS⟩
  unfold oP at hF
  refine jC hA rfl (fun hc1=>?_) (fun hc1=>?_)
  ·replace hF:=GD hc1 hF
   refine bK<|bY hA ?_
   clear hA
   refine oa rfl rfl<|bA fun a hA=>uV ?_
   cases hF
   exact fy Tryz.results123 hA rfl hS
  ·replace hF:=GF hc1 hF
   refine l8<|bK<|bY hA ?_
   clear hA
   refine oy (QD (cells:=#[.bool (false),.bool (false),.bool (false),.bool (false),.bool (false),.bool (false),.bool (false),.bool (false),.bool (false),.bool (false),.bool (false),.bool (false),.bool (false),.bool (false),.bool (false),.bool (false),.bool (false),.bool (false),.bool (false),.bool (false),.bool (false),.bool (false),.bool (false),.bool (false)]) rfl Tryz.zeroValue238 Tryz.underlying238 Tryz.sizeOf4 rfl rfl) rfl<|E4 (GC (cs:=List.map (fun q:Bool=>Value.bool q) [false,false,false,false,false,false,false,false,false,false,false,false,false,false,false,false,false,false,false,false,false,false,false,false]) hS rfl Tryz.zeroValue238 rfl) (bO rfl) rfl rfl ?_
   clear hS
   rintro _ w ⟨b2,rfl,hS⟩
   refine JH (NO (vs:=[.bool (false),.bool (false),.bool (false),.bool (false),.bool (false),.bool (false),.bool (false),.bool (false),.bool (false),.bool (false),.bool (false),.bool (false),.bool (false),.bool (false),.bool (false),.bool (false),.bool (false),.bool (false),.bool (false),.bool (false),.bool (false),.bool (false),.bool (false),.bool (false)]) hS (i:=1) rfl rfl rfl rfl rfl Tryz.sizeOf238 rfl rfl rfl) (bO rfl) rfl ?_
   clear hS
   intro w hS
   refine bA fun a hA=>bK<|bK<|bY hA ?_
   clear hA
   refine oy (uW (m:=0) Tryz.underlying45 rfl rfl Tryz.sizeOf43 rfl rfl) rfl<|oy (fX rfl rfl Tryz.isAgg43 (hS.cell 0 rfl rfl)) rfl<|oy (uW (m:=0) Tryz.underlying45 rfl rfl Tryz.sizeOf43 rfl rfl) rfl<|oy (fX rfl rfl Tryz.isAgg43 (hS.cell 0 rfl rfl)) rfl<|E4 (aES hS (hS.rd 1 rfl) (hS.rd 0 rfl) Tryz.underlying313 aFA rfl rfl rfl) (bO rfl) rfl rfl ?_
   clear hS
   rintro s3 w hS
   obtain⟨hn1,hF⟩:=iD hF
   replace hS:=hS.aRM 2 rfl
   obtain⟨u1,u2,hu1,hl1,hS⟩:=hS.aNE rfl 2 1 0 rfl rfl rfl
   refine RF (EG Tryz.call221 rfl rfl) (bO rfl) rfl rfl (JB hu1 (GM hl1 hn1)) ?_
   rintro s4 w ⟨_,rfl,hk⟩
   replace hS:=hS.after hk;clear hk
   replace hS:=hS.aRM 3 rfl
   replace hS:=hS.aRS rfl 4 3 rfl rfl
   refine oy (l9 (hS.rd 5 rfl) Tryz.underlying43 rfl rfl) rfl<|om rfl rfl<|bA fun a hA=>?_
   obtain⟨o1,hl2,hF⟩:=pM hF
   refine yH (J:=fun a' w'=>o1=Out.brk ()∧i7 61 [] a'∧St (b7 w0) w' [] []) ?_ ?_
   ·refine i9 ?_
    refine ED (body:=i3 l) (r:=o1) (fun sg a' w'=>i7 61 [(1,.pointer (some ⟨b1,0,none⟩)),(3,.pointer (some ⟨b2,0,none⟩)),(24,s4),(25,.int .i64 (((l.aR++l.Global).length:Int))),(26,.int .i64 (sg.1))] a'∧St (b7 w0) w' [yB b1 [s1,s2],yB b2 (List.map (fun q:Bool=>Value.bool q) (sg.2:List Bool))] [v7 [s4] (l.aR++l.Global:List aD),v7 [s1] (l.Global:List aD),v7 [s2] (l.aR:List aD)]) ?_ hl2 ⟨hA.part ⟨rfl,rfl,rfl,rfl,rfl,trivial⟩,((hS).G6 [0,1] rfl).rK [5,0,1] rfl⟩
    clear hA hS hl2
    rintro⟨x4,x5⟩ a w q2 ⟨hA,hS⟩ hG2 hr2
    try dsimp only at hA hS
    unfold i3 at hG2
    refine bK<|bY hA ?_
    clear hA
    refine oy (AY rfl rfl rfl) rfl<|bA fun a hA=>bK<|jC hA rfl (fun hc2=>?_) (fun hc2=>?_)
    ·replace hG2:=GD hc2 hG2
     refine l8<|bK<|i9<|bK<|bY hA ?_
     clear hA
     refine om rfl rfl ?_
     obtain⟨x6,hx6,hG2⟩:=pM hG2
     refine oy (JL (m:=1) (hS.rd 0 rfl) rfl hx6 Tryz.underlying43 Tryz.sizeOf162 rfl rfl rfl) rfl ?_
     obtain⟨s5,hel,hS⟩:=hS.aLS 0 rfl (iC hx6).2.2
     refine oy (JJ rfl rfl Tryz.isAgg162 Tryz.sizeOf162 rfl hel) rfl<|E4 (GC (cs:=[(.slice none 0 0)]) hS rfl Tryz.zeroValue162 rfl) (bO rfl) rfl rfl ?_
     clear hS
     rintro _ w ⟨b3,rfl,hS⟩
     refine oa rfl rfl<|JH (NO (vs:=[s5]) hS (i:=2) rfl rfl rfl rfl rfl Tryz.sizeOf162 rfl rfl (aPV (UM (hS.rd 3 rfl)) rfl)) (bO rfl) rfl ?_
     clear hS
     intro w hS
     refine bA fun a hA=>bK<|bK<|yH (J:=fun a' w'=>∃(x7:Bool),iZ x4 x5 x6 x7=some q2∧i7 61 [(1,.pointer (some ⟨b1,0,none⟩)),(3,.pointer (some ⟨b2,0,none⟩)),(5,.pointer (some ⟨b3,0,none⟩)),(24,s4),(25,.int .i64 (((l.aR++l.Global).length:Int))),(26,.int .i64 (x4)),(41,.bool (x7))] a'∧St (b7 w0) w' [yB b1 [s1,s2],yB b2 (List.map (fun q:Bool=>Value.bool q) (x5:List Bool)),yB b3 [s5]] [v7 [s4] (l.aR++l.Global:List aD),v7 [s1] (l.Global:List aD),v7 [s2] (l.aR:List aD),v7 [s5] (x6.aO:List Int)]) ?_ ?_
     ·skip
      refine bY hA ?_
      clear hA
      refine om rfl rfl<|oy (uW (m:=0) Tryz.underlying45 rfl rfl Tryz.sizeOf43 rfl rfl) rfl<|oy (fX rfl rfl Tryz.isAgg43 (hS.cell 0 rfl rfl)) rfl<|oy (l9 (hS.rd 2 rfl) Tryz.underlying43 rfl rfl) rfl<|oy (AY rfl rfl rfl) rfl<|om rfl rfl<|CX (s:=36) rfl (fun hc7=>?_) (fun hc7=>?_)
      ·replace hG2:=GD hc7 hG2
       refine dV (uW (m:=0) Tryz.underlying162 rfl rfl Tryz.sizeOf22 rfl rfl) (bW rfl rfl rfl (by rw [hc7];rfl)) rfl rfl ?_
       refine dV (fX rfl rfl Tryz.isAgg22 (hS.cell 2 rfl rfl)) (bW rfl rfl rfl (by rw [hc7];rfl)) rfl rfl ?_
       refine dV (l9 (hS.rd 3 rfl) Tryz.underlying22 rfl rfl) (bW rfl rfl rfl (by rw [hc7];rfl)) rfl rfl ?_
       refine dV (aEM rfl rfl rfl) (bW rfl rfl rfl (by rw [hc7];rfl)) rfl rfl ?_
       refine oy (rJ rfl rfl hc7 rfl) rfl<|bA fun a hA=>?_
       exact⟨decide (2 < (x6.aO.length:Int)),hG2,hA.part ⟨rfl,rfl,rfl,rfl,rfl,rfl,rfl,trivial⟩,((hS).G6 [0,1,2] rfl).rK [0,1,2,3] rfl⟩
      ·replace hG2:=GF hc7 hG2
       refine d7 (bW rfl rfl rfl (by rw [hc7];rfl)) rfl rfl ?_
       refine d7 (bW rfl rfl rfl (by rw [hc7];rfl)) rfl rfl ?_
       refine d7 (bW rfl rfl rfl (by rw [hc7];rfl)) rfl rfl ?_
       refine d7 (bW rfl rfl rfl (by rw [hc7];rfl)) rfl rfl ?_
       refine oy (vI rfl rfl hc7 rfl) rfl<|bA fun a hA=>?_
       exact⟨false,hG2,hA.part ⟨rfl,rfl,rfl,rfl,rfl,rfl,rfl,trivial⟩,((hS).G6 [0,1,2] rfl).rK [0,1,2,3] rfl⟩
     ·skip
      clear hA hS hG2
      rintro a w ⟨x7,hG2,hA,hS⟩
      unfold iZ at hG2
      refine jC hA rfl (fun hc3=>?_) (fun hc3=>?_)
      ·replace hG2:=GD hc3 hG2
       refine bK<|bY hA ?_
       clear hA
       refine oa rfl rfl<|bA fun a hA=>uV ?_
       cases hG2
       have ho:=hr2 _ rfl;subst ho
       replace hF:some false=some r:=hF
       cases hF
       exact fy Tryz.results123 hA rfl hS
      ·replace hG2:=GF hc3 hG2
       refine l8<|bK<|bY hA ?_
       clear hA
       refine oy (uW (m:=0) Tryz.underlying162 rfl rfl Tryz.sizeOf22 rfl rfl) rfl<|oy (fX rfl rfl Tryz.isAgg22 (hS.cell 2 rfl rfl)) rfl<|oy (l9 (hS.rd 3 rfl) Tryz.underlying22 rfl rfl) rfl<|om rfl rfl<|bA fun a hA=>?_
       obtain⟨o2,hl3,hG2⟩:=pM hG2
       refine yH (J:=fun a' w'=>∃(x12:List Bool),o2=Out.brk x12∧i7 61 [(1,.pointer (some ⟨b1,0,none⟩)),(3,.pointer (some ⟨b2,0,none⟩)),(24,s4),(25,.int .i64 (((l.aR++l.Global).length:Int))),(26,.int .i64 (x4))] a'∧St (b7 w0) w' [yB b1 [s1,s2],yB b2 (List.map (fun q:Bool=>Value.bool q) (x12:List Bool))] [v7 [s4] (l.aR++l.Global:List aD),v7 [s1] (l.Global:List aD),v7 [s2] (l.aR:List aD)]) ?_ ?_
       ·refine i9 ?_
        refine ED (body:=iY x6) (r:=o2) (fun sg a' w'=>i7 61 [(1,.pointer (some ⟨b1,0,none⟩)),(3,.pointer (some ⟨b2,0,none⟩)),(24,s4),(25,.int .i64 (((l.aR++l.Global).length:Int))),(26,.int .i64 (x4)),(43,s5),(44,.int .i64 ((x6.aO.length:Int))),(45,.int .i64 (sg.1))] a'∧St (b7 w0) w' [yB b1 [s1,s2],yB b2 (List.map (fun q:Bool=>Value.bool q) (sg.2:List Bool))] [v7 [s4] (l.aR++l.Global:List aD),v7 [s5] (x6.aO:List Int),v7 [s1] (l.Global:List aD),v7 [s2] (l.aR:List aD)]) ?_ hl3 ⟨hA.part ⟨rfl,rfl,rfl,rfl,rfl,rfl,rfl,rfl,trivial⟩,((hS).G6 [0,1] rfl).rK [0,3,1,2] rfl⟩
        clear hA hS hl3
        rintro⟨x10,x11⟩ a w q4 ⟨hA,hS⟩ hG4 hr4
        try dsimp only at hA hS
        unfold iY at hG4
        refine bK<|bY hA ?_
        clear hA
        refine oy (AY rfl rfl rfl) rfl<|bA fun a hA=>bK<|jC hA rfl (fun hc4=>?_) (fun hc4=>?_)
        ·replace hG4:=GD hc4 hG4
         refine l8<|bK<|i9<|bK<|bY hA ?_
         clear hA
         obtain⟨x13,hx13,hG4⟩:=pM hG4
         refine oy (JL (m:=1) (hS.rd 1 rfl) rfl hx13 Tryz.underlying22 Tryz.sizeOf3 rfl rfl rfl) rfl<|oy (fX rfl rfl Tryz.isAgg3 (aJE (aPT (hS.rd 1 rfl) (iC hx13).2.2))) rfl<|oa rfl rfl<|bA fun a hA=>bK<|bK<|yH (J:=fun a' w'=>∃(x14:Bool),lA x10 x11 x13 x14=some q4∧i7 61 [(1,.pointer (some ⟨b1,0,none⟩)),(3,.pointer (some ⟨b2,0,none⟩)),(7,.int .i64 (x13)),(24,s4),(25,.int .i64 (((l.aR++l.Global).length:Int))),(26,.int .i64 (x4)),(43,s5),(44,.int .i64 ((x6.aO.length:Int))),(45,.int .i64 (x10)),(56,.bool (x14))] a'∧St (b7 w0) w' [yB b1 [s1,s2],yB b2 (List.map (fun q:Bool=>Value.bool q) (x11:List Bool))] [v7 [s4] (l.aR++l.Global:List aD),v7 [s5] (x6.aO:List Int),v7 [s1] (l.Global:List aD),v7 [s2] (l.aR:List aD)]) ?_ ?_
         ·skip
          refine bY hA ?_
          clear hA
          refine om rfl rfl ?_
          obtain⟨x16,hx16,hG4⟩:=pM hG4
          refine RF (EG Tryz.call222 rfl rfl) (bO rfl) rfl rfl (YI (slot:=x13) hx16) ?_
          rintro _ w ⟨rfl,hk⟩
          replace hS:=hS.after hk;clear hk
          refine oy (UF rfl rfl) rfl<|om rfl rfl<|CX (s:=52) rfl (fun hc6=>?_) (fun hc6=>?_)
          ·replace hG4:=GD hc6 hG4
           refine d7 (bW rfl rfl rfl (by rw [hc6];rfl)) rfl rfl ?_
           refine d7 (bW rfl rfl rfl (by rw [hc6];rfl)) rfl rfl ?_
           refine d7 (bW rfl rfl rfl (by rw [hc6];rfl)) rfl rfl ?_
           refine oy (rJ rfl rfl hc6 rfl) rfl<|bA fun a hA=>?_
           exact⟨true,hG4,hA.part ⟨rfl,rfl,rfl,rfl,rfl,rfl,rfl,rfl,rfl,rfl,trivial⟩,((hS).G6 [0,1] rfl).rK [0,1,2,3] rfl⟩
          ·replace hG4:=GF hc6 hG4
           refine dV (lG rfl rfl) (bW rfl rfl rfl (by rw [hc6];rfl)) rfl rfl ?_
           obtain⟨hn3,hG4⟩:=iD hG4
           refine dV (TW Tryz.underlying238 Tryz.sizeOf4 hn3 rfl rfl rfl) (bW rfl rfl rfl (by rw [hc6];rfl)) rfl rfl ?_
           obtain⟨x17,hx17,hG4⟩:=pM hG4
           refine dV (fX rfl rfl Tryz.isAgg4 (hS.aGK 1 rfl hx17)) (bW rfl rfl rfl (by rw [hc6];rfl)) rfl rfl ?_
           refine oy (vI rfl rfl hc6 rfl) rfl<|bA fun a hA=>?_
           exact⟨x17,hG4,hA.part ⟨rfl,rfl,rfl,rfl,rfl,rfl,rfl,rfl,rfl,rfl,trivial⟩,((hS).G6 [0,1] rfl).rK [0,1,2,3] rfl⟩
         ·skip
          clear hA hS hG4
          rintro a w ⟨x14,hG4,hA,hS⟩
          unfold lA at hG4
          refine jC hA rfl (fun hc5=>?_) (fun hc5=>?_)
          ·replace hG4:=GD hc5 hG4
           refine bK<|bY hA ?_
           clear hA
           refine oa rfl rfl<|bA fun a hA=>uV ?_
           cases hG4
           have ho:=hr4 _ rfl;subst ho
           replace hG2:some (.stop (Out.ret false))=some q2:=hG2
           cases hG2
           have ho:=hr2 _ rfl;subst ho
           replace hF:some false=some r:=hF
           cases hF
           exact fy Tryz.results123 hA rfl hS
          ·replace hG4:=GF hc5 hG4
           refine l8<|bY hA ?_
           clear hA
           refine om rfl rfl ?_
           obtain⟨hn2,hG4⟩:=iD hG4
           refine oy (TW Tryz.underlying238 Tryz.sizeOf4 hn2 rfl rfl rfl) rfl ?_
           obtain⟨x15,hx15,hG4⟩:=pM hG4
           refine JH (aJV (xd:=true) hS (m:=1) rfl hx15 Tryz.sizeOf4 rfl rfl rfl rfl rfl rfl) (bO rfl) rfl ?_
           clear hS
           intro w hS
           refine bA fun a hA=>bY hA ?_
           clear hA
           refine oy (E5 rfl rfl rfl) rfl<|om rfl rfl<|bA fun a hA=>?_
           cases hG4
           exact⟨_,rfl,⟨hA.part ⟨rfl,rfl,rfl,rfl,rfl,rfl,rfl,rfl,trivial⟩,((hS).G6 [0,1] rfl).rK [0,1,2,3] rfl⟩⟩
        ·replace hG4:=GF hc4 hG4
         refine EC<|yF ?_
         cases hG4
         have ho:=hr4 _ rfl;subst ho
         exact⟨x11,rfl,hA.part ⟨rfl,rfl,rfl,rfl,rfl,trivial⟩,((hS).G6 [0,1] rfl).rK [0,2,3] rfl⟩
       ·skip
        clear hA hS hl3
        rintro a w ⟨x12,heq,hA,hS⟩
        replace hG2:uA x4 x12=some q2:=by rw [heq] at hG2;exact hG2
        clear heq
        unfold uA at hG2
        refine bY hA ?_
        clear hA
        refine oy (E5 rfl rfl rfl) rfl<|om rfl rfl<|bA fun a hA=>?_
        cases hG2
        exact⟨_,rfl,⟨hA.part ⟨rfl,rfl,rfl,rfl,rfl,trivial⟩,((hS).G6 [0,1] rfl).rK [0,1,2] rfl⟩⟩
    ·replace hG2:=GF hc2 hG2
     refine EC<|yF ?_
     cases hG2
     have ho:=hr2 _ rfl;subst ho
     exact⟨rfl,hA.part trivial,((hS).G6 [] rfl).rK [] rfl⟩
   ·skip
    clear hA hS hl2
    rintro a w ⟨heq,hA,hS⟩
    replace hF:A4=some r:=by rw [heq] at hF;exact hF
    clear heq
    unfold A4 at hF
    refine bK<|bY hA ?_
    clear hA
    refine oa rfl rfl<|bA fun a hA=>uV ?_
    cases hF
    exact fy Tryz.results123 hA rfl hS
theorem SU{w0:World}{h:Int}{r:Bool}(hF:fW h=some r) :
    Calls Tryz.prog 295 #[.int .i64 (h)] w0 (Ret fun v w'=>v=.bool (r)∧St (b7 w0) w' [] []):=by
 have hS:St (b7 w0) w0 [] []:=St.enter (by
   intro f hf;cases hf)
 refine vJ (args:=[_]) Tryz.func295 rfl Tryz.ntmps295 rfl ?_
 unfold fW at hF
 intro a hA
 refine bK<|bY hA ?_
 clear hA
 refine oa rfl rfl<|bA fun a hA=>bK<|yH (J:=fun a' w'=>∃(x1:Bool),jW x1=some r∧i7 10 [(2,.bool (x1))] a'∧St (b7 w0) w' [] []) ?_ ?_
 ·skip
  refine bY hA ?_
  clear hA
  refine om rfl rfl ?_
  obtain⟨x2,hx2,hF⟩:=pM hF
  refine RF (EG Tryz.call107 rfl rfl) (bO rfl) rfl rfl (FM (n:=h) (low:=32) (high:=223) hx2) ?_
  rintro _ w ⟨rfl,hk⟩
  replace hS:=hS.after hk;clear hk
  refine om rfl rfl<|CX (s:=5) rfl (fun hc1=>?_) (fun hc1=>?_)
  ·replace hF:=GD hc1 hF
   refine dV (lG rfl rfl) (bW rfl rfl rfl (by rw [hc1];rfl)) rfl rfl ?_
   refine dV (QB rfl rfl rfl (by decide)) (bW rfl rfl rfl (by rw [hc1];rfl)) rfl rfl ?_
   refine dV (AY rfl rfl rfl) (bW rfl rfl rfl (by rw [hc1];rfl)) rfl rfl ?_
   refine oy (rJ rfl rfl hc1 rfl) rfl<|oa rfl rfl<|bA fun a hA=>?_
   exact⟨decide ((Int.tmod h 32) < 24),hF,hA.part ⟨rfl,trivial⟩,((hS).G6 [] rfl).rK [] rfl⟩
  ·replace hF:=GF hc1 hF
   refine d7 (bW rfl rfl rfl (by rw [hc1];rfl)) rfl rfl ?_
   refine d7 (bW rfl rfl rfl (by rw [hc1];rfl)) rfl rfl ?_
   refine d7 (bW rfl rfl rfl (by rw [hc1];rfl)) rfl rfl ?_
   refine oy (vI rfl rfl hc1 rfl) rfl<|oa rfl rfl<|bA fun a hA=>?_
   exact⟨false,hF,hA.part ⟨rfl,trivial⟩,((hS).G6 [] rfl).rK [] rfl⟩
 ·skip
  clear hA hS hF
  rintro a w ⟨x1,hF,hA,hS⟩
  unfold jW at hF
  refine uV ?_
  cases hF
  exact fy Tryz.results295 hA rfl hS
theorem QV{w0:World}{l:List aK}{s1:Value}{r:Int}(h1:aM.rd (JE w0) w0 [s1] (l:List aK))(hF:qS l=some r) :
    Calls Tryz.prog 35 #[s1] w0 (Ret fun v w'=>v=.int .i64 (r)∧St (b7 w0) w' [] []):=by
 have hS:St (b7 w0) w0 [] [v7 [s1] (l:List aK)]:=St.enter (by
   intro f hf
   simp only [List.mem_cons,List.not_mem_nil,or_false] at hf
   subst hf;exact h1)
 refine vJ (args:=[_]) Tryz.func35 rfl Tryz.ntmps35 rfl ?_
 unfold qS at hF
 intro a hA
 refine bK<|bY hA ?_
 clear hA
 refine oa rfl rfl<|bA fun a hA=>bK<|bY hA ?_
 clear hA
 refine oa rfl rfl<|bA fun a hA=>bK<|bK<|bY hA ?_
 clear hA
 refine om rfl rfl<|oy (l9 (hS.rd 0 rfl) Tryz.underlying51 rfl rfl) rfl<|om rfl rfl<|bA fun a hA=>?_
 obtain⟨o1,hl1,hF⟩:=pM hF
 refine yH (J:=fun a' w'=>∃(x5:Int),o1=x5∧i7 19 [(3,.int .i64 (x5))] a'∧St (b7 w0) w' [] []) ?_ ?_
 ·refine i9 ?_
  refine ED (body:=f8 l) (r:=o1) (fun sg a' w'=>i7 19 [(3,.int .i64 (sg.1)),(6,s1),(7,.int .i64 ((l.length:Int))),(8,.int .i64 (sg.2))] a'∧St (b7 w0) w' [] [v7 [s1] (l:List aK)]) ?_ hl1 ⟨hA.part ⟨rfl,rfl,rfl,rfl,trivial⟩,((hS).G6 [] rfl).rK [0] rfl⟩
  clear hA hS hl1
  rintro⟨x3,x4⟩ a w q1 ⟨hA,hS⟩ hG1 hr1
  try dsimp only at hA hS
  unfold f8 at hG1
  refine bK<|bY hA ?_
  clear hA
  refine oy (AY rfl rfl rfl) rfl<|bA fun a hA=>bK<|jC hA rfl (fun hc1=>?_) (fun hc1=>?_)
  ·replace hG1:=GD hc1 hG1
   refine l8<|bK<|i9<|bK<|bY hA ?_
   clear hA
   obtain⟨x6,hx6,hG1⟩:=pM hG1
   refine oy (JL (m:=1) (hS.rd 0 rfl) rfl hx6 Tryz.underlying51 Tryz.sizeOf103 rfl rfl rfl) rfl ?_
   obtain⟨s2,hel,hS⟩:=hS.aDC 0 rfl (iC hx6).2.2
   refine oy (JJ rfl rfl Tryz.isAgg103 Tryz.sizeOf103 rfl hel) rfl<|E4 (GC (cs:=[(.slice none 0 0)]) hS rfl Tryz.zeroValue103 rfl) (bO rfl) rfl rfl ?_
   clear hS
   rintro _ w ⟨b1,rfl,hS⟩
   refine JH (NO (vs:=[s2]) hS (i:=0) rfl rfl rfl rfl rfl Tryz.sizeOf103 rfl rfl (aPV (UM (hS.rd 1 rfl)) rfl)) (bO rfl) rfl ?_
   clear hS
   intro w hS
   refine bA fun a hA=>bY hA ?_
   clear hA
   refine om rfl rfl<|oy (uW (m:=0) Tryz.underlying103 rfl rfl Tryz.sizeOf101 rfl rfl) rfl<|oy (fX rfl rfl Tryz.isAgg101 (hS.cell 0 rfl rfl)) rfl<|oy (l9 (hS.rd 1 rfl) Tryz.underlying101 rfl rfl) rfl<|oy (E5 rfl rfl rfl) rfl<|oa rfl rfl<|bA fun a hA=>bY hA ?_
   clear hA
   refine oy (E5 rfl rfl rfl) rfl<|om rfl rfl<|bA fun a hA=>?_
   cases hG1
   exact⟨_,rfl,⟨hA.part ⟨rfl,rfl,rfl,rfl,trivial⟩,((hS).G6 [] rfl).rK [0] rfl⟩⟩
  ·replace hG1:=GF hc1 hG1
   refine EC<|yF ?_
   cases hG1
   have ho:=hr1 _ rfl;subst ho
   exact⟨x3,rfl,hA.part ⟨rfl,trivial⟩,((hS).G6 [] rfl).rK [] rfl⟩
 ·skip
  clear hA hS hl1
  rintro a w ⟨x5,heq,hA,hS⟩
  replace hF:wT x5=some r:=by rw [heq] at hF;exact hF
  clear heq
  unfold wT at hF
  refine bK<|bY hA ?_
  clear hA
  refine om rfl rfl<|oa rfl rfl<|bA fun a hA=>uV ?_
  cases hF
  exact fy Tryz.results35 hA rfl hS
theorem VZ{w0:World}{l:List aK}{s1:Value}{r:Bool}(h1:aM.rd (JE w0) w0 [s1] (l:List aK))(hF:jI l=some r) :
    Calls Tryz.prog 212 #[s1] w0 (Ret fun v w'=>v=.bool (r)∧St (b7 w0) w' [] []):=by
 have hS:St (b7 w0) w0 [] [v7 [s1] (l:List aK)]:=St.enter (by
   intro f hf
   simp only [List.mem_cons,List.not_mem_nil,or_false] at hf
   subst hf;exact h1)
 refine vJ (args:=[_]) Tryz.func212 rfl Tryz.ntmps212 rfl ?_
 unfold jI at hF
 intro a hA
 refine bK<|bY hA ?_
 clear hA
 refine oa rfl rfl<|bA fun a hA=>bK<|bK<|bY hA ?_
 clear hA
 refine om rfl rfl<|oy (l9 (hS.rd 0 rfl) Tryz.underlying51 rfl rfl) rfl<|oy (aAJ rfl rfl rfl) rfl<|bA fun a hA=>jC hA rfl (fun hc1=>?_) (fun hc1=>?_)
 ·replace hF:=GD hc1 hF
  refine bK<|bY hA ?_
  clear hA
  refine oa rfl rfl<|bA fun a hA=>uV ?_
  cases hF
  exact fy Tryz.results212 hA rfl hS
 ·replace hF:=GF hc1 hF
  refine l8<|bK<|bY hA ?_
  clear hA
  refine oy (QD (cells:=#[.bool (false),.bool (false),.bool (false),.bool (false),.bool (false),.bool (false),.bool (false),.bool (false),.bool (false),.bool (false),.bool (false),.bool (false),.bool (false),.bool (false),.bool (false),.bool (false),.bool (false),.bool (false),.bool (false),.bool (false),.bool (false),.bool (false),.bool (false),.bool (false)]) rfl Tryz.zeroValue238 Tryz.underlying238 Tryz.sizeOf4 rfl rfl) rfl<|E4 (GC (cs:=List.map (fun q:Bool=>Value.bool q) [false,false,false,false,false,false,false,false,false,false,false,false,false,false,false,false,false,false,false,false,false,false,false,false]) hS rfl Tryz.zeroValue238 rfl) (bO rfl) rfl rfl ?_
  clear hS
  rintro _ w ⟨b1,rfl,hS⟩
  refine JH (NO (vs:=[.bool (false),.bool (false),.bool (false),.bool (false),.bool (false),.bool (false),.bool (false),.bool (false),.bool (false),.bool (false),.bool (false),.bool (false),.bool (false),.bool (false),.bool (false),.bool (false),.bool (false),.bool (false),.bool (false),.bool (false),.bool (false),.bool (false),.bool (false),.bool (false)]) hS (i:=0) rfl rfl rfl rfl rfl Tryz.sizeOf238 rfl rfl rfl) (bO rfl) rfl ?_
  clear hS
  intro w hS
  refine bA fun a hA=>bK<|bK<|bY hA ?_
  clear hA
  refine om rfl rfl<|oy (l9 (hS.rd 0 rfl) Tryz.underlying51 rfl rfl) rfl<|om rfl rfl<|bA fun a hA=>?_
  obtain⟨o1,hl1,hF⟩:=pM hF
  refine yH (J:=fun a' w'=>o1=Out.brk ()∧i7 51 [(0,s1)] a'∧St (b7 w0) w' [] [v7 [s1] (l:List aK)]) ?_ ?_
  ·refine i9 ?_
   refine ED (body:=i5 l) (r:=o1) (fun sg a' w'=>i7 51 [(0,s1),(3,.pointer (some ⟨b1,0,none⟩)),(12,s1),(13,.int .i64 ((l.length:Int))),(14,.int .i64 (sg.1))] a'∧St (b7 w0) w' [yB b1 (List.map (fun q:Bool=>Value.bool q) (sg.2:List Bool))] [v7 [s1] (l:List aK)]) ?_ hl1 ⟨hA.part ⟨rfl,rfl,rfl,rfl,rfl,trivial⟩,((hS).G6 [0] rfl).rK [0] rfl⟩
   clear hA hS hl1
   rintro⟨x3,x4⟩ a w q1 ⟨hA,hS⟩ hG1 hr1
   try dsimp only at hA hS
   unfold i5 at hG1
   refine bK<|bY hA ?_
   clear hA
   refine oy (AY rfl rfl rfl) rfl<|bA fun a hA=>bK<|jC hA rfl (fun hc2=>?_) (fun hc2=>?_)
   ·replace hG1:=GD hc2 hG1
    refine l8<|bK<|i9<|bK<|bY hA ?_
    clear hA
    obtain⟨x6,hx6,hG1⟩:=pM hG1
    refine oy (JL (m:=1) (hS.rd 0 rfl) rfl hx6 Tryz.underlying51 Tryz.sizeOf103 rfl rfl rfl) rfl ?_
    obtain⟨s2,hel,hS⟩:=hS.aDC 0 rfl (iC hx6).2.2
    refine oy (JJ rfl rfl Tryz.isAgg103 Tryz.sizeOf103 rfl hel) rfl<|E4 (GC (cs:=[(.slice none 0 0)]) hS rfl Tryz.zeroValue103 rfl) (bO rfl) rfl rfl ?_
    clear hS
    rintro _ w ⟨b2,rfl,hS⟩
    refine JH (NO (vs:=[s2]) hS (i:=1) rfl rfl rfl rfl rfl Tryz.sizeOf103 rfl rfl (aPV (UM (hS.rd 1 rfl)) rfl)) (bO rfl) rfl ?_
    clear hS
    intro w hS
    refine bA fun a hA=>bK<|bY hA ?_
    clear hA
    refine oy (uW (m:=0) Tryz.underlying103 rfl rfl Tryz.sizeOf101 rfl rfl) rfl<|oy (fX rfl rfl Tryz.isAgg101 (hS.cell 1 rfl rfl)) rfl<|oy (l9 (hS.rd 1 rfl) Tryz.underlying101 rfl rfl) rfl<|om rfl rfl<|bA fun a hA=>?_
    obtain⟨o2,hl2,hG1⟩:=pM hG1
    refine yH (J:=fun a' w'=>∃(x11:List Bool),o2=Out.brk x11∧i7 51 [(0,s1),(3,.pointer (some ⟨b1,0,none⟩)),(12,s1),(13,.int .i64 ((l.length:Int))),(14,.int .i64 (x3))] a'∧St (b7 w0) w' [yB b1 (List.map (fun q:Bool=>Value.bool q) (x11:List Bool))] [v7 [s1] (l:List aK)]) ?_ ?_
    ·refine i9 ?_
     refine ED (body:=i4 x6) (r:=o2) (fun sg a' w'=>i7 51 [(0,s1),(3,.pointer (some ⟨b1,0,none⟩)),(12,s1),(13,.int .i64 ((l.length:Int))),(14,.int .i64 (x3)),(19,s2),(20,.int .i64 ((x6.Rows.length:Int))),(21,.int .i64 (sg.1))] a'∧St (b7 w0) w' [yB b1 (List.map (fun q:Bool=>Value.bool q) (sg.2:List Bool))] [v7 [s1] (l:List aK),v7 [s2] (x6.Rows:List bM)]) ?_ hl2 ⟨hA.part ⟨rfl,rfl,rfl,rfl,rfl,rfl,rfl,rfl,trivial⟩,((hS).G6 [0] rfl).rK [0,1] rfl⟩
     clear hA hS hl2
     rintro⟨x9,x10⟩ a w q2 ⟨hA,hS⟩ hG2 hr2
     try dsimp only at hA hS
     unfold i4 at hG2
     refine bK<|bY hA ?_
     clear hA
     refine oy (AY rfl rfl rfl) rfl<|bA fun a hA=>bK<|jC hA rfl (fun hc3=>?_) (fun hc3=>?_)
     ·replace hG2:=GD hc3 hG2
      refine l8<|bK<|i9<|bK<|bY hA ?_
      clear hA
      obtain⟨x12,hx12,hG2⟩:=pM hG2
      refine oy (JL (m:=2) (hS.rd 1 rfl) rfl hx12 Tryz.underlying101 Tryz.sizeOf105 rfl rfl rfl) rfl<|oy (JJ rfl rfl Tryz.isAgg105 Tryz.sizeOf105 rfl (aOB (hS.rd 1 rfl) (iC hx12).2.2)) rfl<|E4 (GC (cs:=[.int .i64 (0),.int .i64 (0)]) hS rfl Tryz.zeroValue105 rfl) (bO rfl) rfl rfl ?_
      clear hS
      rintro _ w ⟨b3,rfl,hS⟩
      refine JH (NO (vs:=[.int .i64 (x12.Handle),.int .i64 (x12.aE)]) hS (i:=1) rfl rfl rfl rfl rfl Tryz.sizeOf105 rfl rfl rfl) (bO rfl) rfl ?_
      clear hS
      intro w hS
      refine bA fun a hA=>bK<|bK<|yH (J:=fun a' w'=>∃(x13:Bool),gK x9 x10 x12 x13=some q2∧i7 51 [(0,s1),(3,.pointer (some ⟨b1,0,none⟩)),(7,.pointer (some ⟨b3,0,none⟩)),(12,s1),(13,.int .i64 ((l.length:Int))),(14,.int .i64 (x3)),(19,s2),(20,.int .i64 ((x6.Rows.length:Int))),(21,.int .i64 (x9)),(41,.bool (x13))] a'∧St (b7 w0) w' [yB b1 (List.map (fun q:Bool=>Value.bool q) (x10:List Bool)),yB b3 [.int .i64 (x12.Handle),.int .i64 (x12.aE)]] [v7 [s1] (l:List aK),v7 [s2] (x6.Rows:List bM)]) ?_ ?_
      ·skip
       refine bY hA ?_
       clear hA
       refine oy (uW (m:=0) Tryz.underlying105 rfl rfl Tryz.sizeOf3 rfl rfl) rfl<|oy (fX rfl rfl Tryz.isAgg3 (hS.cell 1 rfl rfl)) rfl ?_
       obtain⟨x15,hx15,hG2⟩:=pM hG2
       refine RF (EG Tryz.call295 rfl rfl) (bO rfl) rfl rfl (SU (h:=x12.Handle) hx15) ?_
       rintro _ w ⟨rfl,hk⟩
       replace hS:=hS.after hk;clear hk
       refine oy (UF rfl rfl) rfl<|om rfl rfl<|CX (s:=29) rfl (fun hc5=>?_) (fun hc5=>?_)
       ·replace hG2:=GD hc5 hG2
        refine d7 (bW rfl rfl rfl (by rw [hc5];rfl)) rfl rfl ?_
        refine d7 (bW rfl rfl rfl (by rw [hc5];rfl)) rfl rfl ?_
        refine d7 (bW rfl rfl rfl (by rw [hc5];rfl)) rfl rfl ?_
        refine d7 (bW rfl rfl rfl (by rw [hc5];rfl)) rfl rfl ?_
        refine oy (rJ rfl rfl hc5 rfl) rfl<|om rfl rfl<|d7 (bW rfl rfl rfl rfl) rfl rfl<|d7 (bW rfl rfl rfl rfl) rfl rfl<|d7 (bW rfl rfl rfl rfl) rfl rfl<|d7 (bW rfl rfl rfl rfl) rfl rfl<|d7 (bW rfl rfl rfl rfl) rfl rfl<|oy (rJ rfl rfl rfl rfl) rfl<|bA fun a hA=>?_
        exact⟨true,hG2,hA.part ⟨rfl,rfl,rfl,rfl,rfl,rfl,rfl,rfl,rfl,rfl,trivial⟩,((hS).G6 [0,1] rfl).rK [0,1] rfl⟩
       ·replace hG2:=GF hc5 hG2
        refine dV (uW (m:=0) Tryz.underlying105 rfl rfl Tryz.sizeOf3 rfl rfl) (bW rfl rfl rfl (by rw [hc5];rfl)) rfl rfl ?_
        refine dV (fX rfl rfl Tryz.isAgg3 (hS.cell 1 rfl rfl)) (bW rfl rfl rfl (by rw [hc5];rfl)) rfl rfl ?_
        obtain⟨x16,hx16,hG2⟩:=pM hG2
        refine RF (EG Tryz.call107 rfl rfl) (bW rfl rfl rfl (by rw [hc5];rfl)) rfl rfl (FM (n:=x12.aE) (low:=0) (high:=100000) hx16) ?_
        rintro _ w ⟨rfl,hk⟩
        replace hS:=hS.after hk;clear hk
        refine dV (UF rfl rfl) (bW rfl rfl rfl (by rw [hc5];rfl)) rfl rfl ?_
        refine oy (vI rfl rfl hc5 rfl) rfl<|om rfl rfl<|CX (s:=35) rfl (fun hc6=>?_) (fun hc6=>?_)
        ·replace hG2:=GD hc6 hG2
         refine d7 (bW rfl rfl rfl (by rw [hc6];rfl)) rfl rfl ?_
         refine d7 (bW rfl rfl rfl (by rw [hc6];rfl)) rfl rfl ?_
         refine d7 (bW rfl rfl rfl (by rw [hc6];rfl)) rfl rfl ?_
         refine d7 (bW rfl rfl rfl (by rw [hc6];rfl)) rfl rfl ?_
         refine d7 (bW rfl rfl rfl (by rw [hc6];rfl)) rfl rfl ?_
         refine oy (rJ rfl rfl hc6 rfl) rfl<|bA fun a hA=>?_
         exact⟨true,hG2,hA.part ⟨rfl,rfl,rfl,rfl,rfl,rfl,rfl,rfl,rfl,rfl,trivial⟩,((hS).G6 [0,1] rfl).rK [0,1] rfl⟩
        ·replace hG2:=GF hc6 hG2
         refine dV (uW (m:=0) Tryz.underlying105 rfl rfl Tryz.sizeOf3 rfl rfl) (bW rfl rfl rfl (by rw [hc6];rfl)) rfl rfl ?_
         refine dV (fX rfl rfl Tryz.isAgg3 (hS.cell 1 rfl rfl)) (bW rfl rfl rfl (by rw [hc6];rfl)) rfl rfl ?_
         refine dV (QB rfl rfl rfl (by decide)) (bW rfl rfl rfl (by rw [hc6];rfl)) rfl rfl ?_
         obtain⟨hn2,hG2⟩:=iD hG2
         refine dV (TW Tryz.underlying238 Tryz.sizeOf4 hn2 rfl rfl rfl) (bW rfl rfl rfl (by rw [hc6];rfl)) rfl rfl ?_
         obtain⟨x17,hx17,hG2⟩:=pM hG2
         refine dV (fX rfl rfl Tryz.isAgg4 (hS.aGK 0 rfl hx17)) (bW rfl rfl rfl (by rw [hc6];rfl)) rfl rfl ?_
         refine oy (vI rfl rfl hc6 rfl) rfl<|bA fun a hA=>?_
         exact⟨x17,hG2,hA.part ⟨rfl,rfl,rfl,rfl,rfl,rfl,rfl,rfl,rfl,rfl,trivial⟩,((hS).G6 [0,1] rfl).rK [0,1] rfl⟩
      ·skip
       clear hA hS hG2
       rintro a w ⟨x13,hG2,hA,hS⟩
       unfold gK at hG2
       refine jC hA rfl (fun hc4=>?_) (fun hc4=>?_)
       ·replace hG2:=GD hc4 hG2
        refine bK<|bY hA ?_
        clear hA
        refine oa rfl rfl<|bA fun a hA=>uV ?_
        cases hG2
        have ho:=hr2 _ rfl;subst ho
        replace hG1:some (.stop (Out.ret false))=some q1:=hG1
        cases hG1
        have ho:=hr1 _ rfl;subst ho
        replace hF:some false=some r:=hF
        cases hF
        exact fy Tryz.results212 hA rfl hS
       ·replace hG2:=GF hc4 hG2
        refine l8<|bY hA ?_
        clear hA
        refine oy (uW (m:=0) Tryz.underlying105 rfl rfl Tryz.sizeOf3 rfl rfl) rfl<|oy (fX rfl rfl Tryz.isAgg3 (hS.cell 1 rfl rfl)) rfl<|oy (QB rfl rfl rfl (by decide)) rfl ?_
        obtain⟨hn1,hG2⟩:=iD hG2
        refine oy (TW Tryz.underlying238 Tryz.sizeOf4 hn1 rfl rfl rfl) rfl ?_
        obtain⟨x14,hx14,hG2⟩:=pM hG2
        refine JH (aJV (xd:=true) hS (m:=0) rfl hx14 Tryz.sizeOf4 rfl rfl rfl rfl rfl rfl) (bO rfl) rfl ?_
        clear hS
        intro w hS
        refine bA fun a hA=>bY hA ?_
        clear hA
        refine oy (E5 rfl rfl rfl) rfl<|om rfl rfl<|bA fun a hA=>?_
        cases hG2
        exact⟨_,rfl,⟨hA.part ⟨rfl,rfl,rfl,rfl,rfl,rfl,rfl,rfl,trivial⟩,((hS).G6 [0] rfl).rK [0,1] rfl⟩⟩
     ·replace hG2:=GF hc3 hG2
      refine EC<|yF ?_
      cases hG2
      have ho:=hr2 _ rfl;subst ho
      exact⟨x10,rfl,hA.part ⟨rfl,rfl,rfl,rfl,rfl,trivial⟩,((hS).G6 [0] rfl).rK [0] rfl⟩
    ·skip
     clear hA hS hl2
     rintro a w ⟨x11,heq,hA,hS⟩
     replace hG1:uE x3 x11=some q1:=by rw [heq] at hG1;exact hG1
     clear heq
     unfold uE at hG1
     refine bY hA ?_
     clear hA
     refine oy (E5 rfl rfl rfl) rfl<|om rfl rfl<|bA fun a hA=>?_
     cases hG1
     exact⟨_,rfl,⟨hA.part ⟨rfl,rfl,rfl,rfl,rfl,trivial⟩,((hS).G6 [0] rfl).rK [0] rfl⟩⟩
   ·replace hG1:=GF hc2 hG1
    refine EC<|yF ?_
    cases hG1
    have ho:=hr1 _ rfl;subst ho
    exact⟨rfl,hA.part ⟨rfl,trivial⟩,((hS).G6 [] rfl).rK [0] rfl⟩
  ·skip
   clear hA hS hl1
   rintro a w ⟨heq,hA,hS⟩
   replace hF:uD l=some r:=by rw [heq] at hF;exact hF
   clear heq
   unfold uD at hF
   refine bK<|bY hA ?_
   clear hA
   refine om rfl rfl ?_
   obtain⟨x5,hx5,hF⟩:=pM hF
   refine RF (EG Tryz.call35 rfl rfl) (bO rfl) rfl rfl (QV (l:=l) (hS.rd 0 rfl) hx5) ?_
   rintro _ w ⟨rfl,hk⟩
   replace hS:=hS.after hk;clear hk
   refine oy (aEL rfl rfl rfl) rfl<|oa rfl rfl<|bA fun a hA=>uV ?_
   cases hF
   exact fy Tryz.results212 hA rfl hS
end Go.Proofs.YtbdmodalljibjaaGreat
end
