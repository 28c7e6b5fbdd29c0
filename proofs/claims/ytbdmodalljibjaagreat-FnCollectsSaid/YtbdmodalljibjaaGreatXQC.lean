import Derived.Test.YtbdmodalljibjaaGreatXQB
import Derived.Test.YtbdmodalljibjaaGreatProg
set_option linter.unusedVariables false
set_option linter.unusedSimpArgs false
set_option linter.unusedSectionVars false
set_option linter.constructorNameAsVariable false
set_option linter.unnecessarySimpa false
noncomputable section
namespace Go.Gv
universe u
theorem Q{α:Sort u}{a:α}:a=a:=Eq.refl a
def W{ρ:Type}(C:Prop)(r:ρ)(F:Option ρ):Prop:=F=some r→C
theorem wm{ρ:Type}{C:Prop}{r:ρ}{F F':Option ρ}(h:F'=F)(k:W C r F):W C r F':=h ▸ k
theorem wi{ρ:Type}{C:Prop}{r:ρ}{F:Option ρ}(h:F=some r)(k:W C r F):C:=k h
def VS(P:Program)(c:Ctx)(f:FuncId){ρ ex:Type}(F:Option ρ)(xs:List SV)(B0:Bl)(L0:List Ch)(sv:ρ→ex→SV)(Lf:ρ→ex→List Ch):Prop:=∀r,F=some r→FnS P f c xs B0 L0 sv Lf r
abbrev V0(P:Program)(c:Ctx)(f:FuncId){ρ:Type}(F:Option ρ)(xs:List SV)(sv:ρ→SV):Prop:=VS P c f F xs [] [] (fun r (_:Unit)=>sv r) (fun _ _=>[])
theorem VS.r{P:Program}{c:Ctx}{f:FuncId}{ρ ex:Type}{F:Option ρ}{xs:List SV}{B0:Bl}{L0:List Ch}{sv:ρ→ex→SV}{Lf:ρ→ex→List Ch}(h:VS P c f F xs B0 L0 sv Lf){r:ρ}(hF:F=some r):FnS P f c xs B0 L0 sv Lf r:=h r hF
def QR(P:Program)(fn:Func){rs:List ResultVar}(_:fn.results=rs.toArray)(c:Ctx)(B0:Bl){ρ ex:Type}(sv:ρ→ex→SV)(Lf:ρ→ex→List Ch)(r:ρ):Act→World→Prop:=QS P fn c B0 sv Lf r
def aHW(T:TT)(rs:List ResultVar)(is:List Nat)(b0:Nat)(L2:List Ch):Stop→Option (SV×List Ch)
  | .ret m e L => match XQ T e L rs with
    | some x => match AP b0 (nbS x) with
      | true => match KE b0 m e L is b0 [] L2 with
        | some ([],L3)=>some (nbS x,L3)
        | _=>none
      | false=>none
    | none=>none
  | _=>none
def aD9(is:List Nat)(b0 mj:Nat)(ej:SE)(Lj:List Ch):Stop→Option (SE×List Ch)
  | .fin m e L=>KE b0 m e L is mj ej Lj
  | _=>none
def exQ(is:List Nat)(id b0 mj:Nat)(ej:SE)(Lj:List Ch):Stop→Option (SE×List Ch)
  | .ex i m e L => match Nat.beq i id with
    | true=>KE b0 m e L is mj ej Lj
    | false=>none
  | _=>none
def aOS:Stop→Stop
  | .fin m e L=>.ret m e L
  | _=>.stuck
def ixT(T:TT)(t n:Nat):Bool:=match wZ T t with
  | some ⟨.sl el, _, _, _⟩ => match wZ T el with
    | some ⟨_,_,sz,_⟩=>Nat.beq n sz
    | none=>false
  | _=>false
noncomputable section
variable {P:Program} {T:TT} {hT:AX P T} {n:Nat} {c:Ctx} {B0:Bl} {N:Act→World→Prop} {X:Nat→Act→World→Prop} {Q:Act→World→Prop} {K K':List Fr} {m m':Nat} {e e':SE} {L L' Lv:List Ch} {cf cf' cf1 cf2:rN} {o:Oper}
theorem cM(hT:AX P T){f:FuncId}{fn:Func}{cd:Code}{xs:List SV}{L0:List Ch}{ρ ex:Type}{sv:ρ→ex→SV}{Lf:ρ→ex→List Ch}{F:Option ρ}{rs:List ResultVar}(hc:∀args w,(callFunc f args).run P w=.ok (.enter f args) w)(hf:P.funcs[f]?=some fn)(hr:fn.results=rs.toArray)(hb:fn.body=some cd)(hm:fn.ntmps=n)
    (k:∀{r},W (G (.mk P T hT n c B0 (QR P fn hr c B0 sv Lf r) (fun _ _ _=>False) (QR P fn hr c B0 sv Lf r)) [] B0.length (WQ 0 xs) L0 (.c cd)) r F) (hl:Nat.ble xs.length n=true:=by exact rfl):VS P c f F xs B0 L0 sv Lf:=
  fun _ hF=>en n hc hf hT hb hm hl (k hF)
theorem aDD{rs:List ResultVar}{is:List Nat}{b0:Nat}{L2 L3:List Ch}{s:SV}{st:Stop}(h:aHW T rs is b0 L2 st=some (s,L3)):∃m' e' L' x,st=.ret m' e' L'∧XQ T e' L' rs=some x∧nbS x=s∧AP b0 s=true∧KE b0 m' e' L' is b0 [] L2=some ([],L3):=by
  unfold aHW at h
  split at h
  · split at h
    · rename_i h1
      split at h
      · rename_i h2
        split at h
        · rename_i h3
          cases h
          exact⟨_,_,_,_,rfl,h1,rfl,h2,h3⟩
        · cases h
      · cases h
    · cases h
  · cases h
theorem eB{fn:Func}{ρ ex:Type}{sv:ρ→ex→SV}{Lf:ρ→ex→List Ch}{r r':ρ}{rs:List ResultVar}{hr:fn.results=rs.toArray}{zz:Option ρ}(y:ex)(is:List Nat)(hz:zz=some r')(h:aHW T rs is B0.length (Lf r' y) (iX T n K cf m e L)=some (sv r' y,Lf r' y)):W (G (.mk P T hT n c B0 N X (QR P fn hr c B0 sv Lf r)) K m e L cf) r zz:=fun hF=>by
  obtain⟨_,_,_,_,h1,h2,h3,h4,h5⟩:=aDD h
  exact rt y is hF hz h1 hr h2 h3 h4 h5
theorem cV{fn:Func}{ρ:Type}{sv:ρ→Unit→SV}{Lf:ρ→Unit→List Ch}{r r':ρ}{rs:List ResultVar}{hr:fn.results=rs.toArray}{zz:Option ρ}(hz:zz=some r')(h:aHW T rs [] B0.length (Lf r' ()) (iX T n K cf m e L)=some (sv r' (),Lf r' ())):W (G (.mk P T hT n c B0 N X (QR P fn hr c B0 sv Lf r)) K m e L cf) r zz:=eB () [] hz h
theorem MQ{fn:Func}{ρ ex:Type}{sv:ρ→ex→SV}{Lf:ρ→ex→List Ch}{r r':ρ}{rs:List ResultVar}{hr:fn.results=rs.toArray}{zz:Option ρ}(y:ex)(is:List Nat)(hz:zz=some r')(h:aHW T rs is B0.length (Lf r' y) (aOS (iX T n K cf m e L))=some (sv r' y,Lf r' y)):W (G (.mk P T hT n c B0 (QR P fn hr c B0 sv Lf r) X Q) K m e L cf) r zz:=fun hF=>by
  obtain⟨m',e',L',_,h1,h2,h3,h4,h5⟩:=aDD h
  refine rf y is hF hz (m':=m') (e':=e') (L':=L') ?_ hr h2 h3 h4 h5
  unfold aOS at h1
  split at h1
  · rename_i h0;rw [h0];cases h1;rfl
  · cases h1
theorem aDE{is:List Nat}{b0 mj:Nat}{ej e3:SE}{Lj L3:List Ch}{st:Stop}(h:aD9 is b0 mj ej Lj st=some (e3,L3)):∃m' e' L',st=.fin m' e' L'∧KE b0 m' e' L' is mj ej Lj=some (e3,L3):=by
  unfold aD9 at h
  split at h
  · exact⟨_,_,_,rfl,h⟩
  · cases h
theorem fN{π υ α:Type}{eq:π→Prop}{mj:Nat}{ej:π→υ→SE}{Lj:π→υ→List Ch}{p:π}{q:α}{zz:Option α}(u:υ)(is:List Nat)(hz:(zz=some q)=eq p)(h:aD9 is B0.length mj (ej p u) (Lj p u) (iX T n K cf m e L)=some (ej p u,Lj p u)):W (G (.mk P T hT n c B0 (JP n c B0 eq mj ej Lj) X Q) K m e L cf) q zz:=fun hF=>by
  obtain⟨_,_,_,h1,h2⟩:=aDE h
  exact jn u is (hz ▸ hF) h1 h2
theorem b8{π α:Type}{eq:π→Prop}{mj:Nat}{ej:π→Unit→SE}{Lj:π→Unit→List Ch}{p:π}{q:α}{zz:Option α}(is:List Nat)(hz:(zz=some q)=eq p)(h:aD9 is B0.length mj (ej p ()) (Lj p ()) (iX T n K cf m e L)=some (ej p (),Lj p ())):W (G (.mk P T hT n c B0 (JP n c B0 eq mj ej Lj) X Q) K m e L cf) q zz:=fN () is hz h
theorem Q9{σ ρ υ:Type}{o:Step σ ρ}{mj:Nat}{el:σ→υ→SE}{Ll:σ→υ→List Ch}{s:σ}(u:υ)(is:List Nat)(h:aD9 is B0.length mj (el s u) (Ll s u) (iX T n K cf m e L)=some (el s u,Ll s u)):W (G (.mk P T hT n c B0 (NxP n c B0 o mj el Ll) X Q) K m e L cf) o (some (Step.next s)):=fun hF=>by
  obtain⟨_,_,_,h1,h2⟩:=aDE h
  exact nx u is hF h1 h2
theorem EV{σ ρ:Type}{o:Step σ ρ}{mj:Nat}{el:σ→Unit→SE}{Ll:σ→Unit→List Ch}{s:σ}(is:List Nat)(h:aD9 is B0.length mj (el s ()) (Ll s ()) (iX T n K cf m e L)=some (el s (),Ll s ())):W (G (.mk P T hT n c B0 (NxP n c B0 o mj el Ll) X Q) K m e L cf) o (some (Step.next s)):=Q9 () is h
def BkR(n:Nat)(c:Ctx)(B0:Bl){β ρ σ υ:Type}{o:Step σ ρ}{ro:ρ}(_:∀p,o=.stop p→p=ro)(enc:β→ρ)(m:Nat)(ej:β→υ→SE)(Lj:β→υ→List Ch)(id:Nat)(X:Nat→Act→World→Prop):Nat→Act→World→Prop:=BkP n c B0 ro enc m ej Lj id X
theorem SI{σ ρ β υ:Type}{o:Step σ ρ}{ro:ρ}{enc:β→ρ}{mj id:Nat}{ej:β→υ→SE}{Lj:β→υ→List Ch}{b:β}{hr:∀p,o=.stop p→p=ro}(u:υ)(is:List Nat)(h:exQ is id B0.length mj (ej b u) (Lj b u) (iX T n K cf m e L)=some (ej b u,Lj b u)):W (G (.mk P T hT n c B0 N (BkR n c B0 hr enc mj ej Lj id X) Q) K m e L cf) o (some (Step.stop (enc b))):=fun hF=>by
  unfold exQ at h
  split at h
  · rename_i h0
    split at h
    · rename_i hb
      rw [Nat.eq_of_beq_eq_true hb] at h0
      exact bk u is hF hr h0 h
    · cases h
  · cases h
theorem FR{σ ρ β:Type}{o:Step σ ρ}{ro:ρ}{enc:β→ρ}{mj id:Nat}{ej:β→Unit→SE}{Lj:β→Unit→List Ch}{b:β}{hr:∀p,o=.stop p→p=ro}(is:List Nat)(h:exQ is id B0.length mj (ej b ()) (Lj b ()) (iX T n K cf m e L)=some (ej b (),Lj b ())):W (G (.mk P T hT n c B0 N (BkR n c B0 hr enc mj ej Lj id X) Q) K m e L cf) o (some (Step.stop (enc b))):=SI () is h
theorem H4{σ ρ α:Type}{o:Step σ ρ}{p ro:ρ}{F:ρ→Option α}{q:α}{C:Prop}(hr:∀p,o=.stop p→p=ro)(hF:F ro=some q)(k:W C q (F p)):W C o (some (Step.stop p)):=fun h=>k (re h rfl hr hF)
noncomputable section
variable {b:Bool} {α:Type} {A B':Option α} {q:α}
theorem bN{o:Operand}{x y:Code}(ss:List Nat)(hs:iX T n K cf m e L=.cond o b x y K' m' e' L')(ho:aU (uU e') ss=some (ss.map fun _=>SV.b b))
    (k1:W (G (.mk P T hT n c B0 N X Q) K' m' (U8 true e' ss) L' (.c x)) q A) (k2:W (G (.mk P T hT n c B0 N X Q) K' m' (U8 false e' ss) L' (.c y)) q B'):W (G (.mk P T hT n c B0 N X Q) K m e L cf) q (if b=true then A else B'):=fun hF=>cs ss hs ho hF k1 k2
theorem aHX{o:Operand}{x y:Code}(ss:List Nat)(hs:iX T n K cf m e L=.cond o b x y K' m' e' L')(ho:aU (uU e') ss=some (ss.map fun _=>SV.b b))
    (k1:b=true→W (G (.mk P T hT n c B0 N X Q) K' m' (U8 true e' ss) L' (.c x)) q A) (k2:b=false→W (G (.mk P T hT n c B0 N X Q) K' m' (U8 false e' ss) L' (.c y)) q B'):W (G (.mk P T hT n c B0 N X Q) K m e L cf) q (if b=true then A else B'):=fun hF=>csK ss hs ho hF k1 k2
theorem dZ(ss:List Nat)(hs:iX T n K cf m e L=.case b cf' K' m' e' L')(ho:aU (uU e') ss=some (ss.map fun _=>SV.b b))
    (k1:W (G (.mk P T hT n c B0 N X Q) K' m' (U8 true e' ss) L' cf') q A) (k2:W (G (.mk P T hT n c B0 N X Q) K' m' (U8 false e' ss) L' cf') q B'):W (G (.mk P T hT n c B0 N X Q) K m e L cf) q (if b=true then A else B'):=fun hF=>ca ss hs ho hF k1 k2
theorem aP6(ss:List Nat)(hs:iX T n K cf m e L=.case b cf' K' m' e' L')(ho:aU (uU e') ss=some (ss.map fun _=>SV.b b))
    (k1:b=true→W (G (.mk P T hT n c B0 N X Q) K' m' (U8 true e' ss) L' cf') q A) (k2:b=false→W (G (.mk P T hT n c B0 N X Q) K' m' (U8 false e' ss) L' cf') q B'):W (G (.mk P T hT n c B0 N X Q) K m e L cf) q (if b=true then A else B'):=fun hF=>caK ss hs ho hF k1 k2
end
noncomputable section
variable {α β:Type} {fo:Option α} {kf:α→Option β} {q:β} {d:Nat} {f:FuncId} {xs:List SV}
theorem c0{sv:α→SV}(hs:iX T n K cf m e L=.call o (some d) f xs cf1 cf2 K' m' e' L')
    (hc:∀{w},HS c w L'→V0 P (b9 w) f fo xs sv) (k:∀x,W (G (.mk P T hT n c B0 N X Q) K' m' ((d,sv x) :: e') L' cf2) q (kf x)):W (G (.mk P T hT n c B0 N X Q) K m e L cf) q (fo.bind kf):=fun hF=>cl0 hs (fun h _ hx=>hc h _ hx) hF fun x _ h=>k x h
theorem c1{ex:Type}{sv:α→ex→SV}{Lf:α→ex→List Ch}(hs:iX T n K cf m e L=.call o (some d) f xs cf1 cf2 K' m' e' L')
    (hc:∀{w},HS c w L'→VS P (b9 w) f fo xs [] [] sv Lf) (k:∀x,∀y:ex,W (G (.mk P T hT n c B0 N X Q) K' m' ((d,sv x y) :: e') (L'++Lf x y) cf2) q (kf x)) (hn:∀x y,noF (Lf x y)=true:=by exact fun _ _=>rfl):W (G (.mk P T hT n c B0 N X Q) K m e L cf) q (fo.bind kf):=fun hF=>cl hs hn (fun h _ hx=>hc h _ hx) hF fun x _ h y=>k x y h
theorem OW{β:Type}{kf:α→Option β}{q:β}{iR:aJ α}(C:KB α){d t:Nat}{s:AC}{i:Int}{ls:List α}(hs:iX T n K cf m e L=.idx o d t s ls.length i Lv cf1 cf2 K' m' e' L')(h1:bS c s ls)(ht:ixT T t (aJ.n α)=true)
    (k:∀x,∀y:C.ex,C.sub c.S0 c.w0 x y→W (G (.mk P T hT n c B0 N X Q) K' (m'+1) ((d,.p m' 0) :: e') (L' ++ [.ro m' (C.cs x y)]) (cf2.ext [.ro m' (C.cs x y)])) q (kf x)):W (G (.mk P T hT n c B0 N X Q) K m e L cf) q ((idx ls i).bind kf):=fun hF=>by
  unfold ixT at ht
  split at ht
  · rename_i h2
    split at ht
    · rename_i h3
      exact ix C hs h1 hF h2 h3 (Nat.eq_of_beq_eq_true ht) fun x _ h y hy=>k x y hy h
    · cases ht
  · cases ht
theorem L7{β:Type}{kf:Int→Option β}{q:β}{d t:Nat}{s:AC}{i:Int}{ls:List Int}(hs:iX T n K cf m e L=.idx o d t s ls.length i Lv cf1 cf2 K' m' e' L')(h1:bS c s ls)(ht:ixT T t 1=true)
    (k:∀x,W (G (.mk P T hT n c B0 N X Q) K' (m'+1) ((d,.p m' 0) :: e') (L' ++ [.ro m' [.i .i64 x]]) (cf2.ext [.ro m' [.i .i64 x]])) q (kf x)):W (G (.mk P T hT n c B0 N X Q) K m e L cf) q ((idx ls i).bind kf):=OW cI hs h1 ht fun x _ _=>k x
theorem eY(hm:P.follows .mixedOrders=true){id:Nat}{ops:Array Oper}{zz:Option β}(is:List Nat)(hs:iX T n K cf m e L=.rgn id ops K' m' e' L')
    (k:∀{B1},W (G (.mk P T hT n c B0 N X Q) K' m' e' L' (.d B1 ops (List.replicate ops.size false) is (kl L' is) (kl L' is))) q zz) (hf:(ZK ops && (XP m' (kl L' is) && (cO is && is.all fun j=>Nat.blt j L'.length)))=true:=by kernel_rfl):W (G (.mk P T hT n c B0 N X Q) K m e L cf) q zz:=fun hF=>dr is hs hm hf fun _=>k hF
theorem dL{π υ:Type}{zz:Option β}(j mj:Nat)(Fj:π→Option β)(ks:List Nat)(ej:π→υ→SE)(is:List Nat)(Lj:π→υ→List Ch)(hs:MF (iX T n K cf m e L)=some (K',cf',m',e',L'))
    (k1:W (G (.mk P T hT n c B0 (JP n c B0 (fun p=>Fj p=some q) mj (fun p u=>ej p u++kp e' ks) (fun p u=>Lj p u++kl L' is)) (XK (.mk P T hT n c B0 N X Q) (K'.drop j)) Q) (K'.take j) m' e' L' cf') q zz)
    (k2:∀p u,W (G (.mk P T hT n c B0 N X Q) (K'.drop j) mj (ej p u++kp e' ks) (Lj p u++kl L' is) .n) q (Fj p)):W (G (.mk P T hT n c B0 N X Q) K m e L cf) q zz:=fun hF=>cut j mj (fun p=>Fj p=some q) ks ej is Lj hs (k1 hF) fun p u h=>k2 p u h
theorem dF{zz:Option β}(j mj:Nat)(Fj:Bool→Option β)(ks:List Nat)(v:Nat)(is:List Nat)(hs:MF (iX T n K cf m e L)=some (K',cf',m',e',L'))
    (k1:W (G (.mk P T hT n c B0 (JP n c B0 (fun p=>Fj p=some q) mj (fun p (_:Unit)=>[(v,.b p)]++kp e' ks) (fun _ _=>[]++kl L' is)) (XK (.mk P T hT n c B0 N X Q) (K'.drop j)) Q) (K'.take j) m' e' L' cf') q zz)
    (k2:∀p,W (G (.mk P T hT n c B0 N X Q) (K'.drop j) mj ([(v,.b p)]++kp e' ks) ([]++kl L' is) .n) q (Fj p)):W (G (.mk P T hT n c B0 N X Q) K m e L cf) q zz:=dL j mj Fj ks (fun p (_:Unit)=>[(v,.b p)]) is (fun _ _=>[]) hs k1 fun p _=>k2 p
theorem J1{σ ρ υ γ ω:Type}{id:Nat}{y:Code}{fb:σ→Option (Step σ ρ)}{s0:σ}{gk:ρ→Option β}(u0:υ)(ks:List Nat)(el:σ→υ→SE)(is0 is:List Nat)(Ll:σ→υ→List Ch)(enc:γ→ρ)(kb:List Nat)(ej:γ→ω→SE)(ib:List Nat)(Lj:γ→ω→List Ch)
    (hs:iX T n K cf m e L=.loop id y K' m' e' L')
    (h0:KE B0.length m' e' L' is0 m' (el s0 u0++kp e' ks) (Ll s0 u0++kl L' is)=some (el s0 u0++kp e' ks,Ll s0 u0++kl L' is))
    (k1:∀{ro o},gk ro=some q→∀s u,(hr:∀p,o=.stop p→p=ro)→W (G (.mk P T hT n c B0 (NxP n c B0 o m' (fun s u=>el s u++kp e' ks) (fun s u=>Ll s u++kl L' is)) (BkR n c B0 hr enc m' (fun b u=>ej b u++kp e' kb) (fun b u=>Lj b u++kl L' ib) id (XK (.mk P T hT n c B0 N X Q) K')) Q) [] m' (el s u++kp e' ks) (Ll s u++kl L' is) (.c y)) o (fb s))
    (k2:∀b u,W (G (.mk P T hT n c B0 N X Q) K' m' (ej b u++kp e' kb) (Lj b u++kl L' ib) .n) q (gk (enc b))):W (G (.mk P T hT n c B0 N X Q) K m e L cf) q ((loop fb s0).bind gk):=fun hF=>
  lp u0 ks el is0 is Ll enc kb ej ib Lj hs hF h0 (fun ro h1 s u o h2 h3=>k1 h1 s u h3 h2) fun b u h=>k2 b u h
theorem KF{ρ:Type}{id:Nat}{y:Code}{fb:Int→Option (Step Int ρ)}{s0:Int}{gk:ρ→Option β}(v:Nat)(ks:List Nat)(is:List Nat)(enc:Unit→ρ)(kb:List Nat)(ib:List Nat)
    (hs:iX T n K cf m e L=.loop id y K' m' e' L')
    (h0:KE B0.length m' e' L' is m' ([(v,.i .i64 s0)]++kp e' ks) ([]++kl L' is)=some ([(v,.i .i64 s0)]++kp e' ks,[]++kl L' is))
    (k1:∀{ro o},gk ro=some q→∀s,(hr:∀p,o=.stop p→p=ro)→W (G (.mk P T hT n c B0 (NxP n c B0 o m' (fun s (_:Unit)=>[(v,.i .i64 s)]++kp e' ks) (fun _ _=>[]++kl L' is)) (BkR n c B0 hr enc m' (fun _ (_:Unit)=>[]++kp e' kb) (fun _ _=>[]++kl L' ib) id (XK (.mk P T hT n c B0 N X Q) K')) Q) [] m' ([(v,.i .i64 s)]++kp e' ks) ([]++kl L' is) (.c y)) o (fb s))
    (k2:W (G (.mk P T hT n c B0 N X Q) K' m' ([]++kp e' kb) ([]++kl L' ib) .n) q (gk (enc ()))):W (G (.mk P T hT n c B0 N X Q) K m e L cf) q ((loop fb s0).bind gk):=
  J1 () ks (fun s (_:Unit)=>[(v,.i .i64 s)]) is is (fun _ _=>[]) enc kb (fun _ (_:Unit)=>[]) ib (fun _ _=>[]) hs h0 (fun h s _ hr=>k1 h s hr) fun _ _=>k2
theorem jI{β:Type}{kf:α→Option β}{q:β}[aJ α](E:CO α)(j:Nat){t:TypeId}{s:AC}{i:Int}{ls:List α}(hs:iX T n K cf m e L=.idx o d t s ls.length i Lv cf1 cf2 K' m' e' L')(hj:L'[j]?=some (ow s ls))(hz:eT j cf1.xB=true)
    (k:∀x,idx ls i=some x→∀y:E.ex,Shp s ls.length→W (G (.mk P T hT n c B0 N X Q) K' (m'+1) e' (L'.set j .no++([.o (rO (s.v ls.length) ls i.toNat),.box m' (E.cs x y),wOf α m' s ls.length i.toNat]++E.Lx x y)) (cf1.ext [wOf α m' s ls.length i.toNat])) q (kf x)):W (G (.mk P T hT n c B0 N X Q) K m e L cf) q ((idx ls i).bind kf):=fun hF=>oe E j hs hj hz hF fun x h1 h2 y h3=>k x h1 y h3 h2
end
noncomputable section
variable {α β ex:Type} {fo:Option α} {kf:α→Option β} {q:β} {d:Option Nat} {f:FuncId} {xs xs0:List SV} {M:List Ch} {sv:α→ex→SV} {Lr:α→ex→List Ch}
theorem o4(is:List Nat)
    (hs:cpS (iX T n K cf m e L)=some (o,d,f,xs,cf1,cf2,K',m',e',L')) (hi:aU (fun i=>L'[i]?) is=some M) (hx:aU (rnP [] 0) xs=some xs0)
    (hk:(H3 M && (cO is && is.all fun j=>eT j cf1.xB))=true)
    (hc:∀{κ:Ctx},HG c κ L' is→VS P κ f fo xs0 [] M sv Lr)
    (k:∀x,∀y:ex,W (G (.mk P T hT n c B0 N X Q) K' m' (dse d (sv x y) e') (HZ L' is++Lr x y) cf2) q (kf x)) (hn:∀x y,(H3 (Lr x y) && AP 0 (sv x y))=true:=by exact fun _ _=>rfl):W (G (.mk P T hT n c B0 N X Q) K m e L cf) q (fo.bind kf):=fun hF=>
  cw0 is hs hi hx hk hn (fun h _ hx=>hc h _ hx) hF fun x _ h y=>k x y h
theorem bZ{c1:List SV}{a1:α→ex→List SV}(i1 n1 o1 k1:Nat)(is:List Nat)
    (hs:cpS (iX T n K cf m e L)=some (o,d,f,xs,cf1,cf2,K',m',e',L')) (hb:ZV L' [(i1,n1,o1,k1)]=some [c1]) (hi:aU (fun i=>L'[i]?) is=some M) (hx:aU (rnP [(i1,n1,o1,k1)] 0) xs=some xs0)
    (hk:(H3 M && ([c1].all (AP.okC 0) && (cO (i1 :: is) && (i1 :: is).all fun j=>eT j cf1.xB)))=true)
    (hc:∀{κ:Ctx},HG c κ L' (i1 :: is)→∀{b1:Nat×Nat},VS P κ f fo xs0 [b1] (.box 0 c1 :: M) sv (fun x y=>.box 0 (a1 x y) :: Lr x y))
    (k:∀x,∀y:ex,W (G (.mk P T hT n c B0 N X Q) K' m' (dse d (sv x y) e') (FX L' (HZ L' (i1 :: is)++Lr x y) [(i1,n1,o1,k1)] [a1 x y]) cf2) q (kf x)) (hn:∀x y,(SB [(i1,n1,o1,k1)] [a1 x y] && ([a1 x y].all (AP.okC 0) && (H3 (Lr x y) && AP 0 (sv x y))))=true:=by exact fun _ _=>rfl):W (G (.mk P T hT n c B0 N X Q) K m e L cf) q (fo.bind kf):=fun hF=>
  cw1 i1 n1 o1 k1 is hs hb hi hx hk hn (fun h _ _ hx=>hc h _ hx) hF fun x _ h y=>k x y h
theorem aBJ{c1 c2:List SV}{a1 a2:α→ex→List SV}(i1 n1 o1 k1:Nat)(i2 n2 o2 k2:Nat)(is:List Nat)
    (hs:cpS (iX T n K cf m e L)=some (o,d,f,xs,cf1,cf2,K',m',e',L')) (hb:ZV L' [(i1,n1,o1,k1),(i2,n2,o2,k2)]=some [c1,c2]) (hi:aU (fun i=>L'[i]?) is=some M) (hx:aU (rnP [(i1,n1,o1,k1),(i2,n2,o2,k2)] 0) xs=some xs0)
    (hk:(H3 M && ([c1,c2].all (AP.okC 0) && (cO (i1 :: i2 :: is) && (i1 :: i2 :: is).all fun j=>eT j cf1.xB)))=true)
    (hc:∀{κ:Ctx},HG c κ L' (i1 :: i2 :: is)→∀{b1 b2:Nat×Nat},VS P κ f fo xs0 [b1,b2] (.box 0 c1 :: .box 1 c2 :: M) sv (fun x y=>.box 0 (a1 x y) :: .box 1 (a2 x y) :: Lr x y))
    (k:∀x,∀y:ex,W (G (.mk P T hT n c B0 N X Q) K' m' (dse d (sv x y) e') (FX L' (HZ L' (i1 :: i2 :: is)++Lr x y) [(i1,n1,o1,k1),(i2,n2,o2,k2)] [a1 x y,a2 x y]) cf2) q (kf x)) (hn:∀x y,(SB [(i1,n1,o1,k1),(i2,n2,o2,k2)] [a1 x y,a2 x y] && ([a1 x y,a2 x y].all (AP.okC 0) && (H3 (Lr x y) && AP 0 (sv x y))))=true:=by exact fun _ _=>rfl):W (G (.mk P T hT n c B0 N X Q) K m e L cf) q (fo.bind kf):=fun hF=>
  cw2 i1 n1 o1 k1 i2 n2 o2 k2 is hs hb hi hx hk hn (fun h _ _ _ hx=>hc h _ hx) hF fun x _ h y=>k x y h
end
theorem aKE{α β:Type}{iR:aJ α}{C:KB α}{sr:β→SV}{g:FuncId}{w:World}{p:α→Option β}(hc:∀args w,(callFunc g args).run P w=.ok (.enter g args) w)(hn:∀{κ:Ctx} {x y},C.sub κ.S0 κ.w0 x y→V0 P κ g (p x) [C.sv x y] sr):ZR P (b9 w) C sr g [] p:=fu1 hc (by intro κ x y h q hq;exact hn h _ hq)
theorem aBK{α β:Type}{iR:aJ α}{C:KB α}{sr:β→SV}{g:FuncId}{w:World}{Bs:Bl}{cs:List (Nat×List SV)}{p:α→Option β}(hc:∀args w,(callFunc g args).run P w=.ok (.enter g args) w)(hB:∀w1,eC F0 w w1→j8 (b9 w1) w1 Bs (roL 0 cs))(hl:aU (dY Bs) (aG9 0 cs)=some (SA Bs))(hn:∀{w1 x y},eC F0 w w1→C.sub (HO w1) w1 x y→VS P (b9 w1) g (p x) (C.sv x y :: aG9 0 cs) Bs (roL 0 cs) (fun r (_:Unit)=>sr r) (fun _ _=>[]))(hz:∀q,AP 0 (sr q)=true:=by exact fun _=>rfl):ZR P (b9 w) C sr g (SA Bs) p:=fk1 hc hB hl hz (by intro w1 x y h h' q hq;exact hn h h' _ hq)
noncomputable section
variable {α β:Type} {fo:Option α} {kf:α→Option β} {q:β} {d:Nat} {f g:FuncId} {xs:List SV} {sv:α→SV}
theorem aBL{n1:Nat}{c1:List SV}(is:List Nat)(hs:iX T n K cf m e L=.callp o (some d) f xs cf1 cf2 K' m' e' L')(hk:kl L' is=[.ro n1 c1])(ho:(ZS [(n1,c1)] && okA xs.dropLast)=true)(hx:xs=xs.dropLast ++ [.f g [n1]])
    (hc:∀{w},HS c w L'→∀{b1:Nat×Nat},(∀w1,eC F0 w w1→j8 (b9 w1) w1 [b1] [.ro 0 c1])→V0 P (b9 w) f fo (xs.dropLast ++ [.k (.func (.func g) #[] (SA [b1]).toArray)]) sv)
    (k:∀x,W (G (.mk P T hT n c B0 N X Q) K' m' ((d,sv x) :: e') L' cf2) q (kf x)):W (G (.mk P T hT n c B0 N X Q) K m e L cf) q (fo.bind kf):=fun hF=>
  aPT is hs hk ho hx (fun h _ h2 _ hx=>hc h h2 _ hx) hF fun x _ h=>k x h
end
end
end Go.Gv
end
noncomputable section
namespace Go.Gv
def pV(y:Nat×Nat):Value:=.pointer (some ⟨y.1,y.2,none⟩)
noncomputable section
variable {P:Program} {T:TT} {hT:AX P T} {n:Nat} {c:Ctx} {B0:Bl} {N:Act→World→Prop} {X:Nat→Act→World→Prop} {Q:Act→World→Prop} {K K':List Fr} {m m':Nat} {e e':SE} {L L':List Ch} {cf cf1 cf2:rN} {o:Oper}
abbrev VP(P:Program)(c:Ctx)(f:FuncId){ρ:Type}(F:Option ρ)(xs:List SV)(cs:ρ→List SV):Prop:=VS P c f F xs [] [] (fun _ (y:Nat×Nat)=>.k (pV y)) (fun r y=>[.o (HX [y] 0 (cs r))])
theorem rtP{fn:Func}{ρ:Type}{r r':ρ}{t:Nat}{hr:fn.results=[ResultVar.tmp t].toArray}{zz:Option ρ}{cs:ρ→List SV}(is:List Nat)(hz:zz=some r')(hs:iX T n K cf m e L=.ret m' e' L')(hL:KE 0 m' e' L' is 1 [(t,.p 0 0)] [.box 0 (cs r')]=some ([(t,.p 0 0)],[.box 0 (cs r')]))(ho:AP.okC 0 (cs r')=true):W (G (.mk P T hT n c [] N X (QR P fn hr c [] (fun _ (y:Nat×Nat)=>.k (pV y)) (fun r y=>[.o (HX [y] 0 (cs r))]) r)) K m e L cf) r zz:=fun hF=>by
  subst hz;cases hF
  refine eK (g:=.mk P T hT n c [] N X _) ?_
  rw [hs]
  intro a w hr'
  obtain⟨B,hm,hA,hS⟩:=kP.KE hr' is hL
  have hB:∃y,B=[y]:=by
    cases B with
    | nil=>simp at hm
    | cons y B => cases B with
      | nil=>exact⟨y,rfl⟩
      | cons z B=>simp at hm
  obtain⟨y,rfl⟩:=hB
  have hS:j8 c w [y] [.box 0 (cs r)]:=hS
  have hA:eA n [y] [(t,.p 0 0)] a:=hA
  have hv:XQ T [(t,.p 0 0)] [.box 0 (cs r)] [ResultVar.tmp t]=some (.p 0 0):=by simp [XQ,aGG,uU]
  obtain⟨v,h1,h2⟩:=Q2 hr hT hA hS hv
  have hv':v=pV y:=by
    simp only [dY,gV,bI,List.getElem?_cons_zero] at h1
    cases h1;rfl
  subst hv'
  refine⟨hA.d,_,h2,y,by simp [dY,gV,bI,pV,Value.oneCell'],?_⟩
  obtain⟨⟨R,s1,s2⟩,s0⟩:=hS
  exact⟨⟨R,s1.imp (.cons (fun F h=>h) .nil),fun x hx=>by rcases List.mem_cons.1 hx with rfl | hx <;> first | trivial | simp at hx⟩,s0⟩
theorem cP{α β:Type}{fo:Option α}{kf:α→Option β}{q:β}{d:Nat}{f:FuncId}{xs:List SV}{cs:α→List SV}(hs:iX T n K cf m e L=.call o (some d) f xs cf1 cf2 K' m' e' L')
    (hc:∀{w},HS c w L'→VP P (b9 w) f fo xs cs) (k:∀x,W (G (.mk P T hT n c B0 N X Q) K' (m'+1) ((d,.p m' 0) :: e') (L' ++ [.box m' (cs x)]) cf2) q (kf x)) (hk:∀x,AP.okC 0 (cs x)=true:=by exact fun _=>rfl):W (G (.mk P T hT n c B0 N X Q) K m e L cf) q (fo.bind kf):=fun hF=>by
  refine eK (g:=.mk P T hT n c B0 N X Q) ?_
  rw [hs]
  intro fo' args ats ho hd hf ⟨ys,hys,hxs⟩ hA0 hdn hE
  subst hxs
  cases hfo:fo with
  | none=>rw [hfo] at hF;cases hF
  | some x =>
    rw [hfo] at hF
    refine hE Unit (fun _=>m'+1) (fun _=>(d,.p m' 0) :: e') (fun _=>L' ++ [.box m' (cs x)]) (fun _=>sO _) (fun B a w next Q' hm hA hS hnext=>?_) (fun _=>k x hF)
    obtain⟨hcall,hrun⟩:=hc ⟨_,hS⟩ x hfo
    obtain⟨vs,h1,h2⟩:=OV hA hys
    obtain⟨v,h3,h4⟩:=dE hA hf
    simp [dY,aU] at h3
    subst h3
    have h5:=hrun vs (Q3 hA0 (by rw [JV];exact h1)) (aG1 w)
    have h6:=MM (w:=w) hcall ho h4 h2
    unfold Oper.wp
    rw [h6 _ a hA.env,Oper.upon_enter]
    refine Calls.mono h5 fun en w' ⟨v,hv,y,g1,g2⟩=>?_
    subst hv
    rw [hd]
    have hv':v=pV y:=by simpa [dY,gV,bI,pV,Value.oneCell'] using g1.symm
    subst hv'
    have hb:∀{F:cC},(HX [y] 0 (cs x)).P w' F→(HX ((MJ (.mk P T hT n c B0 N X Q) cf1++B) ++ [y]) m' (cs x)).P w' F:=fun⟨b,z,us,k1,k2,k3⟩=>by
      simp only [List.getElem?_cons_zero,Option.some.injEq] at k1
      refine⟨y.1,y.2,us,?_,?_,by rw [k1];exact k3⟩
      · rw [List.getElem?_append_right (by omega),hm];simp
      · simpa using dP (fun x v h=>by simpa using eE (B:=[]) (MJ (.mk P T hT n c B0 N X Q) cf1++B ++ [y]) h) (AY (hk x) k2)
    have g3:dY ((MJ (.mk P T hT n c B0 N X Q) cf1++B) ++ [y]) (.p m' 0)=some (pV y):=by
      simp only [dY,gV,bI]
      rw [List.getElem?_append_right (by omega),hm]
      simp [pV]
    refine hnext () _ _ ⟨[y],by simp only [List.length_append,List.length_cons,List.length_nil] at hm ⊢;omega,hA.ext g3 (hA.env.put (by simpa [oR,Nat.blt_eq] using hdn) _),?_⟩
    obtain⟨⟨R,s1,s2⟩,s0⟩:=(hS.after (L2:=[.o (HX [y] 0 (cs x))]) rfl g2).app [y]
    refine⟨⟨R,s1.imp ?_,fun z hz=>?_⟩,s0⟩
    · rw [List.map_append,List.map_append]
      exact fS.append (fS.refl _) (.cons (fun F h=>hb h) .nil)
    · rcases List.mem_append.1 hz with hz | hz
      · exact s2 z (List.mem_append_left _ hz)
      · rcases List.mem_cons.1 hz with rfl | hz <;> first | trivial | simp at hz
def aMV(b:Bool)(off sz:Nat)(cs:List SV):Option SV:=match b with
  | true=>some (.g ((cs.drop off).take sz))
  | false => match cs[off]? with
    | some x => match x with
      | .g _=>none
      | .t _=>none
      | .f _ _=>none
      | .u=>none
      | y=>some y
    | none=>none
theorem Z3{α:Type}{F0:Option α}{q:α}{t ix sz d:Nat}{b:Bool}{k:TK}{z cs:List SV}{Fs:Array Field}{F:Field}{x:Operand}{r:SV}{Lv:List Ch}(hu:P.underlying t=some (.struct Fs))(hf:Fs[ix]?=some F)(hl:wZ T F.type=some ⟨k,b,sz,z⟩)(hs:U7 (iX T n K cf m e L)=some (o,Lv,cf1,cf2,K',m',e',L'))(ho:(o.op,o.dst)=(.field t x ix,some d))(hx:fY e' x=some (.g cs))(hr:aMV b F.offset sz cs=some r)(hz:(!b || Nat.ble (F.offset+sz) cs.length)=true)
    (kk:W (G (.mk P T hT n c B0 N X Q) K' m' ((d,r) :: e') L' cf2) q F0):W (G (.mk P T hT n c B0 N X Q) K m e L cf) q F0:=fun hF=>
  pu hs (congrArg Prod.snd ho) (fun B a w hA _=>by
    obtain⟨v,h1,h2⟩:=dE hA hx
    simp only [dY,gV] at h1
    split at h1
    case h_2=>cases h1
    rename_i vs hv
    cases h1
    have hlen:=iY hv
    have h0:o.op=.field t x ix:=congrArg Prod.fst ho
    have hag:=hT.agg _ _ hl
    have hsz:=hT.size _ _ hl
    cases b with
    | true =>
      have hz':=Nat.le_of_ble_eq_true (by simpa using hz)
      simp only [aMV] at hr;cases hr
      refine⟨.agg ((vs.drop F.offset).take sz).toArray,by simp only [dY,gV,E6 sz (E5 F.offset hv)],fun _ a hA=>?_⟩
      have e:vs.toArray.extract F.offset (F.offset+sz)=((vs.drop F.offset).take sz).toArray:=by
        apply Array.ext'
        simp [List.extract_eq_take_drop]
      simp [execOp,h0,hA.eval h2,Instr.field,run_underlying hu,hf,part,asAgg,hag,hsz,e]
    | false =>
      simp only [aMV] at hr
      split at hr
      case h_2=>cases hr
      rename_i y hy
      obtain⟨u,h4,h5⟩:=E4 hv hy
      have hr':r=y:=by cases y <;> simp at hr <;> exact hr.symm
      subst hr'
      refine⟨u,aCJ h4,fun _ a hA=>?_⟩
      simp [execOp,h0,hA.eval h2,Instr.field,run_underlying hu,hf,part,asAgg,hag,h5]) (kk hF)
end
end Go.Gv
end
noncomputable section
namespace Go.Gv
structure aB where
  Bytes:List Int
  Class:List Int
  deriving DecidableEq,Inhabited
instance:aJ aB:=aJ.via (fun d=>(d.Bytes,d.Class))
instance:Fits aB:=Fits.via (fun d=>(d.Bytes,d.Class))
structure aE where
  aL:List Int
  deriving DecidableEq,Inhabited
instance:aJ aE:=aJ.via (fun d=>(d.aL))
instance:Fits aE:=Fits.via (fun d=>(d.aL))
theorem Z4{S:cC}{w:World}{cs:List Value}{d:aE}(h:aJ.rd S w cs d):∃v0:Value,cs=[v0]∧aJ.rd S w [v0] d.aL:=by
  obtain⟨u0,q0⟩:=HW h
  rw [q0] at h
  exact⟨u0,q0,h⟩
theorem H5(d:aE){v0:Value}:OP [v0] d [eJ [v0] d.aL]:=(show OP (α:=(List Int)) _ (d.aL) _ from aFR)
theorem _root_.Go.Gv.St.aHY{c:Ctx}{L:List Chunk}{R:List Fact}{w:World}{s:Value}{l:List aE}{i:Nat}{x:aE}(h:St c w L R)(j:Nat)(hj:R[j]?=some (uT [s] l))(hi:l[i]?=some x):∃v0:Value,bR w (HT s) (HP 1 i s) [v0]∧St c w L (R ++ [uT [v0] x.aL]):=by
  obtain⟨S,hS,hk⟩:=h.aFI hj
  obtain⟨ec,h1,h2⟩:=ZA hS hi
  obtain⟨v0,q,q0⟩:=Z4 h2
  rw [q] at h1
  exact⟨v0,h1,hk _ (by intro f hf;simp only [List.mem_cons,List.not_mem_nil,or_false] at hf;subst hf;exact q0)⟩
structure aA where
  Global:List aE
  bD:List aE
  deriving DecidableEq,Inhabited
instance:aJ aA:=aJ.via (fun d=>(d.Global,d.bD))
instance:Fits aA:=Fits.via (fun d=>(d.Global,d.bD))
structure Mem where
  aB:aB
  aA:aA
  deriving DecidableEq,Inhabited
instance:aJ Mem:=aJ.via (fun d=>(d.aB,d.aA))
instance:Fits Mem:=Fits.via (fun d=>(d.aB,d.aA))
structure gQ where
  On:Bool
  aI:Int
  eR:Bool
  Seen:Int
  deriving DecidableEq,Inhabited
instance:aJ gQ:=aJ.via (fun d=>(d.On,d.aI,d.eR,d.Seen))
instance:Fits gQ:=Fits.via (fun d=>(d.On,d.aI,d.eR,d.Seen))
theorem aMW{S:cC}{w:World}{cs:List Value}{d:gQ}(h:aJ.rd S w cs d):cs=[.bool (d.On),.int .i64 (d.aI),.bool (d.eR),.int .i64 (d.Seen)]:=by
  obtain⟨c0,r0,e0,h0,n0⟩:=h
  have q0:c0=[_]:=h0
  obtain⟨c1,r1,e1,h1,n1⟩:=n0
  have q1:c1=[_]:=h1
  obtain⟨c2,r2,e2,h2,n2⟩:=n1
  have q2:c2=[_]:=h2
  have q3:r2=[_]:=n2
  exact by rw [e0,e1,e2,q0,q1,q2,q3];rfl
theorem aMX{S:cC}{w:World}(d:gQ):aJ.rd S w [.bool (d.On),.int .i64 (d.aI),.bool (d.eR),.int .i64 (d.Seen)] d:=⟨[.bool (d.On)],[.int .i64 (d.aI),.bool (d.eR),.int .i64 (d.Seen)],rfl,rfl,⟨[.int .i64 (d.aI)],[.bool (d.eR),.int .i64 (d.Seen)],rfl,rfl,⟨[.bool (d.eR)],[.int .i64 (d.Seen)],rfl,rfl,rfl⟩⟩⟩
instance:Flat gQ:=⟨fun h=>Flat.own_of (α:=Bool×Int×Bool×Int) h,fun h=>Flat.no (α:=Bool×Int×Bool×Int) h⟩
theorem aMY(d:gQ):OP [.bool (d.On),.int .i64 (d.aI),.bool (d.eR),.int .i64 (d.Seen)] d []:=(show OP (α:=Bool×Int×Bool×Int) _ (d.On,d.aI,d.eR,d.Seen) _ from (QW (c1:=[.bool (d.On)]) (c2:=[.int .i64 (d.aI),.bool (d.eR),.int .i64 (d.Seen)]) (A:=[]) (B:=[]) (AU rfl) (QW (c1:=[.int .i64 (d.aI)]) (c2:=[.bool (d.eR),.int .i64 (d.Seen)]) (A:=[]) (B:=[]) (AU rfl) (QW (c1:=[.bool (d.eR)]) (c2:=[.int .i64 (d.Seen)]) (A:=[]) (B:=[]) (AU rfl) (AU rfl) rfl) rfl) rfl))
structure aK where
  aI:Int
  bM:List gQ
  deriving DecidableEq,Inhabited
instance:aJ aK:=aJ.via (fun d=>(d.aI,d.bM))
instance:Fits aK:=Fits.via (fun d=>(d.aI,d.bM))
structure bJ where
  Handle:Int
  aI:Int
  deriving DecidableEq,Inhabited
instance:aJ bJ:=aJ.via (fun d=>(d.Handle,d.aI))
instance:Fits bJ:=Fits.via (fun d=>(d.Handle,d.aI))
theorem aDF{S:cC}{w:World}{cs:List Value}{d:bJ}(h:aJ.rd S w cs d):cs=[.int .i64 (d.Handle),.int .i64 (d.aI)]:=by
  obtain⟨c0,r0,e0,h0,n0⟩:=h
  have q0:c0=[_]:=h0
  have q1:r0=[_]:=n0
  exact by rw [e0,q0,q1];rfl
theorem aKF{S:cC}{w:World}(d:bJ):aJ.rd S w [.int .i64 (d.Handle),.int .i64 (d.aI)] d:=⟨[.int .i64 (d.Handle)],[.int .i64 (d.aI)],rfl,rfl,rfl⟩
instance:Flat bJ:=⟨fun h=>Flat.own_of (α:=Int×Int) h,fun h=>Flat.no (α:=Int×Int) h⟩
theorem aKG(d:bJ):OP [.int .i64 (d.Handle),.int .i64 (d.aI)] d []:=(show OP (α:=Int×Int) _ (d.Handle,d.aI) _ from (QW (c1:=[.int .i64 (d.Handle)]) (c2:=[.int .i64 (d.aI)]) (A:=[]) (B:=[]) (AU rfl) (AU rfl) rfl))
theorem aKH{S:cC}{w:World}{s:Value}{l:List bJ}{i:Nat}{x:bJ}(h:aJ.rd S w [s] l)(hi:l[i]?=some x):bR w (HT s) (HP 2 i s) [.int .i64 (x.Handle),.int .i64 (x.aI)]:=by
  obtain⟨ec,h1,h2⟩:=ZA h hi
  rw [aDF h2] at h1;exact h1
structure aN where
  Rows:List bJ
  deriving DecidableEq,Inhabited
instance:aJ aN:=aJ.via (fun d=>(d.Rows))
instance:Fits aN:=Fits.via (fun d=>(d.Rows))
theorem Z5{S:cC}{w:World}{cs:List Value}{d:aN}(h:aJ.rd S w cs d):∃v0:Value,cs=[v0]∧aJ.rd S w [v0] d.Rows:=by
  obtain⟨u0,q0⟩:=HW h
  rw [q0] at h
  exact⟨u0,q0,h⟩
theorem Z6(d:aN){v0:Value}:OP [v0] d [eJ [v0] d.Rows]:=(show OP (α:=(List bJ)) _ (d.Rows) _ from aFR)
theorem _root_.Go.Gv.St.Z7{c:Ctx}{L:List Chunk}{R:List Fact}{w:World}{s:Value}{l:List aN}{i:Nat}{x:aN}(h:St c w L R)(j:Nat)(hj:R[j]?=some (uT [s] l))(hi:l[i]?=some x):∃v0:Value,bR w (HT s) (HP 1 i s) [v0]∧St c w L (R ++ [uT [v0] x.Rows]):=by
  obtain⟨S,hS,hk⟩:=h.aFI hj
  obtain⟨ec,h1,h2⟩:=ZA hS hi
  obtain⟨v0,q,q0⟩:=Z5 h2
  rw [q] at h1
  exact⟨v0,h1,hk _ (by intro f hf;simp only [List.mem_cons,List.not_mem_nil,or_false] at hf;subst hf;exact q0)⟩
structure aG where
  Mem:Mem
  aK:aK
  aP:List aN
  nZ:List Int
  deriving DecidableEq,Inhabited
instance:aJ aG:=aJ.via (fun d=>(d.Mem,d.aK,d.aP,d.nZ))
instance:Fits aG:=Fits.via (fun d=>(d.Mem,d.aK,d.aP,d.nZ))
structure GOp where
  Kind:Int
  Cell:Int
  aH1:Int
  Val:Int
  deriving DecidableEq,Inhabited
instance:aJ GOp:=aJ.via (fun d=>(d.Kind,d.Cell,d.aH1,d.Val))
instance:Fits GOp:=Fits.via (fun d=>(d.Kind,d.Cell,d.aH1,d.Val))
instance:Flat GOp:=⟨fun h=>Flat.own_of (α:=Int×Int×Int×Int) h,fun h=>Flat.no (α:=Int×Int×Int×Int) h⟩
structure Sub where
  Kind:Int
  A:Int
  Pc:Int
  E:Int
  Row:Int
  B:Int
  H:Int
  Out:Int
  Code:Int
  dV:Bool
  deriving DecidableEq,Inhabited
instance:aJ Sub:=aJ.via (fun d=>(d.Kind,d.A,d.Pc,d.E,d.Row,d.B,d.H,d.Out,d.Code,d.dV))
instance:Fits Sub:=Fits.via (fun d=>(d.Kind,d.A,d.Pc,d.E,d.Row,d.B,d.H,d.Out,d.Code,d.dV))
instance:Flat Sub:=⟨fun h=>Flat.own_of (α:=Int×Int×Int×Int×Int×Int×Int×Int×Int×Bool) h,fun h=>Flat.no (α:=Int×Int×Int×Int×Int×Int×Int×Int×Int×Bool) h⟩
structure MR where
  YB:Bool
  Op:GOp
  AD:Int
  Pc:Int
  Sub:Sub
  H:Int
  Old:Int
  Val:Int
  Code:Int
  deriving DecidableEq,Inhabited
instance:aJ MR:=aJ.via (fun d=>(d.YB,d.Op,d.AD,d.Pc,d.Sub,d.H,d.Old,d.Val,d.Code))
instance:Fits MR:=Fits.via (fun d=>(d.YB,d.Op,d.AD,d.Pc,d.Sub,d.H,d.Old,d.Val,d.Code))
instance:Flat MR:=⟨fun h=>Flat.own_of (α:=Bool×GOp×Int×Int×Sub×Int×Int×Int×Int) h,fun h=>Flat.no (α:=Bool×GOp×Int×Int×Sub×Int×Int×Int×Int) h⟩
structure Queue where
  MA:List GOp
  deriving DecidableEq,Inhabited
instance:aJ Queue:=aJ.via (fun d=>(d.MA))
instance:Fits Queue:=Fits.via (fun d=>(d.MA))
structure Ev where
  Kind:Int
  Who:Int
  AD:Int
  Cell:Int
  Handle:Int
  Val:Int
  Code:Int
  deriving DecidableEq,Inhabited
instance:aJ Ev:=aJ.via (fun d=>(d.Kind,d.Who,d.AD,d.Cell,d.Handle,d.Val,d.Code))
instance:Fits Ev:=Fits.via (fun d=>(d.Kind,d.Who,d.AD,d.Cell,d.Handle,d.Val,d.Code))
instance:Flat Ev:=⟨fun h=>Flat.own_of (α:=Int×Int×Int×Int×Int×Int×Int) h,fun h=>Flat.no (α:=Int×Int×Int×Int×Int×Int×Int) h⟩
structure uG where
  aG:aG
  Cells:List Int
  TH:List MR
  OB:List Queue
  Log:List Ev
  AD:Int
  deriving DecidableEq,Inhabited
instance:aJ uG:=aJ.via (fun d=>(d.aG,d.Cells,d.TH,d.OB,d.Log,d.AD))
instance:Fits uG:=Fits.via (fun d=>(d.aG,d.Cells,d.TH,d.OB,d.Log,d.AD))
structure Span where
  aKI:Int
  To:Int
  deriving DecidableEq,Inhabited
instance:aJ Span:=aJ.via (fun d=>(d.aKI,d.To))
instance:Fits Span:=Fits.via (fun d=>(d.aKI,d.To))
instance:Flat Span:=⟨fun h=>Flat.own_of (α:=Int×Int) h,fun h=>Flat.no (α:=Int×Int) h⟩
structure aM where
  b:List UInt8
  i:Int
  h:Int
  deriving DecidableEq,Inhabited
instance:aJ aM:=aJ.via (fun d=>(d.b,d.i,d.h))
instance:Fits aM:=Fits.via (fun d=>(d.b,d.i,d.h))
structure aH0 where
  OB:List Queue
  aLC:List Int
  deriving DecidableEq,Inhabited
instance:aJ aH0:=aJ.via (fun d=>(d.OB,d.aLC))
instance:Fits aH0:=Fits.via (fun d=>(d.OB,d.aLC))
end Go.Gv
end
noncomputable section
namespace Go.Gv
noncomputable section
def AZ(x1:Bool):Option Bool:=
  some x1
def bH(x low high:Int):Option Bool:=
  (if decide (low≤x) then AZ (decide (x≤high)) else AZ false)
def GU:Option Bool:=
  some true
def iL(x3:Int)(x5:Bool):Option (Step Int (Out Unit Bool)):=
  (if x5 then some (.stop (Out.ret false)) else some (.next (aW (x3+1))))
def nK(c:aK):Int→Option (Step Int (Out Unit Bool))
  | x3=>(if decide (x3 < 3) then (idx c.bM x3).bind fun x4=>(if !x4.On then (if !(decide (x4=(⟨false,0,false,0⟩:gQ))) then iL x3 true else (bH x4.aI 0 c.aI).bind fun x6=>(if !x6 then iL x3 true else (bH x4.Seen 0 2).bind fun x7=>iL x3 (!x7))) else (bH x4.aI 0 c.aI).bind fun x8=>(if !x8 then iL x3 true else (bH x4.Seen 0 2).bind fun x9=>iL x3 (!x9))) else some (.stop (Out.brk ())))
def zV:(Out Unit Bool)→Option Bool
  | .brk ()=>GU
  | .ret r=>some r
def kC(c:aK)(x1:Bool):Option Bool:=
  (if x1 then some false else (loop (nK c) 0).bind (zV))
def kQ(c:aK):Option Bool:=
  (bH c.aI 0 100000).bind fun x10=>(if !x10 then kC c true else kC c ((c.bM.length:Int) != 3))
def GV(b:List Int):Option Bool:=
  some (decide ((b.length:Int)≤1000))
def kD(b:List Int):Int→Option (Step Int (Out Unit Bool))
  | x2=>(if decide (x2 < (b.length:Int)) then (idx b x2).bind fun x3=>(bH x3 0 255).bind fun x4=>(if !x4 then some (.stop (Out.ret false)) else some (.next (aW (x2+1)))) else some (.stop (Out.brk ())))
def zW(b:List Int):(Out Unit Bool)→Option Bool
  | .brk ()=>GV b
  | .ret r=>some r
def A0(b:List Int):Option Bool:=
  (loop (kD b) 0).bind (zW b)
def O9:Option Bool:=
  some true
def kE(h:aB):Int→Option (Step Int (Out Unit Bool))
  | x3=>(if decide (x3 < 6) then (idx h.Class x3).bind fun x4=>(bH x4 (-1) 2).bind fun x5=>(if !x5 then some (.stop (Out.ret false)) else some (.next (aW (x3+1)))) else some (.stop (Out.brk ())))
def PA:(Out Unit Bool)→Option Bool
  | .brk ()=>O9
  | .ret r=>some r
def nL(h:aB)(x1:Bool):Option Bool:=
  (if x1 then some false else (loop (kE h) 0).bind (PA))
def uX(h:aB):Option Bool:=
  (if (h.Bytes.length:Int) != 384 then nL h true else (if (h.Class.length:Int) != 6 then nL h true else (A0 h.Bytes).bind fun x6=>nL h (!x6)))
def SJ(x5:Int):Option Int:=
  some x5
def o5(b:List Int)(at_ width:Int):(Int×Int)→Option (Step (Int×Int) Int)
  | (x3,x4)=>(if decide (x4 < width) then (idx b (aW (at_+x4))).bind fun x6=>some (.next (aW ((aW (x3 * 256))+x6),aW (x4+1))) else some (.stop (x3)))
def SK:Int→Option Int
  | x5=>SJ x5
def zC(b:List Int)(at_ width:Int):Option Int:=
  (loop (o5 b at_ width) (0,0)).bind (SK)
def o6(c:Int):Option Int:=
  (if c == 0 then some 8 else (if c == 1 then some 16 else (if c == 2 then some 40 else some 0)))
def rP(c:Int):Option Int:=
  (bH c 0 2).bind fun x1=>(if !x1 then some 0 else (o6 c).bind fun x2=>some (aW (4+x2)))
def i4(c:Int):Option Int:=
  (bH c 0 2).bind fun x1=>(if !x1 then some 0 else (rP c).bind fun x2=>need (x2≠0) (some (aW (Int.tdiv 56 x2))))
def uH(slot:Int):Option Int:=
  (bH slot 0 23).bind fun x1=>(if !x1 then some (-1) else some (aW (Int.tdiv slot 4)))
def qN(slot:Int):Option Int:=
  (bH slot 0 23).bind fun x1=>(if !x1 then some (-1) else some (Int.tmod slot 4))
def xT(slot c:Int)(x1:Bool):Option Int:=
  (if x1 then some (-1) else (uH slot).bind fun x2=>(qN slot).bind fun x3=>(rP c).bind fun x4=>some (aW ((aW ((aW (x2 * 64))+8))+(aW (x3 * x4)))))
def mY(slot c:Int):Option Int:=
  (uH slot).bind fun x5=>(if decide (x5 < 0) then xT slot c true else (qN slot).bind fun x6=>(i4 c).bind fun x7=>(bH x6 0 (aW (x7 - 1))).bind fun x8=>xT slot c (!x8))
def o7(page index:Int)(x1:Bool):Option Int:=
  (if x1 then some (-1) else some (aW ((aW (page * 4))+index)))
def mV(page index:Int):Option Int:=
  (bH page 0 5).bind fun x2=>(if !x2 then o7 page index true else (bH index 0 3).bind fun x3=>o7 page index (!x3))
def SL:Option Bool:=
  some true
def lV(h:aB)(p:Int):Int→Option (Step Int (Out Unit Bool))
  | x3=>(if decide (x3 < (aW ((aW (p * 64))+64))) then (idx h.Bytes x3).bind fun x4=>(if x4 != 0 then some (.stop (Out.ret false)) else some (.next (aW (x3+1)))) else some (.stop (Out.brk ())))
def SM:(Out Unit Bool)→Option Bool
  | .brk ()=>SL
  | .ret r=>some r
def SN:Option Bool:=
  some true
def lW(h:aB)(p x1:Int):Int→Option (Step Int (Out Unit Bool))
  | x9=>(i4 x1).bind fun x10=>(if decide (x9 < x10) then (mV p x9).bind fun x11=>(mY x11 x1).bind fun x12=>(zC h.Bytes x12 4).bind fun x13=>(bH x13 1 7).bind fun x14=>(if !x14 then some (.stop (Out.ret false)) else some (.next (aW (x9+1)))) else some (.stop (Out.brk ())))
def SO:(Out Unit Bool)→Option Bool
  | .brk ()=>SN
  | .ret r=>some r
def H6(h:aB)(p x1:Int):Option Bool:=
  (loop (lW h p x1) 0).bind (SO)
def lX(h:aB)(p:Int):Int→Option (Step Int (Out Unit Bool))
  | x7=>(if decide (x7 < (aW ((aW (p * 64))+8))) then (idx h.Bytes x7).bind fun x15=>(if x15 != 0 then some (.stop (Out.ret false)) else some (.next (aW (x7+1)))) else some (.stop (Out.brk ())))
def H7(h:aB)(p x1:Int):(Out Unit Bool)→Option Bool
  | .brk ()=>H6 h p x1
  | .ret r=>some r
def hJ(h:aB)(p x1:Int)(x5:Bool):Option Bool:=
  (if x5 then some false else (loop (lX h p) (aW ((aW (p * 64))+3))).bind (H7 h p x1))
def DE(h:aB)(p:Int):Option Bool:=
  (idx h.Class p).bind fun x1=>(if decide (x1 < 0) then (loop (lV h p) (aW (p * 64))).bind (SM) else (idx h.Bytes (aW (p * 64))).bind fun x16=>(if x16 != 171 then hJ h p x1 true else (idx h.Bytes (aW ((aW (p * 64))+1))).bind fun x17=>(if x17 != x1 then hJ h p x1 true else (idx h.Bytes (aW ((aW (p * 64))+2))).bind fun x18=>(i4 x1).bind fun x19=>hJ h p x1 (x18 != x19))))
def SP:Option Bool:=
  some true
def o8(h:aB):Int→Option (Step Int (Out Unit Bool))
  | x3=>(if decide (x3 < 6) then (DE h x3).bind fun x4=>(if !x4 then some (.stop (Out.ret false)) else some (.next (aW (x3+1)))) else some (.stop (Out.brk ())))
def SQ:(Out Unit Bool)→Option Bool
  | .brk ()=>SP
  | .ret r=>some r
def uI(h:aB):Option Bool:=
  (uX h).bind fun x1=>(if !x1 then some false else (loop (o8 h) 0).bind (SQ))
def VA:Option Bool:=
  some false
def n9(l:List Int)(x:Int):Int→Option (Step Int (Out Unit Bool))
  | x2=>(if decide (x2 < (l.length:Int)) then (idx l x2).bind fun x3=>(if x3 == x then some (.stop (Out.ret true)) else some (.next (aW (x2+1)))) else some (.stop (Out.brk ())))
def VB:(Out Unit Bool)→Option Bool
  | .brk ()=>VA
  | .ret r=>some r
def tU(l:List Int)(x:Int):Option Bool:=
  (loop (n9 l x) 0).bind (VB)
def VC(x10:List Int):Option (List Int):=
  some x10
def rQ(l:aA):((List Int)×Int)→Option (Step ((List Int)×Int) (List Int))
  | (x8,x9)=>(if decide (x9 < (l.bD.length:Int)) then (idx l.bD x9).bind fun x11=>need (x8.length+x11.aL.length≤1073741824) (some (.next (x8++x11.aL,aW (x9+1)))) else some (.stop (x8)))
def VD:(List Int)→Option (List Int)
  | x10=>VC x10
def KG(l:aA)(x5:List Int):Option (List Int):=
  (loop (rQ l) (x5,0)).bind (VD)
def rR(l:aA):((List Int)×Int)→Option (Step ((List Int)×Int) (List Int))
  | (x3,x4)=>(if decide (x4 < (l.Global.length:Int)) then (idx l.Global x4).bind fun x12=>need (x3.length+x12.aL.length≤1073741824) (some (.next (x3++x12.aL,aW (x4+1)))) else some (.stop (x3)))
def KH(l:aA):(List Int)→Option (List Int)
  | x5=>KG l x5
def xG(l:aA):Option (List Int):=
  (loop (rR l) (([]:List Int),0)).bind (KH l)
def PB:Option Bool:=
  some true
def sP(x6:Int)(x7:Bool):Option (Step Int (Out Unit Bool)):=
  (if x7 then some (.stop (Out.ret false)) else some (.next (aW (x6+1))))
def kG(x4:(List Int)):Int→Option (Step Int (Out Unit Bool))
  | x6=>(if decide (x6 < (x4.length:Int)) then (idx x4 x6).bind fun x8=>(bH x8 0 23).bind fun x9=>(if !x9 then sP x6 true else need (0≤(x6:Int)∧(x6:Int)≤(x4.length:Int)) ((idx x4 x6).bind fun x10=>(tU ((x4.take x6.toNat).drop 0) x10).bind fun x11=>sP x6 x11)) else some (.stop (Out.brk ())))
def PC:(Out Unit Bool)→Option Bool
  | .brk ()=>PB
  | .ret r=>some r
def GW(l:aA):Option Bool:=
  (xG l).bind fun x4=>(loop (kG x4) 0).bind (PC)
def kH(l:aA):Int→Option (Step Int (Out Unit Bool))
  | x3=>(if decide (x3 < (l.bD.length:Int)) then (idx l.bD x3).bind fun x12=>(if decide (2 < (x12.aL.length:Int)) then some (.stop (Out.ret false)) else some (.next (aW (x3+1)))) else some (.stop (Out.brk ())))
def GX(l:aA):(Out Unit Bool)→Option Bool
  | .brk ()=>GW l
  | .ret r=>some r
def sQ(l:aA)(x1:Bool):Option Bool:=
  (if x1 then some false else (loop (kH l) 0).bind (GX l))
def mZ(l:aA):Option Bool:=
  (if (l.Global.length:Int) != 3 then sQ l true else sQ l ((l.bD.length:Int) != 9))
def nM(h:aB)(x1:Int)(x2:Bool):Option Int:=
  (if x2 then some (-1) else (idx h.Class x1).bind fun x3=>some x3)
def gR(h:aB)(slot:Int):Option Int:=
  (uH slot).bind fun x1=>(if decide (x1 < 0) then nM h x1 true else (idx h.Class x1).bind fun x4=>(if decide (x4 < 0) then nM h x1 true else (idx h.Class x1).bind fun x5=>(qN slot).bind fun x6=>(i4 x5).bind fun x7=>nM h x1 (decide (x7≤x6))))
def o9(h:aB)(slot:Int):Option Int:=
  (gR h slot).bind fun x1=>(mY slot x1).bind fun x2=>(zC h.Bytes x2 4).bind fun x3=>some x3
def NZ:Option Bool:=
  some true
def qO(x2:Int)(x3:Bool):Option (Step Int (Out Unit Bool)):=
  (if x3 then some (.stop (Out.ret false)) else some (.next (aW (x2+1))))
def jJ(h:aB)(l:List Int)(c:Int):Int→Option (Step Int (Out Unit Bool))
  | x2=>(if decide (x2 < (l.length:Int)) then (idx l x2).bind fun x4=>(gR h x4).bind fun x5=>(if x5 != c then qO x2 true else (idx l x2).bind fun x6=>(o9 h x6).bind fun x7=>qO x2 (decide (6 < x7))) else some (.stop (Out.brk ())))
def N0:(Out Unit Bool)→Option Bool
  | .brk ()=>NZ
  | .ret r=>some r
def rS(h:aB)(l:List Int)(c:Int):Option Bool:=
  (loop (jJ h l c) 0).bind (N0)
def oA(w_ c:Int)(x1:Bool):Option Int:=
  (if x1 then some (-1) else some (aW ((aW (w_ * 3))+c)))
def jO(w_ c:Int):Option Int:=
  (bH w_ 0 2).bind fun x2=>(if !x2 then oA w_ c true else (bH c 0 2).bind fun x3=>oA w_ c (!x3))
def VE:Option Bool:=
  some true
def KI(x3:Int):Option (Step Int (Out Unit Bool)):=
  some (.next (aW (x3+1)))
def rT(m:Mem)(x3:Int):Int→Option (Step Int (Out Unit Bool))
  | x7=>(if decide (x7 < 3) then (jO x7 x3).bind fun x8=>(idx m.aA.bD x8).bind fun x9=>(rS m.aB x9.aL x3).bind fun x10=>(if !x10 then some (.stop (Out.ret false)) else some (.next (aW (x7+1)))) else some (.stop (Out.brk ())))
def KJ(x3:Int):(Out Unit Bool)→Option (Step Int (Out Unit Bool))
  | .brk ()=>KI x3
  | .ret r=>some (.stop (Out.ret r))
def rU(m:Mem):Int→Option (Step Int (Out Unit Bool))
  | x3=>(if decide (x3 < 3) then (idx m.aA.Global x3).bind fun x4=>(rS m.aB x4.aL x3).bind fun x5=>(if !x5 then some (.stop (Out.ret false)) else (loop (rT m x3) 0).bind (KJ x3)) else some (.stop (Out.brk ())))
def VF:(Out Unit Bool)→Option Bool
  | .brk ()=>VE
  | .ret r=>some r
def xU(m:Mem)(x1:Bool):Option Bool:=
  (if x1 then some false else (loop (rU m) 0).bind (VF))
def m3(m:Mem):Option Bool:=
  (uI m.aB).bind fun x11=>(if !x11 then xU m true else (mZ m.aA).bind fun x12=>xU m (!x12))
def SR(x5:List bJ):Option (List bJ):=
  some x5
def pA(l:List aN):((List bJ)×Int)→Option (Step ((List bJ)×Int) (List bJ))
  | (x3,x4)=>(if decide (x4 < (l.length:Int)) then (idx l x4).bind fun x6=>need (x3.length+x6.Rows.length≤1073741824) (some (.next (x3++x6.Rows,aW (x4+1)))) else some (.stop (x3)))
def SS:(List bJ)→Option (List bJ)
  | x5=>SR x5
def uJ(l:List aN):Option (List bJ):=
  (loop (pA l) (([]:List bJ),0)).bind (SS)
def qP(x1:Bool):Option Bool:=
  some x1
def gT(h:Int):Option Bool:=
  (bH h 32 223).bind fun x2=>(if x2 then qP (decide ((Int.tmod h 32) < 24)) else qP false)
def d5(h:Int):Option Int:=
  (gT h).bind fun x1=>(if !x1 then some (-1) else some (Int.tmod h 32))
def PD:Option Bool:=
  some true
def nN(x5:List Int)(x6 x8:Int)(x9:Bool):Option (Step ((List Int)×Int) (Out Unit Bool)):=
  (if x9 then some (.stop (Out.ret false)) else need (x5.length+([x8]).length≤1073741824) (some (.next (x5++([x8]),aW (x6+1)))))
def nO(x1:(List bJ)):((List Int)×Int)→Option (Step ((List Int)×Int) (Out Unit Bool))
  | (x5,x6)=>(if decide (x6 < (x1.length:Int)) then (idx x1 x6).bind fun x7=>(d5 x7.Handle).bind fun x8=>(if decide (x8 < 0) then nN x5 x6 x8 true else (bH x7.aI 0 100000).bind fun x10=>(if !x10 then nN x5 x6 x8 true else (tU x5 x8).bind fun x11=>nN x5 x6 x8 x11)) else some (.stop (Out.brk ())))
def PE:(Out Unit Bool)→Option Bool
  | .brk ()=>PD
  | .ret r=>some r
def sS(x1:(List bJ))(x2:Bool):Option Bool:=
  (if x2 then some false else (loop (nO x1) (([]:List Int),0)).bind (PE))
def qQ(l:List aN):Option Bool:=
  (uJ l).bind fun x1=>(if (l.length:Int) != 3 then sS x1 true else sS x1 (decide (24 < (x1.length:Int))))
def KK(z:List Int):Option Bool:=
  some ((z.length:Int) == 3)
def xV(x2:Int)(x3:Bool):Option (Step Int (Out Unit Bool)):=
  (if x3 then some (.stop (Out.ret false)) else some (.next (aW (x2+1))))
def rV(z:List Int):Int→Option (Step Int (Out Unit Bool))
  | x2=>(if decide (x2 < (z.length:Int)) then (idx z x2).bind fun x4=>(if x4 != 0 then (idx z x2).bind fun x5=>(gT x5).bind fun x6=>xV x2 (!x6) else xV x2 false) else some (.stop (Out.brk ())))
def KL(z:List Int):(Out Unit Bool)→Option Bool
  | .brk ()=>KK z
  | .ret r=>some r
def tV(z:List Int):Option Bool:=
  (loop (rV z) 0).bind (KL z)
def DF(l:aA)(slot:Int):Option Bool:=
  (xG l).bind fun x1=>(tU x1 slot).bind fun x2=>some x2
def uY(m:Mem)(slot:Int):Option Int:=
  (gR m.aB slot).bind fun x1=>(if decide (x1 < 0) then some 0 else (DF m.aA slot).bind fun x2=>(if x2 then some 1 else (o9 m.aB slot).bind fun x3=>(if decide (6 < x3) then some 2 else some 3)))
def uZ(h:Int):Option Int:=
  (gT h).bind fun x1=>(if !x1 then some 0 else some (aW (Int.tdiv h 32)))
def nP(x1:Bool):Option Bool:=
  some x1
def kR(m:Mem)(h:Int):Option Bool:=
  (gT h).bind fun x2=>(if x2 then (d5 h).bind fun x3=>(uY m x3).bind fun x4=>(if x4 == 3 then (d5 h).bind fun x5=>(o9 m.aB x5).bind fun x6=>(uZ h).bind fun x7=>nP (x6 == x7) else nP false) else nP false)
def SU:Option Bool:=
  some true
def vA(x4:Int)(x5:Bool):Option (Step Int (Out Unit Bool)):=
  (if x5 then some (.stop (Out.ret false)) else some (.next (aW (x4+1))))
def pB(b:aG)(x2:(List bJ)):Int→Option (Step Int (Out Unit Bool))
  | x4=>(if decide (x4 < (x2.length:Int)) then (idx x2 x4).bind fun x6=>(kR b.Mem x6.Handle).bind fun x7=>(if !x7 then vA x4 true else vA x4 (decide (b.aK.aI < x6.aI))) else some (.stop (Out.brk ())))
def SW:(Out Unit Bool)→Option Bool
  | .brk ()=>SU
  | .ret r=>some r
def lY(b:aG)(x1:Bool):Option Bool:=
  (if x1 then some false else (uJ b.aP).bind fun x2=>(loop (pB b x2) 0).bind (SW))
def pC(b:aG):Option Bool:=
  (m3 b.Mem).bind fun x8=>(if !x8 then lY b true else (kQ b.aK).bind fun x9=>(if !x9 then lY b true else (qQ b.aP).bind fun x10=>(if !x10 then lY b true else (tV b.nZ).bind fun x11=>lY b (!x11))))
def kS(b:List Int):Option (List Int):=
  need (([]:List Int).length+b.length≤1073741824) (some (([]:List Int)++b))
def uK(h:aB):Option aB:=
  (kS h.Bytes).bind fun x1=>(kS h.Class).bind fun x2=>some (⟨x1,x2⟩:aB)
def SX(x5:List aE):Option (List aE):=
  some x5
def BW(l:List aE):((List aE)×Int)→Option (Step ((List aE)×Int) (List aE))
  | (x3,x4)=>(if decide (x4 < (l.length:Int)) then (idx l x4).bind fun x6=>(kS x6.aL).bind fun x7=>need (x3.length+([(⟨x7⟩:aE)]).length≤1073741824) (some (.next (x3++([(⟨x7⟩:aE)]),aW (x4+1)))) else some (.stop (x3)))
def SY:(List aE)→Option (List aE)
  | x5=>SX x5
def zD(l:List aE):Option (List aE):=
  (loop (BW l) (([]:List aE),0)).bind (SY)
def pD(l:aA):Option aA:=
  (zD l.Global).bind fun x1=>(zD l.bD).bind fun x2=>some (⟨x1,x2⟩:aA)
def pE(m:Mem):Option Mem:=
  (uK m.aB).bind fun x1=>(pD m.aA).bind fun x2=>some (⟨x1,x2⟩:Mem)
def kT(c:aK):Option aK:=
  need (([]:List gQ).length+c.bM.length≤1073741824) (some (⟨c.aI,([]:List gQ)++c.bM⟩:aK))
def PF(x5:List aN):Option (List aN):=
  some x5
def zX(l:List aN):((List aN)×Int)→Option (Step ((List aN)×Int) (List aN))
  | (x3,x4)=>(if decide (x4 < (l.length:Int)) then (idx l x4).bind fun x6=>need (([]:List bJ).length+x6.Rows.length≤1073741824) (need (x3.length+([(⟨([]:List bJ)++x6.Rows⟩:aN)]).length≤1073741824) (some (.next (x3++([(⟨([]:List bJ)++x6.Rows⟩:aN)]),aW (x4+1))))) else some (.stop (x3)))
def PG:(List aN)→Option (List aN)
  | x5=>PF x5
def qR(l:List aN):Option (List aN):=
  (loop (zX l) (([]:List aN),0)).bind (PG)
def A1(b:aG):Option aG:=
  (pE b.Mem).bind fun x1=>(kT b.aK).bind fun x2=>(qR b.aP).bind fun x3=>(kS b.nZ).bind fun x4=>some (⟨x1,x2,x3,x4⟩:aG)
def kU(kind a_:Int):Option Sub:=
  some (⟨kind,a_,0,0,0,0,0,0,0,false⟩:Sub)
def PH:Option Int:=
  some (-1)
def dN(size:Int):Int→Option (Step Int (Out Unit Int))
  | x2=>(if decide (x2 < 3) then (o6 x2).bind fun x3=>(bH size 1 x3).bind fun x4=>(if x4 then some (.stop (Out.ret x2)) else some (.next (aW (x2+1)))) else some (.stop (Out.brk ())))
def PI:(Out Unit Int)→Option Int
  | .brk ()=>PH
  | .ret r=>some r
def m4(size:Int):Option Int:=
  (loop (dN size) 0).bind (PI)
def PJ(x7:List Int):Option (List Int):=
  some x7
def nQ(at_:Int):((List Int)×Int×Int)→Option (Step ((List Int)×Int×Int) (List Int))
  | (x4,x5,x6)=>(if decide (0≤x6) then (idx x4 (aW (at_+x6))).bind fun x8=>some (.next (x4.set ((aW (at_+x6)).toNat) (Int.tmod x5 256),aW (Int.tdiv x5 256),aW (x6 - 1))) else some (.stop (x4)))
def PK:(List Int)→Option (List Int)
  | x7=>PJ x7
def gU(b:List Int)(at_ width n:Int):Option (List Int):=
  (loop (nQ at_) (b,n,aW (width - 1))).bind (PK)
def PL(h:aB):Option (aB×(List Int)):=
  some (h,([]:List Int))
def sT(x2:Int):Option (Step Int (Out Unit (aB×(List Int)))):=
  some (.next (aW (x2+1)))
def PM(h:aB)(c x2:Int)(x14 x15:List Int):Option (Step Int (Out Unit (aB×(List Int)))):=
  some (.stop (Out.ret ((⟨x15,h.Class.set x2.toNat c⟩:aB),x14)))
def zY(x2:Int)(x11:List Int)(x12:Int)(x17:List Int):Option (Step ((List Int)×Int×(List Int)) ((List Int)×(List Int))):=
  (mV x2 x12).bind fun x18=>need (x11.length+([x18]).length≤1073741824) (some (.next (x11++([x18]),aW (x12+1),x17)))
def sU(c x2:Int):((List Int)×Int×(List Int))→Option (Step ((List Int)×Int×(List Int)) ((List Int)×(List Int)))
  | (x11,x12,x13)=>(i4 c).bind fun x16=>(if decide (x12 < x16) then (mV x2 x12).bind fun x19=>(mY x19 c).bind fun x20=>(gU x13 x20 4 1).bind fun x21=>zY x2 x11 x12 x21 else some (.stop ((x11,x13))))
def PN(h:aB)(c x2:Int):((List Int)×(List Int))→Option (Step Int (Out Unit (aB×(List Int))))
  | (x14,x15)=>PM h c x2 x14 x15
def dI(h:aB)(c:Int):Int→Option (Step Int (Out Unit (aB×(List Int))))
  | x2=>(if decide (x2 < 6) then (idx h.Class x2).bind fun x3=>(if x3 != (-1) then sT x2 else (idx h.Bytes (aW (x2 * 64))).bind fun x4=>(idx (h.Bytes.set ((aW (x2 * 64)).toNat) 171) (aW ((aW (x2 * 64))+1))).bind fun x5=>(i4 c).bind fun x6=>(idx ((h.Bytes.set ((aW (x2 * 64)).toNat) 171).set ((aW ((aW (x2 * 64))+1)).toNat) c) (aW ((aW (x2 * 64))+2))).bind fun x7=>(loop (sU c x2) (([]:List Int),0,((h.Bytes.set ((aW (x2 * 64)).toNat) 171).set ((aW ((aW (x2 * 64))+1)).toNat) c).set ((aW ((aW (x2 * 64))+2)).toNat) x6)).bind (PN h c x2)) else some (.stop (Out.brk ())))
def PO(h:aB):(Out Unit (aB×(List Int)))→Option (aB×(List Int))
  | .brk ()=>PL h
  | .ret r=>some r
def i5(h:aB)(c:Int):Option (aB×(List Int)):=
  (loop (dI h c) 0).bind (PO h)
def sV(m:Mem)(c:Int)(x1:aB×(List Int))(x2:aE)(x3:Int):Option (Mem×Int):=
  some ((⟨x1.1,(⟨m.aA.Global.set c.toNat (⟨x2.aL++((x1.2.take x1.2.length).drop ((1:Int).toNat))⟩:aE),m.aA.bD⟩:aA)⟩:Mem),x3)
def m5(m:Mem)(c:Int):Option (Mem×Int):=
  (i5 m.aB c).bind fun x1=>(if (x1.2.length:Int) == 0 then some ((⟨x1.1,m.aA⟩:Mem),(-1)) else (idx m.aA.Global c).bind fun x2=>need (0≤(1:Int)∧(1:Int)≤(x1.2.length:Int)) (need (x2.aL.length+((x1.2.take x1.2.length).drop ((1:Int).toNat)).length≤1073741824) ((idx x1.2 0).bind fun x4=>sV m c x1 x2 x4)))
def xW(s:aE)(x1:Int):Option (aE×Int):=
  some ((⟨(s.aL.take ((aW ((s.aL.length:Int) - 1)).toNat)).drop 0⟩:aE),x1)
def iM(s:aE):Option (aE×Int):=
  (if (s.aL.length:Int) == 0 then some (s,(-1)) else need (0≤(aW ((s.aL.length:Int) - 1):Int)∧(aW ((s.aL.length:Int) - 1):Int)≤(s.aL.length:Int)) ((idx s.aL (aW ((s.aL.length:Int) - 1))).bind fun x2=>xW s x2))
def bA(s:Sub)(code:Int):Option Sub:=
  some ({s with Code:=code,dV:=true}:Sub)
def gN(slot gen:Int)(x1:Bool):Option Int:=
  (if x1 then some 0 else some (aW ((aW (gen * 32))+slot)))
def jC(slot gen:Int):Option Int:=
  (bH slot 0 23).bind fun x2=>(if !x2 then gN slot gen true else (bH gen 1 6).bind fun x3=>gN slot gen (!x3))
def lD(m:Mem)(slot:Int):Option Int:=
  (o9 m.aB slot).bind fun x1=>(jC slot x1).bind fun x2=>some x2
def A2(b:aG)(s:Sub)(slot pc:Int):Option Sub:=
  (if decide (0≤slot) then (lD b.Mem slot).bind fun x1=>(bA ({s with Out:=x1}:Sub) 0).bind fun x2=>some x2 else some ({s with Pc:=pc}:Sub))
def lZ(s:Sub)(x3:Int)(x5:Bool)(x6:aG):Option (aG×Sub):=
  (if x5 then (bA s 3).bind fun x7=>some (x6,x7) else (A2 x6 s x3 (aW (s.Pc+1))).bind fun x8=>some (x6,x8))
def eM(s:Sub)(x3:Int)(x4:aG):Option (aG×Sub):=
  (if decide (x3 < 0) then lZ s x3 (s.Pc == 3) x4 else lZ s x3 false x4)
def l5(b:aG)(s:Sub)(x1:Int)(x12:Bool):Option (aG×Sub):=
  (if x12 then (idx b.Mem.aA.Global x1).bind fun x13=>(iM x13).bind fun x14=>eM s x14.2 ({b with Mem:=(⟨b.Mem.aB,(⟨b.Mem.aA.Global.set x1.toNat x14.1,b.Mem.aA.bD⟩:aA)⟩:Mem)}:aG) else (if s.Pc == 2 then (m5 b.Mem x1).bind fun x15=>eM s x15.2 ({b with Mem:=x15.1}:aG) else (bA s 1).bind fun x16=>some (b,x16)))
def oC(b:aG)(w_:Int)(s:Sub):Option (aG×Sub):=
  (m4 s.A).bind fun x1=>(if decide (x1 < 0) then (bA s 2).bind fun x2=>some (b,x2) else (if s.Pc == 0 then (jO w_ x1).bind fun x9=>(idx b.Mem.aA.bD x9).bind fun x10=>(iM x10).bind fun x11=>eM s x11.2 ({b with Mem:=(⟨b.Mem.aB,(⟨b.Mem.aA.Global,b.Mem.aA.bD.set x9.toNat x11.1⟩:aA)⟩:Mem)}:aG) else (if s.Pc == 1 then l5 b s x1 true else l5 b s x1 (s.Pc == 3))))
def PQ:Option Bool:=
  some false
def nR(x3:Int)(x4:Bool):Option (Step Int (Out Unit Bool)):=
  (if x4 then some (.stop (Out.ret true)) else some (.next (aW (x3+1))))
def kI(slot:Int)(x1:(List bJ)):Int→Option (Step Int (Out Unit Bool))
  | x3=>(if decide (x3 < (x1.length:Int)) then (idx x1 x3).bind fun x5=>(gT x5.Handle).bind fun x6=>(if x6 then (d5 x5.Handle).bind fun x7=>nR x3 (x7 == slot) else nR x3 false) else some (.stop (Out.brk ())))
def PR:(Out Unit Bool)→Option Bool
  | .brk ()=>PQ
  | .ret r=>some r
def vB(l:List aN)(slot:Int):Option Bool:=
  (uJ l).bind fun x1=>(loop (kI slot x1) 0).bind (PR)
def oS(b:aG)(s:Sub)(x5:List aN):Option (aG×Sub):=
  (bA s 0).bind fun x6=>some (({b with aP:=x5}:aG),x6)
def kV(b:aG)(w_:Int)(s:Sub)(x3:Bool):Option (aG×Sub):=
  (if x3 then (bA s 4).bind fun x4=>some (b,x4) else (idx b.aP w_).bind fun x7=>need (x7.Rows.length+([(⟨s.A,s.E⟩:bJ)]).length≤1073741824)<|oS b s (b.aP.set w_.toNat (⟨x7.Rows++([(⟨s.A,s.E⟩:bJ)])⟩:aN)))
def l6(b:aG)(w_:Int)(s:Sub):Option (aG×Sub):=
  (if s.Pc == 0 then some (b,({s with Pc:=1,E:=b.aK.aI}:Sub)) else (if s.Pc == 1 then (bH s.E 0 b.aK.aI).bind fun x1=>(if !x1 then (bA s 1).bind fun x2=>some (b,x2) else (kR b.Mem s.A).bind fun x8=>(if !x8 then kV b w_ s true else (d5 s.A).bind fun x9=>(vB b.aP x9).bind fun x10=>kV b w_ s x10)) else (bA s 1).bind fun x11=>some (b,x11)))
def jP(w_:Int)(x1:aK)(x3:gQ)(x4:Bool):Option (aK×Bool):=
  (if x4 then some (x1,true) else (if x3.Seen == 2 then (idx x1.bM w_).bind fun x5=>some ((⟨x1.aI,x1.bM.set w_.toNat ({x5 with eR:=true,Seen:=0}:gQ)⟩:aK),true) else (idx x1.bM w_).bind fun x6=>some ((⟨x1.aI,x1.bM.set w_.toNat ({x6 with Seen:=aW (x3.Seen+1)}:gQ)⟩:aK),false)))
def pG(c:aK)(w_ e_:Int)(x1:aK)(x2:Bool):Option (aK×Bool):=
  (if x2 then some (x1,false) else (idx c.bM w_).bind fun x3=>(if !x3.On then jP w_ x1 x3 true else (if x3.eR then jP w_ x1 x3 true else jP w_ x1 x3 (x3.aI == e_))))
def pH(c:aK)(w_ e_:Int):Option (aK×Bool):=
  (kT c).bind fun x1=>(kQ c).bind fun x7=>(if !x7 then pG c w_ e_ x1 true else (bH w_ 0 2).bind fun x8=>pG c w_ e_ x1 (!x8))
def qS(e_:Int)(x1:aK)(x2:Bool):Option (aK×Bool):=
  (if x2 then some (x1,false) else some ((⟨aW (e_+1),x1.bM⟩:aK),true))
def xH(c:aK)(e_:Int):Option (aK×Bool):=
  (kT c).bind fun x1=>(kQ c).bind fun x3=>(if !x3 then qS e_ x1 true else (if c.aI != e_ then qS e_ x1 true else qS e_ x1 (e_ == 100000)))
def jQ(b:aG)(s:Sub)(x3:aK×Bool)(x5:Int):Option (aG×Sub):=
  some (({b with aK:=x3.1}:aG),({s with Pc:=x5,B:=aW (s.B+1)}:Sub))
def jR(b:aG)(s:Sub)(x6:aK×Bool)(x7:Int):Option (aG×Sub):=
  (bA ({s with Out:=x7}:Sub) 0).bind fun x8=>some (({b with aK:=x6.1}:aG),x8)
def kJ(b:aG)(s:Sub):Option (aG×Sub):=
  (if s.Pc == 0 then some (b,({s with Pc:=1,E:=b.aK.aI,B:=0}:Sub)) else (if s.Pc == 1 then (bH s.B 0 2).bind fun x1=>(if !x1 then (bA s 1).bind fun x2=>some (b,x2) else (pH b.aK s.B s.E).bind fun x3=>(if !x3.2 then (bA s 8).bind fun x4=>some (({b with aK:=x3.1}:aG),x4) else (if (aW (s.B+1)) == 3 then jQ b s x3 2 else jQ b s x3 s.Pc))) else (if s.Pc == 2 then (xH b.aK s.E).bind fun x6=>(if x6.2 then jR b s x6 1 else jR b s x6 s.Out) else (bA s 1).bind fun x9=>some (b,x9))))
def vC(x1:Bool):Option Bool:=
  some x1
def qT(r_:bJ)(e_:Int):Option Bool:=
  (if decide (2≤e_) then vC (decide (r_.aI≤(aW (e_ - 2)))) else vC false)
def PT:Option Int:=
  some (-1)
def cX(l:List bJ)(e_:Int):Int→Option (Step Int (Out Unit Int))
  | x2=>(if decide (x2 < (l.length:Int)) then (idx l x2).bind fun x3=>(qT x3 e_).bind fun x4=>(if x4 then some (.stop (Out.ret x2)) else some (.next (aW (x2+1)))) else some (.stop (Out.brk ())))
def PU:(Out Unit Int)→Option Int
  | .brk ()=>PT
  | .ret r=>some r
def m6(l:List bJ)(from_ e_:Int):Option Int:=
  (loop (cX l e_) (if 0 < from_ then from_ else 0)).bind (PU)
def pI(x2 x3:List aE):Option aA:=
  some (⟨x2,x3⟩:aA)
def vD(x:aA)(slot x1:Int)(x4:aE):Option aA:=
  pI x.Global (x.bD.set x1.toNat (⟨x4.aL++([slot])⟩:aE))
def vF(x:aA)(x5:List aE):Option aA:=
  pI x5 x.bD
def uL(x:aA)(w_ c slot:Int):Option aA:=
  (jO w_ c).bind fun x1=>(idx x.bD x1).bind fun x4=>(if decide ((x4.aL.length:Int) < 2) then need (x4.aL.length+([slot]).length≤1073741824)<|vD x slot x1 x4 else (idx x.Global c).bind fun x6=>need (x6.aL.length+([slot]).length≤1073741824)<|vF x (x.Global.set c.toNat (⟨x6.aL++([slot])⟩:aE)))
def vG(x:Mem)(x3:List Int)(x4 x5:List aE):Option Mem:=
  some (⟨(⟨x3,x.aB.Class⟩:aB),(⟨x4,x5⟩:aA)⟩:Mem)
def vH(x:Mem)(w_ slot x1 x2:Int)(x3:List Int):Option Mem:=
  (if decide ((aW (x2+1))≤6) then (uL x.aA w_ x1 slot).bind fun x6=>vG x x3 x6.Global x6.bD else vG x x3 x.aA.Global x.aA.bD)
def pJ(x:Mem)(w_ slot:Int):Option Mem:=
  (gR x.aB slot).bind fun x1=>(o9 x.aB slot).bind fun x2=>(mY slot x1).bind fun x7=>(gU x.aB.Bytes x7 4 (aW (x2+1))).bind fun x8=>vH x w_ slot x1 x2 x8
def jS(b:aG)(s:Sub)(x8:Int):Option (aG×Sub):=
  some (b,({s with Pc:=x8,B:=aW (s.B+1)}:Sub))
def c8(b:aG)(s:Sub)(x5:Bool):Option (aG×Sub):=
  (if x5 then (bA s 1).bind fun x6=>some (b,x6) else (idx b.nZ s.B).bind fun x7=>(if x7 == s.H then some (b,({s with Pc:=1,Row:=aW (s.Row+1)}:Sub)) else (if (aW (s.B+1)) == 3 then jS b s 3 else jS b s s.Pc)))
def m7(s:Sub)(x14:aG):Option (aG×Sub):=
  some (x14,({s with Pc:=1,Out:=aW (s.Out+1)}:Sub))
def c9(b:aG)(w_:Int)(s:Sub)(x1:aN)(x12:Bool):Option (aG×Sub):=
  (if x12 then (bA s 1).bind fun x13=>some (b,x13) else need (0≤(s.Row:Int)∧(s.Row:Int)≤(x1.Rows.length:Int)) (need (0≤(aW (s.Row+1):Int)∧(aW (s.Row+1):Int)≤(x1.Rows.length:Int)) (need (s.Row.toNat≤(aW (s.Row+1)).toNat) ((d5 s.H).bind fun x15=>(pJ b.Mem w_ x15).bind fun x16=>m7 s ({b with Mem:=x16,aP:=b.aP.set w_.toNat (⟨((cT x1.Rows s.Row.toNat (x1.Rows.drop ((aW (s.Row+1)).toNat))).take (s.Row.toNat+(x1.Rows.length - ((aW (s.Row+1)).toNat)))).drop 0⟩:aN)}:aG)))))
def kK(b:aG)(w_:Int)(s:Sub):Option (aG×Sub):=
  (idx b.aP w_).bind fun x1=>(if s.Pc == 0 then some (b,({s with Pc:=1,E:=b.aK.aI,Row:=0}:Sub)) else (if s.Pc == 1 then (m6 x1.Rows s.Row s.E).bind fun x2=>(if decide (x2 < 0) then (bA s 0).bind fun x3=>some (b,x3) else (idx x1.Rows x2).bind fun x4=>some (b,({s with Pc:=2,Row:=x2,B:=0,H:=x4.Handle}:Sub))) else (if s.Pc == 2 then (bH s.B 0 2).bind fun x9=>(if !x9 then c8 b s true else (bH s.Row 0 (aW ((x1.Rows.length:Int) - 1))).bind fun x10=>(if !x10 then c8 b s true else (idx x1.Rows s.Row).bind fun x11=>c8 b s (x11.Handle != s.H))) else (if s.Pc == 3 then (bH s.Row 0 (aW ((x1.Rows.length:Int) - 1))).bind fun x17=>(if !x17 then c9 b w_ s x1 true else (idx x1.Rows s.Row).bind fun x18=>(if x18.Handle != s.H then c9 b w_ s x1 true else (qT x18 s.E).bind fun x19=>c9 b w_ s x1 (!x19))) else (bA s 1).bind fun x20=>some (b,x20)))))
def oD(w_ e_:Int)(x1:aK)(x2:Bool):Option (aK×Bool):=
  (if x2 then some (x1,false) else (idx x1.bM w_).bind fun x3=>some ((⟨x1.aI,x1.bM.set w_.toNat (⟨true,e_,false,0⟩:gQ)⟩:aK),true))
def tW(c:aK)(w_ e_:Int):Option (aK×Bool):=
  (kT c).bind fun x1=>(kQ c).bind fun x4=>(if !x4 then oD w_ e_ x1 true else (bH w_ 0 2).bind fun x5=>(if !x5 then oD w_ e_ x1 true else (bH e_ 0 c.aI).bind fun x6=>oD w_ e_ x1 (!x6)))
def uM(b:aG)(w_:Int)(s:Sub):Option (aG×Sub):=
  (if s.Pc == 0 then some (b,({s with Pc:=1,E:=b.aK.aI}:Sub)) else (if s.Pc == 1 then (tW b.aK w_ s.E).bind fun x1=>(if !x1.2 then (bA s 1).bind fun x2=>some (({b with aK:=x1.1}:aG),x2) else some (({b with aK:=x1.1}:aG),({s with Pc:=2}:Sub))) else (if s.Pc == 2 then (if b.aK.aI == s.E then (bA s 0).bind fun x3=>some (b,x3) else some (b,({s with Pc:=0}:Sub))) else (bA s 1).bind fun x4=>some (b,x4))))
def xI(b:aG)(w_:Int)(s:Sub):Option (aG×Sub):=
  (if s.dV then some (b,s) else (if s.Kind == 1 then (oC b w_ s).bind fun x1=>some (x1.1,x1.2) else (if s.Kind == 2 then (l6 b w_ s).bind fun x2=>some (x2.1,x2.2) else (if s.Kind == 3 then (kJ b s).bind fun x3=>some (x3.1,x3.2) else (if s.Kind == 4 then (kK b w_ s).bind fun x4=>some (x4.1,x4.2) else (if s.Kind == 5 then (uM b w_ s).bind fun x5=>some (x5.1,x5.2) else (bA s 1).bind fun x6=>some (b,x6)))))))
def A3(slot c:Int):Option Int:=
  (mY slot c).bind fun x1=>(if decide (x1 < 0) then some (-1) else some (aW (x1+4)))
def pK(at_ x3 x4:Int)(x5:Bool):Option (Int×Int):=
  (if x5 then some (0,2) else (A3 x3 x4).bind fun x6=>some (aW (x6+at_),0))
def pL(m:Mem)(h at_ width:Int)(x1:Bool):Option (Int×Int):=
  (if x1 then some (0,1) else (kR m h).bind fun x2=>(if !x2 then some (0,4) else (d5 h).bind fun x3=>(gR m.aB x3).bind fun x4=>(o6 x4).bind fun x7=>(bH at_ 0 (aW (x7 - 1))).bind fun x8=>(if !x8 then pK at_ x3 x4 true else (o6 x4).bind fun x9=>pK at_ x3 x4 (decide ((aW (x9 - at_)) < width)))))
def DG(m:Mem)(h at_ width:Int):Option (Int×Int):=
  (m3 m).bind fun x10=>(if !x10 then pL m h at_ width true else (bH width 1 7).bind fun x11=>pL m h at_ width (!x11))
def D2(x8:Int)(x9:List UInt8):Option (List UInt8):=
  (if decide (0 < x8) then some ([]) else some x9)
def rW(width:Int):(Int×(List UInt8)×Int)→Option (Step (Int×(List UInt8)×Int) (Int×(List UInt8)))
  | (x5,x6,x7)=>(if decide (x7 < width) then need (([u8 (Int.tmod x5 256)]).length+x6.length≤9223372036854775807) (some (.next (aW (Int.tdiv x5 256),([u8 (Int.tmod x5 256)])++x6,aW (x7+1)))) else some (.stop ((x5,x6))))
def D3:(Int×(List UInt8))→Option (List UInt8)
  | (x8,x9)=>D2 x8 x9
def rX(n width:Int)(x1:Bool):Option (List UInt8):=
  (if x1 then some ([]) else (loop (rW width) (n,[],0)).bind (D3))
def tX(n width:Int):Option (List UInt8):=
  (bH width 1 7).bind fun x10=>(if !x10 then rX n width true else rX n width (decide (n < 0)))
def m8(m:Mem)(h at_ width n:Int):Option (Mem×Int):=
  (pE m).bind fun x1=>(DG m h at_ width).bind fun x2=>(if x2.2 != 0 then some (x1,x2.2) else (tX n width).bind fun x3=>(if x3 == ([]) then some (x1,1) else (gU x1.aB.Bytes x2.1 width n).bind fun x4=>some ((⟨(⟨x4,x1.aB.Class⟩:aB),x1.aA⟩:Mem),0)))
def rY(w_:Int)(x1:aK)(x2:Bool):Option (aK×Bool):=
  (if x2 then some (x1,false) else (idx x1.bM w_).bind fun x3=>some ((⟨x1.aI,x1.bM.set w_.toNat (⟨false,0,false,0⟩:gQ)⟩:aK),true))
def BX(c:aK)(w_:Int):Option (aK×Bool):=
  (kT c).bind fun x1=>(kQ c).bind fun x4=>(if !x4 then rY w_ x1 true else (bH w_ 0 2).bind fun x5=>(if !x5 then rY w_ x1 true else (idx c.bM w_).bind fun x6=>rY w_ x1 (!x6.On)))
def nS(w_ h:Int)(x1:(List Int))(x2:Bool):Option ((List Int)×Bool):=
  (if x2 then some (x1,false) else (idx x1 w_).bind fun x3=>some (x1.set w_.toNat h,true))
def vI(z:List Int)(w_ h:Int):Option ((List Int)×Bool):=
  (kS z).bind fun x1=>(tV z).bind fun x4=>(if !x4 then nS w_ h x1 true else (bH w_ 0 2).bind fun x5=>(if !x5 then nS w_ h x1 true else (gT h).bind fun x6=>nS w_ h x1 (!x6)))
def rZ(w_:Int)(x1:(List Int))(x2:Bool):Option ((List Int)×Bool):=
  (if x2 then some (x1,false) else (idx x1 w_).bind fun x3=>some (x1.set w_.toNat 0,true))
def FY(z:List Int)(w_:Int):Option ((List Int)×Bool):=
  (kS z).bind fun x1=>(tV z).bind fun x4=>(if !x4 then rZ w_ x1 true else (bH w_ 0 2).bind fun x5=>(if !x5 then rZ w_ x1 true else (idx z w_).bind fun x6=>rZ w_ x1 (x6 == 0)))
def d6(s:List Int):Option (List Int):=
  need (([]:List Int).length+s.length≤1073741824) (some (([]:List Int)++s))
def oE(h:aB):Option aB:=
  (d6 h.Bytes).bind fun x1=>(d6 h.Class).bind fun x2=>some (⟨x1,x2⟩:aB)
def MS(x5 x10:List aE):Option aA:=
  some (⟨x5,x10⟩:aA)
def vJ(x8:Int)(x12:List aE):Option (Step (Int×(List aE)) (List aE)):=
  some (.next (aW (x8+1),x12))
def vK(l:aA):(Int×(List aE))→Option (Step (Int×(List aE)) (List aE))
  | (x8,x9)=>(if decide (x8 < (l.bD.length:Int)) then (idx l.bD x8).bind fun x11=>(d6 x11.aL).bind fun x13=>need (x9.length+([(⟨x13⟩:aE)]).length≤1073741824)<|vJ x8 (x9++([(⟨x13⟩:aE)])) else some (.stop (x9)))
def MT(x5:List aE):(List aE)→Option aA
  | x10=>MS x5 x10
def DH(l:aA)(x5:List aE):Option aA:=
  (loop (vK l) (0,[])).bind (MT x5)
def vL(x3:Int)(x15:List aE):Option (Step (Int×(List aE)) (List aE)):=
  some (.next (aW (x3+1),x15))
def vM(l:aA):(Int×(List aE))→Option (Step (Int×(List aE)) (List aE))
  | (x3,x4)=>(if decide (x3 < (l.Global.length:Int)) then (idx l.Global x3).bind fun x14=>(d6 x14.aL).bind fun x16=>need (x4.length+([(⟨x16⟩:aE)]).length≤1073741824)<|vL x3 (x4++([(⟨x16⟩:aE)])) else some (.stop (x4)))
def DI(l:aA):(List aE)→Option aA
  | x5=>DH l x5
def e7(l:aA):Option aA:=
  (loop (vM l) (0,[])).bind (DI l)
def vN(m:Mem):Option Mem:=
  (oE m.aB).bind fun x1=>(e7 m.aA).bind fun x2=>some (⟨x1,x2⟩:Mem)
def qU(s:List gQ):Option (List gQ):=
  need (([]:List gQ).length+s.length≤1073741824) (some (([]:List gQ)++s))
def hO(c:aK):Option aK:=
  (qU c.bM).bind fun x1=>some (⟨c.aI,x1⟩:aK)
def oT(s:List bJ):Option (List bJ):=
  need (([]:List bJ).length+s.length≤1073741824) (some (([]:List bJ)++s))
def MU(x5:List aN):Option (List aN):=
  some x5
def vO(l:List aN):((List aN)×Int)→Option (Step ((List aN)×Int) (List aN))
  | (x3,x4)=>(if decide (x4 < (l.length:Int)) then (idx l x4).bind fun x6=>(oT x6.Rows).bind fun x7=>need (x3.length+([(⟨x7⟩:aN)]).length≤1073741824) (some (.next (x3++([(⟨x7⟩:aN)]),aW (x4+1)))) else some (.stop (x3)))
def MV:(List aN)→Option (List aN)
  | x5=>MU x5
def hQ(l:List aN):Option (List aN):=
  (loop (vO l) (([]:List aN),0)).bind (MV)
def xX(b:aG):Option aG:=
  (vN b.Mem).bind fun x1=>(hO b.aK).bind fun x2=>(hQ b.aP).bind fun x3=>(d6 b.nZ).bind fun x4=>some (⟨x1,x2,x3,x4⟩:aG)
def l7(x1:Bool):Option Bool:=
  some x1
def cD(n low high:Int):Option Bool:=
  (if decide (low≤n) then l7 (decide (n≤high)) else l7 false)
def uN:Option Int:=
  some (-1)
def fI(s:List gQ)(f:(gQ→Option Bool)):Int→Option (Step Int (Out Unit Int))
  | x2=>(if decide (x2 < (s.length:Int)) then (idx s x2).bind fun x3=>(f x3).bind fun x4=>(if x4 then some (.stop (Out.ret x2)) else some (.next (aW (x2+1)))) else some (.stop (Out.brk ())))
def l8:(Out Unit Int)→Option Int
  | .brk ()=>uN
  | .ret r=>some r
def pM(s:List gQ)(f:(gQ→Option Bool)):Option Int:=
  (loop (fI s f) 0).bind (l8)
def iF(s:List gQ)(f:(gQ→Option Bool)):Option Bool:=
  (pM s f).bind fun x1=>some (decide (0≤x1))
def iG(x1:Bool):Option Bool:=
  some x1
def pN(p:gQ)(k0:aK):Option Bool:=
  (cD p.aI 0 k0.aI).bind fun x2=>(if !x2 then iG true else (cD p.Seen 0 2).bind fun x3=>(if !x3 then iG true else (if !p.On then iG (!(decide (p=(⟨false,0,false,0⟩:gQ)))) else iG false)))
def nT(x1:Bool):Option Bool:=
  some x1
def kW(c:aK):Option Bool:=
  (cD c.aI 0 100000).bind fun x2=>(if x2 then (if (c.bM.length:Int) == 3 then (iF c.bM (fun y0=>pN y0 c)).bind fun x3=>nT (!x3) else nT false) else nT false)
def jD(slot:Int):Option Bool:=
  (cD slot 0 23).bind fun x1=>some x1
def m9(x10:List Raw):Option (List Raw):=
  some x10
def eN(slices:List (List Raw)):((List Raw)×Int)→Option (Step ((List Raw)×Int) (List Raw))
  | (x8,x9)=>(if decide (x9 < (slices.length:Int)) then (idx slices x9).bind fun x11=>need (x8.length+x11.length≤1073741824) (some (.next (x8++x11,aW (x9+1)))) else some (.stop (x8)))
def FZ:(List Raw)→Option (List Raw)
  | x10=>m9 x10
def i6(slices:List (List Raw))(x5:Int):Option (List Raw):=
  need (0≤x5∧x5≤1073741824) ((loop (eN slices) ([],0)).bind (FZ))
def dW(slices:List (List Raw)):(Int×Int)→Option (Step (Int×Int) Int)
  | (x3,x4)=>(if decide (x4 < (slices.length:Int)) then (idx slices x4).bind fun x12=>(if decide ((aW (x3+(x12.length:Int))) < 0) then none else some (.next (aW (x3+(x12.length:Int)),aW (x4+1)))) else some (.stop (x3)))
def vP(slices:List (List Raw)):Int→Option (List Raw)
  | x5=>i6 slices x5
def lO(slices:List (List Raw)):Option (List Raw):=
  (loop (dW slices) (0,0)).bind (vP slices)
theorem C5{u1 u2:List Raw}(h:u1.length+u2.length≤1073741824):loop (dW [u1,u2]) (0,0)=some ((u1.length+u2.length:Nat):Int):=by
  have e1:aW (u1.length:Int)=u1.length:=BV (by omega)
  have e2:aW ((u1.length:Int)+(u2.length:Int))=((u1.length+u2.length:Nat):Int):=by rw [BV (by omega)];rfl
  have e3:aW (0+1)=1:=BV (by omega)
  have e4:aW 2=2:=BV (by omega)
  have n1:¬(u1.length:Int) < 0:=by omega
  have n2:¬((u1.length+u2.length:Nat):Int) < 0:=by omega
  rw [bT (s':=((u1.length:Int),1)) ?_,bT (s':=(((u1.length+u2.length:Nat):Int),2)) ?_,bP (r:=((u1.length+u2.length:Nat):Int)) ?_]
  · simp [dW]
  · simp [dW,idx,e2,e4]
    omega
  · simp [dW,idx,e1,n1]
    exact e3
theorem E8{u1 u2:List Raw}{n1 n2:Nat}(hl:u1.length=n1∧u2.length=n2)(h:n1+n2≤1073741824):lO [u1,u2]=some (u1++u2):=by
  obtain⟨rfl,rfl⟩:=hl
  have e3:aW (0+1)=1:=BV (by omega)
  have e4:aW 2=2:=BV (by omega)
  unfold lO
  rw [C5 h]
  simp only [aH,vP,i6]
  rw [aS (by omega),bT (s':=(u1,1)) ?_,bT (s':=(u1++u2,2)) ?_,bP (r:=u1++u2) ?_]
  · rfl
  · simp [eN]
  · simp [eN,idx,e4,aS h]
  · have h1:u1.length≤1073741824:=by omega
    simp [eN,idx,aS h1]
    exact e3
def zZ:Option Bool:=
  some true
def sW(x4:Int)(x12:List Bool):Option (Step (Int×(List Bool)) (Out Unit Bool)):=
  some (.next (aW (x4+1),x12))
def kL(x10:Int)(x11:List Bool)(x13:Int)(x14:Bool):Option (Step (Int×(List Bool)) (Out (List Bool) Bool)):=
  (if x14 then some (.stop (Out.ret false)) else need (0≤(x13:Int)∧(x13:Int) < 24) ((idx (x11:List Bool) x13).bind fun x15=>some (.next (aW (x10+1),x11.set (x13.toNat) true))))
def iN(x6:aE):(Int×(List Bool))→Option (Step (Int×(List Bool)) (Out (List Bool) Bool))
  | (x10,x11)=>(if decide (x10 < (x6.aL.length:Int)) then (idx x6.aL x10).bind fun x13=>(jD x13).bind fun x16=>(if !x16 then kL x10 x11 x13 true else need (0≤(x13:Int)∧(x13:Int) < 24) ((idx (x11:List Bool) x13).bind fun x17=>kL x10 x11 x13 x17)) else some (.stop (Out.brk x11)))
def GY(x4:Int):(Out (List Bool) Bool)→Option (Step (Int×(List Bool)) (Out Unit Bool))
  | .brk x12=>sW x4 x12
  | .ret r=>some (.stop (Out.ret r))
def iO(x4:Int)(x5:List Bool)(x6:aE)(x7:Bool):Option (Step (Int×(List Bool)) (Out Unit Bool)):=
  (if x7 then some (.stop (Out.ret false)) else (loop (iN x6) (0,x5)).bind (GY x4))
def iP(l:aA):(Int×(List Bool))→Option (Step (Int×(List Bool)) (Out Unit Bool))
  | (x4,x5)=>(if decide (x4 < ((l.bD++l.Global).length:Int)) then (idx (l.bD++l.Global) x4).bind fun x6=>(if decide (x4 < (l.bD.length:Int)) then iO x4 x5 x6 (decide (2 < (x6.aL.length:Int))) else iO x4 x5 x6 false) else some (.stop (Out.brk ())))
def PW:(Out Unit Bool)→Option Bool
  | .brk ()=>zZ
  | .ret r=>some r
def nU(l:aA)(x1:Bool):Option Bool:=
  (if x1 then some false else need (l.bD.length+l.Global.length≤1073741824) ((loop (iP l) (0,[false,false,false,false,false,false,false,false,false,false,false,false,false,false,false,false,false,false,false,false,false,false,false,false])).bind (PW)))
def gW(l:aA):Option Bool:=
  (if (l.Global.length:Int) != 3 then nU l true else nU l ((l.bD.length:Int) != 9))
def uO:Option Int:=
  some (-1)
def fJ(s:List Int)(f:(Int→Option Bool)):Int→Option (Step Int (Out Unit Int))
  | x2=>(if decide (x2 < (s.length:Int)) then (idx s x2).bind fun x3=>(f x3).bind fun x4=>(if x4 then some (.stop (Out.ret x2)) else some (.next (aW (x2+1)))) else some (.stop (Out.brk ())))
def l9:(Out Unit Int)→Option Int
  | .brk ()=>uO
  | .ret r=>some r
def pO(s:List Int)(f:(Int→Option Bool)):Option Int:=
  (loop (fJ s f) 0).bind (l9)
def dQ(s:List Int)(f:(Int→Option Bool)):Option Bool:=
  (pO s f).bind fun x1=>some (decide (0≤x1))
def H8(x:Int):Option Bool:=
  (cD x 0 255).bind fun x1=>some x1
def vQ(x:Int):Option Bool:=
  (H8 x).bind fun x1=>some (!x1)
def sY(x1:Bool):Option Bool:=
  some x1
def A4(b:List Int):Option Bool:=
  (if decide ((b.length:Int)≤1000) then (dQ b (fun y0=>vQ y0)).bind fun x2=>sY (!x2) else sY false)
def xY(c:Int):Option Bool:=
  (cD c (-1) 2).bind fun x1=>some (!x1)
def mA(x1:Bool):Option Bool:=
  some x1
def zE(h:aB):Option Bool:=
  (if (h.Bytes.length:Int) == 384 then (A4 h.Bytes).bind fun x2=>(if x2 then (if (h.Class.length:Int) == 6 then (dQ h.Class (fun y0=>xY y0)).bind fun x3=>mA (!x3) else mA false) else mA false) else mA false)
def gX(c:Int):Option Bool:=
  (cD c 0 2).bind fun x1=>some x1
def uP(c:Int):Option Int:=
  (gX c).bind fun x1=>(if !x1 then some 0 else (idx ([8,16,40]:List Int) c).bind fun x2=>some x2)
def oF(c:Int):Option Int:=
  (gX c).bind fun x1=>(if !x1 then some 0 else (uP c).bind fun x2=>some (aW (4+x2)))
def kX(c:Int):Option Int:=
  (gX c).bind fun x1=>(if !x1 then some 0 else (oF c).bind fun x2=>need (x2≠0) (some (aW (Int.tdiv 56 x2))))
def PX(x5:Int):Option Int:=
  some x5
def nV(b:List Int)(at_ width:Int):(Int×Int)→Option (Step (Int×Int) Int)
  | (x3,x4)=>(if decide (x4 < (((b.take ((aW (at_+width)).toNat)).drop at_.toNat).length:Int)) then (idx ((b.take ((aW (at_+width)).toNat)).drop at_.toNat) x4).bind fun x6=>some (.next (aW ((aW (256 * x3))+x6),aW (x4+1))) else some (.stop (x3)))
def PY:Int→Option Int
  | x5=>PX x5
def nA(b:List Int)(at_ width:Int):Option Int:=
  need (0≤(at_:Int)∧(at_:Int)≤(aW (at_+width):Int)∧(aW (at_+width):Int)≤(b.length:Int)) ((loop (nV b at_ width) (0,0)).bind (PY))
def xZ(x:Int):Option Bool:=
  some (x != 0)
def zF(b:List Int):Option Bool:=
  (dQ b (fun y0=>xZ y0)).bind fun x1=>some (!x1)
def SZ:Option Bool:=
  some true
def mB(h:aB)(page x1 x4:Int):Int→Option (Step Int (Out Unit Bool))
  | x6=>(if decide (x6 < x4) then (oF x1).bind fun x7=>(nA ((h.Bytes.take ((aW ((aW (page+1)) * 64)).toNat)).drop ((aW (page * 64)).toNat)) (aW (8+(aW (x6 * x7)))) 4).bind fun x8=>(cD x8 1 7).bind fun x9=>(if !x9 then some (.stop (Out.ret false)) else some (.next (aW (x6+1)))) else some (.stop (Out.brk ())))
def S1:(Out Unit Bool)→Option Bool
  | .brk ()=>SZ
  | .ret r=>some r
def fT(h:aB)(page x1:Int)(x3:Bool):Option Bool:=
  (if x3 then some false else (kX x1).bind fun x4=>(loop (mB h page x1 x4) 0).bind (S1))
def DJ(h:aB)(page:Int):Option Bool:=
  (idx h.Class page).bind fun x1=>need (0≤(aW (page * 64):Int)∧(aW (page * 64):Int)≤(aW ((aW (page+1)) * 64):Int)∧(aW ((aW (page+1)) * 64):Int)≤(h.Bytes.length:Int)) ((if decide (x1 < 0) then (zF ((h.Bytes.take ((aW ((aW (page+1)) * 64)).toNat)).drop ((aW (page * 64)).toNat))).bind fun x2=>some x2 else (idx ((h.Bytes.take ((aW ((aW (page+1)) * 64)).toNat)).drop ((aW (page * 64)).toNat)) 0).bind fun x10=>(if x10 != 171 then fT h page x1 true else (idx ((h.Bytes.take ((aW ((aW (page+1)) * 64)).toNat)).drop ((aW (page * 64)).toNat)) 1).bind fun x11=>(if x11 != x1 then fT h page x1 true else (idx ((h.Bytes.take ((aW ((aW (page+1)) * 64)).toNat)).drop ((aW (page * 64)).toNat)) 2).bind fun x12=>(kX x1).bind fun x13=>(if x12 != x13 then fT h page x1 true else need (0≤(3:Int)∧(3:Int)≤(8:Int)∧(8:Int)≤(((h.Bytes.take ((aW ((aW (page+1)) * 64)).toNat)).drop ((aW (page * 64)).toNat)).length:Int)) ((zF ((((h.Bytes.take ((aW ((aW (page+1)) * 64)).toNat)).drop ((aW (page * 64)).toNat)).take ((8:Int).toNat)).drop ((3:Int).toNat))).bind fun x14=>fT h page x1 (!x14)))))))
def S2:Option Bool:=
  some true
def pP(h:aB):Int→Option (Step Int (Out Unit Bool))
  | x3=>(if decide (x3 < 6) then (DJ h x3).bind fun x4=>(if !x4 then some (.stop (Out.ret false)) else some (.next (aW (x3+1)))) else some (.stop (Out.brk ())))
def S3:(Out Unit Bool)→Option Bool
  | .brk ()=>S2
  | .ret r=>some r
def zG(h:aB):Option Bool:=
  (zE h).bind fun x1=>(if !x1 then some false else (loop (pP h) 0).bind (S3))
def r5(slot c:Int)(x1:Bool):Option Int:=
  (if x1 then some (-1) else (oF c).bind fun x2=>some (aW ((aW ((aW ((aW (Int.tdiv slot 4)) * 64))+8))+(aW ((Int.tmod slot 4) * x2)))))
def pQ(slot c:Int):Option Int:=
  (jD slot).bind fun x3=>(if !x3 then r5 slot c true else (gX c).bind fun x4=>(if !x4 then r5 slot c true else (kX c).bind fun x5=>r5 slot c (decide (x5≤(Int.tmod slot 4)))))
def sZ(h:aB)(slot:Int)(x1:Bool):Option Int:=
  (if x1 then some (-1) else (idx h.Class (aW (Int.tdiv slot 4))).bind fun x2=>some x2)
def kY(h:aB)(slot:Int):Option Int:=
  (jD slot).bind fun x3=>(if !x3 then sZ h slot true else (idx h.Class (aW (Int.tdiv slot 4))).bind fun x4=>(pQ slot x4).bind fun x5=>sZ h slot (decide (x5 < 0)))
def vR(h:aB)(slot:Int):Option Int:=
  (zE h).bind fun x1=>(if !x1 then some (-1) else (kY h slot).bind fun x2=>some x2)
def tY(h:aB)(slot:Int):Option Int:=
  (vR h slot).bind fun x1=>(if decide (x1 < 0) then some 0 else (pQ slot x1).bind fun x2=>(nA h.Bytes x2 4).bind fun x3=>some x3)
def N2:Option Bool:=
  some true
def qV(x2:Int)(x4:Bool):Option (Step Int (Out Unit Bool)):=
  (if x4 then some (.stop (Out.ret false)) else some (.next (aW (x2+1))))
def jK(h:aB)(s:aE)(c:Int):Int→Option (Step Int (Out Unit Bool))
  | x2=>(if decide (x2 < (s.aL.length:Int)) then (idx s.aL x2).bind fun x3=>(kY h x3).bind fun x5=>(if x5 != c then qV x2 true else (tY h x3).bind fun x6=>qV x2 (decide (6 < x6))) else some (.stop (Out.brk ())))
def N3:(Out Unit Bool)→Option Bool
  | .brk ()=>N2
  | .ret r=>some r
def r6(h:aB)(s:aE)(c:Int):Option Bool:=
  (loop (jK h s c) 0).bind (N3)
def VG:Option Bool:=
  some true
def oG(m:Mem):Int→Option (Step Int (Out Unit Bool))
  | x5=>(if decide (x5 < (m.aA.bD.length:Int)) then (idx m.aA.bD x5).bind fun x6=>(r6 m.aB x6 (Int.tmod x5 3)).bind fun x7=>(if !x7 then some (.stop (Out.ret false)) else some (.next (aW (x5+1)))) else some (.stop (Out.brk ())))
def VH:(Out Unit Bool)→Option Bool
  | .brk ()=>VG
  | .ret r=>some r
def KM(m:Mem):Option Bool:=
  (loop (oG m) 0).bind (VH)
def oH(m:Mem):Int→Option (Step Int (Out Unit Bool))
  | x3=>(if decide (x3 < (m.aA.Global.length:Int)) then (idx m.aA.Global x3).bind fun x8=>(r6 m.aB x8 x3).bind fun x9=>(if !x9 then some (.stop (Out.ret false)) else some (.next (aW (x3+1)))) else some (.stop (Out.brk ())))
def KN(m:Mem):(Out Unit Bool)→Option Bool
  | .brk ()=>KM m
  | .ret r=>some r
def yA(m:Mem)(x1:Bool):Option Bool:=
  (if x1 then some false else (loop (oH m) 0).bind (KN m))
def BY(m:Mem):Option Bool:=
  (zG m.aB).bind fun x10=>(if !x10 then yA m true else (gW m.aA).bind fun x11=>yA m (!x11))
def vS(x5:Int):Option Int:=
  some x5
def fU(l:List aN):(Int×Int)→Option (Step (Int×Int) Int)
  | (x3,x4)=>(if decide (x4 < (l.length:Int)) then (idx l x4).bind fun x6=>some (.next (aW (x3+(x6.Rows.length:Int)),aW (x4+1))) else some (.stop (x3)))
def MW:Int→Option Int
  | x5=>vS x5
def pR(l:List aN):Option Int:=
  (loop (fU l) (0,0)).bind (MW)
def jL(x1:Bool):Option Bool:=
  some x1
def fP(h:Int):Option Bool:=
  (cD h 32 223).bind fun x2=>(if x2 then jL (decide ((Int.tmod h 32) < 24)) else jL false)
def tA(l:List aN):Option Bool:=
  (pR l).bind fun x5=>some (decide (x5≤24))
def tB(x3:Int)(x11:List Bool):Option (Step (Int×(List Bool)) (Out Unit Bool)):=
  some (.next (aW (x3+1),x11))
def fZ(x9:Int)(x10:List Bool)(x12:bJ)(x13:Bool):Option (Step (Int×(List Bool)) (Out (List Bool) Bool)):=
  (if x13 then some (.stop (Out.ret false)) else need (0≤(Int.tmod x12.Handle 32:Int)∧(Int.tmod x12.Handle 32:Int) < 24) ((idx (x10:List Bool) (Int.tmod x12.Handle 32)).bind fun x14=>some (.next (aW (x9+1),x10.set ((Int.tmod x12.Handle 32).toNat) true))))
def iQ(x6:aN):(Int×(List Bool))→Option (Step (Int×(List Bool)) (Out (List Bool) Bool))
  | (x9,x10)=>(if decide (x9 < (x6.Rows.length:Int)) then (idx x6.Rows x9).bind fun x12=>(fP x12.Handle).bind fun x15=>(if !x15 then fZ x9 x10 x12 true else (cD x12.aI 0 100000).bind fun x16=>(if !x16 then fZ x9 x10 x12 true else need (0≤(Int.tmod x12.Handle 32:Int)∧(Int.tmod x12.Handle 32:Int) < 24) ((idx (x10:List Bool) (Int.tmod x12.Handle 32)).bind fun x17=>fZ x9 x10 x12 x17))) else some (.stop (Out.brk x10)))
def GZ(x3:Int):(Out (List Bool) Bool)→Option (Step (Int×(List Bool)) (Out Unit Bool))
  | .brk x11=>tB x3 x11
  | .ret r=>some (.stop (Out.ret r))
def iS(l:List aN):(Int×(List Bool))→Option (Step (Int×(List Bool)) (Out Unit Bool))
  | (x3,x4)=>(if decide (x3 < (l.length:Int)) then (idx l x3).bind fun x6=>(loop (iQ x6) (0,x4)).bind (GZ x3) else some (.stop (Out.brk ())))
def G0(l:List aN):(Out Unit Bool)→Option Bool
  | .brk ()=>tA l
  | .ret r=>some r
def i7(l:List aN):Option Bool:=
  (if (l.length:Int) != 3 then some false else (loop (iS l) (0,[false,false,false,false,false,false,false,false,false,false,false,false,false,false,false,false,false,false,false,false,false,false,false,false])).bind (G0 l))
def vT(x1:Bool):Option Bool:=
  some x1
def H9(h:Int):Option Bool:=
  (if h == 0 then vT true else (fP h).bind fun x2=>vT x2)
def A5(h:Int):Option Bool:=
  (H9 h).bind fun x1=>some (!x1)
def yC(x1:Bool):Option Bool:=
  some x1
def xJ(z:List Int):Option Bool:=
  (if (z.length:Int) == 3 then (dQ z (fun y0=>A5 y0)).bind fun x2=>yC (!x2) else yC false)
def rG:Option Int:=
  some (-1)
def gH(s:List aN)(f:(aN→Option Bool)):Int→Option (Step Int (Out Unit Int))
  | x2=>(if decide (x2 < (s.length:Int)) then (idx s x2).bind fun x3=>(f x3).bind fun x4=>(if x4 then some (.stop (Out.ret x2)) else some (.next (aW (x2+1)))) else some (.stop (Out.brk ())))
def j9:(Out Unit Int)→Option Int
  | .brk ()=>rG
  | .ret r=>some r
def nB(s:List aN)(f:(aN→Option Bool)):Option Int:=
  (loop (gH s f) 0).bind (j9)
def eP(s:List aN)(f:(aN→Option Bool)):Option Bool:=
  (nB s f).bind fun x1=>some (decide (0≤x1))
def r7:Option Int:=
  some (-1)
def gY(s:List bJ)(f:(bJ→Option Bool)):Int→Option (Step Int (Out Unit Int))
  | x2=>(if decide (x2 < (s.length:Int)) then (idx s x2).bind fun x3=>(f x3).bind fun x4=>(if x4 then some (.stop (Out.ret x2)) else some (.next (aW (x2+1)))) else some (.stop (Out.brk ())))
def lE:(Out Unit Int)→Option Int
  | .brk ()=>r7
  | .ret r=>some r
def oO(s:List bJ)(f:(bJ→Option Bool)):Option Int:=
  (loop (gY s f) 0).bind (lE)
def e9(s:List bJ)(f:(bJ→Option Bool)):Option Bool:=
  (oO s f).bind fun x1=>some (decide (0≤x1))
def AQ:Option Int:=
  some (-1)
def dD(s:List Int)(v:Int):Int→Option (Step Int (Out Unit Int))
  | x2=>(if decide (x2 < (s.length:Int)) then (idx s x2).bind fun x3=>(if v == x3 then some (.stop (Out.ret x2)) else some (.next (aW (x2+1)))) else some (.stop (Out.brk ())))
def lP:(Out Unit Int)→Option Int
  | .brk ()=>AQ
  | .ret r=>some r
def jM(s:List Int)(v:Int):Option Int:=
  (loop (dD s v) 0).bind (lP)
def lQ(s:List Int)(v:Int):Option Bool:=
  (jM s v).bind fun x1=>some (decide (0≤x1))
def lF(s:aE)(k0:Int):Option Bool:=
  (lQ s.aL k0).bind fun x1=>some x1
def rH:Option Int:=
  some (-1)
def gI(s:List aE)(f:(aE→Option Bool)):Int→Option (Step Int (Out Unit Int))
  | x2=>(if decide (x2 < (s.length:Int)) then (idx s x2).bind fun x3=>(f x3).bind fun x4=>(if x4 then some (.stop (Out.ret x2)) else some (.next (aW (x2+1)))) else some (.stop (Out.brk ())))
def kA:(Out Unit Int)→Option Int
  | .brk ()=>rH
  | .ret r=>some r
def nC(s:List aE)(f:(aE→Option Bool)):Option Int:=
  (loop (gI s f) 0).bind (kA)
def eQ(s:List aE)(f:(aE→Option Bool)):Option Bool:=
  (nC s f).bind fun x1=>some (decide (0≤x1))
def vU(x1:Bool):Option Bool:=
  some x1
def zH(l:aA)(slot:Int):Option Bool:=
  (eQ l.Global (fun y0=>lF y0 slot)).bind fun x2=>(if x2 then vU true else (eQ l.bD (fun y0=>lF y0 slot)).bind fun x3=>vU x3)
def A6(m:Mem)(slot:Int):Option Int:=
  (kY m.aB slot).bind fun x1=>(if decide (x1 < 0) then some 0 else (zH m.aA slot).bind fun x2=>(if x2 then some 1 else (tY m.aB slot).bind fun x3=>(if decide (6 < x3) then some 2 else some 3)))
def pS(x1:Bool):Option Bool:=
  some x1
def uQ(m:Mem)(h:Int):Option Bool:=
  (fP h).bind fun x2=>(if x2 then (A6 m (Int.tmod h 32)).bind fun x3=>(if x3 == 3 then (tY m.aB (Int.tmod h 32)).bind fun x4=>pS (x4 == (aW (Int.tdiv h 32))) else pS false) else pS false)
def nD(x1:Bool):Option Bool:=
  some x1
def tC(r_:bJ)(k0:aG):Option Bool:=
  (uQ k0.Mem r_.Handle).bind fun x2=>(if !x2 then nD true else nD (decide (k0.aK.aI < r_.aI)))
def yD(l:aN)(k0:aG):Option Bool:=
  (e9 l.Rows (fun y0=>tC y0 k0)).bind fun x1=>some x1
def mC(b:aG)(x1:Bool):Option Bool:=
  (if x1 then some false else (eP b.aP (fun y0=>yD y0 b)).bind fun x2=>some (!x2))
def DK(b:aG):Option Bool:=
  (BY b.Mem).bind fun x3=>(if !x3 then mC b true else (kW b.aK).bind fun x4=>(if !x4 then mC b true else (i7 b.aP).bind fun x5=>(if !x5 then mC b true else (xJ b.nZ).bind fun x6=>mC b (!x6))))
def PZ(x y:Int):Option (Int×Int):=
  some (IntKind.u64.wrap ((IntKind.u64.wrap ((IntKind.u64.wrap ((oY .u64 x 32) * (oY .u64 y 32)))+(oY .u64 (IntKind.u64.wrap ((IntKind.u64.wrap ((oY .u64 x 32) * (eG .and .u64 y 4294967295)))+(oY .u64 (IntKind.u64.wrap ((eG .and .u64 x 4294967295) * (eG .and .u64 y 4294967295))) 32))) 32)))+(oY .u64 (IntKind.u64.wrap ((eG .and .u64 (IntKind.u64.wrap ((IntKind.u64.wrap ((oY .u64 x 32) * (eG .and .u64 y 4294967295)))+(oY .u64 (IntKind.u64.wrap ((eG .and .u64 x 4294967295) * (eG .and .u64 y 4294967295))) 32))) 4294967295)+(IntKind.u64.wrap ((eG .and .u64 x 4294967295) * (oY .u64 y 32))))) 32)),IntKind.u64.wrap (x * y))
def KO(x y:Int):Option (Int×Int):=
  (PZ x y).bind fun x1=>some (x1.1,x1.2)
def DL(kind a_:Int):Option Sub:=
  some (⟨kind,a_,0,0,0,0,0,0,0,false⟩:Sub)
def aZ(s:Sub)(code:Int):Option Sub:=
  some ({s with Code:=code,dV:=true}:Sub)
def P0:Option Int:=
  some (-1)
def tD(x2:Int)(x3:Bool):Option (Step Int (Out Unit Int)):=
  (if x3 then some (.stop (Out.ret x2)) else some (.next (aW (x2+1))))
def gA(size:Int):Int→Option (Step Int (Out Unit Int))
  | x2=>(if decide (x2 < 3) then (if decide (1≤size) then (uP x2).bind fun x4=>tD x2 (decide (size≤x4)) else tD x2 false) else some (.stop (Out.brk ())))
def P1:(Out Unit Int)→Option Int
  | .brk ()=>P0
  | .ret r=>some r
def A7(size:Int):Option Int:=
  (loop (gA size) 0).bind (P1)
def dT(w_:Int):Option Bool:=
  (cD w_ 0 2).bind fun x1=>some x1
def yE(w_ c:Int)(x1:Bool):Option Int:=
  (if x1 then some (-1) else some (aW ((aW (w_ * 3))+c)))
def BZ(w_ c:Int):Option Int:=
  (dT w_).bind fun x2=>(if !x2 then yE w_ c true else (gX c).bind fun x3=>yE w_ c (!x3))
def pT(s:aE):Option (Int×aE):=
  (if decide ((aW ((s.aL.length:Int) - 1)) < 0) then some ((-1),s) else (idx s.aL (aW ((s.aL.length:Int) - 1))).bind fun x1=>need (0≤(aW ((s.aL.length:Int) - 1):Int)∧(aW ((s.aL.length:Int) - 1):Int)≤(aW ((s.aL.length:Int) - 1):Int)∧(aW ((s.aL.length:Int) - 1):Int)≤(s.aL.length:Int)) (some (x1,(⟨(s.aL.take ((aW ((s.aL.length:Int) - 1)).toNat)).drop 0⟩:aE))))
def tE(x1:aA)(x2:Int)(x3:Bool):Option (aA×Int):=
  (if x3 then some (x1,(-1)) else (idx x1.bD x2).bind fun x4=>(pT x4).bind fun x5=>some ((⟨x1.Global,x1.bD.set x2.toNat x5.2⟩:aA),x5.1))
def A8(l:aA)(w_ c:Int):Option (aA×Int):=
  (e7 l).bind fun x1=>(BZ w_ c).bind fun x2=>(gW l).bind fun x6=>(if !x6 then tE x1 x2 true else tE x1 x2 (decide (x2 < 0)))
def nE(c:Int)(x1:aA)(x2:Bool):Option (aA×Int):=
  (if x2 then some (x1,(-1)) else (idx x1.Global c).bind fun x3=>(pT x3).bind fun x4=>some ((⟨x1.Global.set c.toNat x4.2,x1.bD⟩:aA),x4.1))
def tF(l:aA)(c:Int):Option (aA×Int):=
  (e7 l).bind fun x1=>(gW l).bind fun x5=>(if !x5 then nE c x1 true else (gX c).bind fun x6=>nE c x1 (!x6))
def nF(width:Int):Option Bool:=
  (cD width 1 7).bind fun x1=>some x1
def VI(x8:List UInt8):Option (List UInt8):=
  some x8
def yF:(Int×(List UInt8)×Int)→Option (Step (Int×(List UInt8)×Int) (List UInt8))
  | (x5,x6,x7)=>(if decide (0≤x7) then (idx x6 x7).bind fun x9=>some (.next (oY .i64 x5 8,x6.set x7.toNat (u8 x5),aW (x7 - 1))) else some (.stop (x6)))
def VJ:(List UInt8)→Option (List UInt8)
  | x8=>VI x8
def r8(n width:Int)(x1:Bool):Option (List UInt8):=
  (if x1 then some ([]) else need (0≤(width:Int)∧(width:Int)≤4294967296) ((loop (yF) (n,List.replicate (width.toNat) 0,aW (width - 1))).bind (VJ)))
def tZ(n width:Int):Option (List UInt8):=
  (nF width).bind fun x10=>(if !x10 then r8 n width true else (if decide (n < 0) then r8 n width true else need (0≤(IntKind.u64.wrap (aW (8 * width)):Int)) (r8 n width (decide ((WG .i64 1 (IntKind.u64.wrap (aW (8 * width))))≤n)))))
def IA(b x5:List Int):Option (List Int):=
  need (x5.length=b.length) (some x5)
def vV(b:List Int)(at_:Int)(text:List UInt8):((List Int)×Int)→Option (Step ((List Int)×Int) (List Int))
  | (x3,x4)=>need (x3.length=b.length) ((if decide (x4 < (text.length:Int)) then (idx text x4).bind fun x6=>(idx x3 (aW (at_+x4))).bind fun x7=>some (.next (x3.set ((aW (at_+x4)).toNat) (x6.toNat:Int),aW (x4+1))) else some (.stop (x3))))
def IB(b:List Int):(List Int)→Option (List Int)
  | x5=>IA b x5
def pU(b:List Int)(at_:Int)(text:List UInt8):Option (List Int):=
  (loop (vV b at_ text) (b,0)).bind (IB b)
def vW(page index:Int)(x1:Bool):Option Int:=
  (if x1 then some (-1) else some (aW ((aW (page * 4))+index)))
def DM(page index:Int):Option Int:=
  (cD page 0 5).bind fun x2=>(if !x2 then vW page index true else (cD index 0 3).bind fun x3=>vW page index (!x3))
def VK(c:Int)(x1:aB)(x2:Int)(x13 x14:List Int):Option (aB×(List Int)):=
  some ((⟨x14,x1.Class.set x2.toNat c⟩:aB),x13)
def D4(x10:List Int)(x11 x15:Int)(x16:List Int):Option (Step ((List Int)×Int×(List Int)) ((List Int)×(List Int))):=
  need (x10.length+([x15]).length≤1073741824) (some (.next (x10++([x15]),aW (x11+1),x16)))
def yG(c x2 x6:Int):((List Int)×Int×(List Int))→Option (Step ((List Int)×Int×(List Int)) ((List Int)×(List Int)))
  | (x10,x11,x12)=>(if decide (x11 < x6) then (DM x2 x11).bind fun x15=>(pQ x15 c).bind fun x17=>(tZ 1 4).bind fun x18=>(pU x12 x17 x18).bind fun x19=>D4 x10 x11 x15 x19 else some (.stop ((x10,x12))))
def VL(c:Int)(x1:aB)(x2:Int):((List Int)×(List Int))→Option (aB×(List Int))
  | (x13,x14)=>VK c x1 x2 x13 x14
def D5(c:Int)(x1:aB)(x2:Int)(x5:List Int):Option (aB×(List Int)):=
  (kX c).bind fun x6=>(loop (yG c x2 x6) (([]:List Int),0,x5)).bind (VL c x1 x2)
def r9(c:Int)(x1:aB)(x2:Int)(x3:Bool):Option (aB×(List Int)):=
  (if x3 then some (x1,([]:List Int)) else (idx x1.Class x2).bind fun x4=>need (0≤(aW (x2 * 64):Int)∧(aW (x2 * 64):Int)≤(x1.Bytes.length:Int))<|(kX c).bind fun x20=>D5 c x1 x2 (cT x1.Bytes ((aW (x2 * 64)).toNat) ([171,c,x20]:List Int)))
def xK(h:aB)(c:Int):Option (aB×(List Int)):=
  (oE h).bind fun x1=>(jM h.Class (-1)).bind fun x2=>(zG h).bind fun x21=>(if !x21 then r9 c x1 x2 true else (gX c).bind fun x22=>(if !x22 then r9 c x1 x2 true else r9 c x1 x2 (decide (x2 < 0))))
def z4(x4:Int)(x5:Mem):Option (Mem×Int):=
  some (x5,x4)
def z5(c:Int)(x1:aB×(List Int))(x2:Mem):Option (Mem×Int):=
  (if (x1.2.length:Int) == 0 then some (x2,(-1)) else (idx x2.aA.Global c).bind fun x3=>need (0≤(1:Int)∧(1:Int)≤(x1.2.length:Int)) (need (x3.aL.length+((x1.2.take x1.2.length).drop ((1:Int).toNat)).length≤1073741824) ((idx x1.2 0).bind fun x6=>z4 x6 (⟨x2.aB,(⟨x2.aA.Global.set c.toNat (⟨x3.aL++((x1.2.take x1.2.length).drop ((1:Int).toNat))⟩:aE),x2.aA.bD⟩:aA)⟩:Mem))))
def A9(m:Mem)(c:Int):Option (Mem×Int):=
  (xK m.aB c).bind fun x1=>(e7 m.aA).bind fun x7=>z5 c x1 (⟨x1.1,x7⟩:Mem)
def qW(slot gen:Int)(x1:Bool):Option Int:=
  (if x1 then some 0 else some (aW ((aW (gen * 32))+slot)))
def D6(slot gen:Int):Option Int:=
  (jD slot).bind fun x2=>(if !x2 then qW slot gen true else (cD gen 1 6).bind fun x3=>qW slot gen (!x3))
def yH(m:Mem)(slot:Int):Option Int:=
  (tY m.aB slot).bind fun x1=>(D6 slot x1).bind fun x2=>some x2
def eZ(s:Sub)(x3:Int)(x4:aG):Option (Sub×aG):=
  (if decide (0≤x3) then (yH x4.Mem x3).bind fun x5=>(aZ ({s with Out:=x5}:Sub) 0).bind fun x6=>some (x6,x4) else (if s.Pc == 3 then (aZ s 3).bind fun x7=>some (x7,x4) else some (({s with Pc:=aW (s.Pc+1)}:Sub),x4)))
def j6(s:Sub)(b:aG)(x1:Int)(x9:Bool):Option (Sub×aG):=
  (if x9 then (tF b.Mem.aA x1).bind fun x10=>eZ s x10.2 ({b with Mem:=(⟨b.Mem.aB,x10.1⟩:Mem)}:aG) else (if s.Pc == 2 then (A9 b.Mem x1).bind fun x11=>eZ s x11.2 ({b with Mem:=x11.1}:aG) else (aZ s 1).bind fun x12=>some (x12,b)))
def nG(s:Sub)(b:aG)(w_:Int):Option (Sub×aG):=
  (A7 s.A).bind fun x1=>(if decide (x1 < 0) then (aZ s 2).bind fun x2=>some (x2,b) else (if s.Pc == 0 then (A8 b.Mem.aA w_ x1).bind fun x8=>eZ s x8.2 ({b with Mem:=(⟨b.Mem.aB,x8.1⟩:Mem)}:aG) else (if s.Pc == 1 then j6 s b x1 true else j6 s b x1 (s.Pc == 3))))
def lR(x1:Bool):Option Bool:=
  some x1
def mD(r_:bJ)(k0:Int):Option Bool:=
  (fP r_.Handle).bind fun x2=>(if x2 then lR ((Int.tmod r_.Handle 32) == k0) else lR false)
def vX(own:aN)(k0:Int):Option Bool:=
  (e9 own.Rows (fun y0=>mD y0 k0)).bind fun x1=>some x1
def BA(l:List aN)(slot:Int):Option Bool:=
  (eP l (fun y0=>vX y0 slot)).bind fun x1=>some x1
def qX(l:List aN)(w_ h e_:Int)(x1:Bool):Option ((List aN)×Bool):=
  (if x1 then (hQ l).bind fun x2=>some (x2,false) else (hQ l).bind fun x3=>(idx x3 w_).bind fun x4=>need (x4.Rows.length+([(⟨h,e_⟩:bJ)]).length≤1073741824) ((i7 (x3.set w_.toNat (⟨x4.Rows++([(⟨h,e_⟩:bJ)])⟩:aN))).bind fun x5=>(if !x5 then (hQ l).bind fun x6=>some (x6,false) else some (x3.set w_.toNat (⟨x4.Rows++([(⟨h,e_⟩:bJ)])⟩:aN),true))))
def yI(l:List aN)(w_ h e_:Int):Option ((List aN)×Bool):=
  (i7 l).bind fun x7=>(if !x7 then qX l w_ h e_ true else (dT w_).bind fun x8=>qX l w_ h e_ (!x8))
def i9(s:Sub)(b:aG)(w_:Int)(x3:Bool):Option (Sub×aG):=
  (if x3 then (aZ s 4).bind fun x4=>some (x4,b) else (yI b.aP w_ s.A s.E).bind fun x5=>(aZ s 0).bind fun x6=>some (x6,({b with aP:=x5.1}:aG)))
def jA(s:Sub)(b:aG)(w_:Int)(x1:Bool):Option (Sub×aG):=
  (if x1 then (aZ s 1).bind fun x2=>some (x2,b) else (uQ b.Mem s.A).bind fun x7=>(if !x7 then i9 s b w_ true else (BA b.aP (Int.tmod s.A 32)).bind fun x8=>i9 s b w_ x8))
def lS(s:Sub)(b:aG)(w_:Int):Option (Sub×aG):=
  (if s.Pc == 0 then some (({s with Pc:=1,E:=b.aK.aI}:Sub),b) else (if s.Pc != 1 then jA s b w_ true else (cD s.E 0 b.aK.aI).bind fun x9=>jA s b w_ (!x9)))
def mE(w_:Int)(x1:aK)(x4:Bool):Option (aK×Bool):=
  (if x4 then some (x1,true) else (idx x1.bM w_).bind fun x5=>(if decide (x5.Seen < 2) then some ((⟨x1.aI,x1.bM.set w_.toNat ({x5 with Seen:=aW (x5.Seen+1)}:gQ)⟩:aK),false) else some ((⟨x1.aI,x1.bM.set w_.toNat ({x5 with eR:=true,Seen:=0}:gQ)⟩:aK),true)))
def vY(w_ e_:Int)(x1:aK)(x2:Bool):Option (aK×Bool):=
  (if x2 then some (x1,false) else (idx x1.bM w_).bind fun x3=>(if !x3.On then mE w_ x1 true else (if x3.eR then mE w_ x1 true else mE w_ x1 (x3.aI == e_))))
def DN(c:aK)(w_ e_:Int):Option (aK×Bool):=
  (hO c).bind fun x1=>(kW c).bind fun x6=>(if !x6 then vY w_ e_ x1 true else (dT w_).bind fun x7=>vY w_ e_ x1 (!x7))
def vZ(x1:aK)(x2:Bool):Option (aK×Bool):=
  (if x2 then some (x1,false) else some ((⟨aW (x1.aI+1),x1.bM⟩:aK),true))
def J2(c:aK)(e_:Int):Option (aK×Bool):=
  (hO c).bind fun x1=>(kW c).bind fun x3=>(if !x3 then vZ x1 true else (if c.aI != e_ then vZ x1 true else vZ x1 (c.aI == 100000)))
def iH(s:Sub)(b:aG)(x4:aK×Bool)(x5:Int):Option (Sub×aG):=
  (aZ ({s with Out:=x5}:Sub) 0).bind fun x6=>some (x6,({b with aK:=x4.1}:aG))
def iI(s:Sub)(b:aG)(x1:Bool):Option (Sub×aG):=
  (if x1 then (DN b.aK s.B s.E).bind fun x2=>(if !x2.2 then (aZ s 8).bind fun x3=>some (x3,({b with aK:=x2.1}:aG)) else (if (aW (s.B+1)) == 3 then some (({s with Pc:=2,B:=aW (s.B+1)}:Sub),({b with aK:=x2.1}:aG)) else some (({s with B:=aW (s.B+1)}:Sub),({b with aK:=x2.1}:aG)))) else (if s.Pc == 2 then (J2 b.aK s.E).bind fun x4=>(if x4.2 then iH s b x4 1 else iH s b x4 s.Out) else (aZ s 1).bind fun x7=>some (x7,b)))
def kZ(s:Sub)(b:aG):Option (Sub×aG):=
  (if s.Pc == 0 then some (({s with Pc:=1,E:=b.aK.aI,B:=0}:Sub),b) else (if s.Pc == 1 then (dT s.B).bind fun x8=>iI s b x8 else iI s b false))
def v5(x1:Bool):Option Bool:=
  some x1
def zI(l:List aN)(w_ i:Int):Option Bool:=
  (dT w_).bind fun x2=>(if x2 then (idx l w_).bind fun x3=>(cD i 0 (aW ((x3.Rows.length:Int) - 1))).bind fun x4=>v5 x4 else v5 false)
def BC(x1:Bool):Option Bool:=
  some x1
def E9(r_:bJ)(e_:Int):Option Bool:=
  (if decide (2≤e_) then BC (decide (r_.aI≤(aW (e_ - 2)))) else BC false)
def zJ(s:Sub)(b:aG):Option (Sub×aG):=
  (aZ s 0).bind fun x3=>some (x3,b)
def dK(s:Sub)(b:aG)(w_:Int):Int→Option (Step Int (Out Unit (Sub×aG)))
  | x2=>(idx b.aP w_).bind fun x4=>(if decide (x2 < (x4.Rows.length:Int)) then (idx x4.Rows x2).bind fun x5=>(E9 x5 s.E).bind fun x6=>(if x6 then some (.stop (Out.ret (({s with Pc:=2,Row:=x2,B:=0,H:=x5.Handle}:Sub),b))) else some (.next (aW (x2+1)))) else some (.stop (Out.brk ())))
def IC(s:Sub)(b:aG):(Out Unit (Sub×aG))→Option (Sub×aG)
  | .brk ()=>zJ s b
  | .ret r=>some r
def k9(s:Sub)(b:aG)(w_:Int):Option (Sub×aG):=
  (loop (dK s b w_) (if s.Row < 0 then 0 else s.Row)).bind (IC s b)
def t7(s:List bJ)(i j:Int):Option (List bJ):=
  need (0≤(i:Int)∧(i:Int)≤(j:Int)∧(j:Int)≤((s.length:Int):Int)∧((s.length:Int):Int)≤(s.length:Int)) ((if i == j then some s else need (0≤(i:Int)∧(i:Int)≤(s.length:Int)) (need (0≤(j:Int)∧(j:Int)≤(s.length:Int)) (need (i.toNat≤j.toNat) (need (0≤(((((cT s i.toNat (s.drop j.toNat)).take (i.toNat+(s.length - j.toNat))).drop 0).length:Int):Int)∧(((((cT s i.toNat (s.drop j.toNat)).take (i.toNat+(s.length - j.toNat))).drop 0).length:Int):Int)≤((s.length:Int):Int)∧((s.length:Int):Int)≤((cT s i.toNat (s.drop j.toNat)).length:Int)) (some (((cT s i.toNat (s.drop j.toNat)).take (i.toNat+(s.length - j.toNat))).drop 0)))))))
def tG(w_ i:Int)(x1:(List aN))(x2:Bool):Option ((List aN)×Bool):=
  (if x2 then some (x1,false) else (idx x1 w_).bind fun x3=>(t7 x3.Rows i (aW (i+1))).bind fun x4=>some (x1.set w_.toNat (⟨x4⟩:aN),true))
def BD(l:List aN)(w_ i:Int):Option ((List aN)×Bool):=
  (hQ l).bind fun x1=>(i7 l).bind fun x5=>(if !x5 then tG w_ i x1 true else (zI l w_ i).bind fun x6=>tG w_ i x1 (!x6))
def B3(x3 x5:List Int):Option (aB×Bool):=
  some ((⟨x5,x3⟩:aB),true)
def v7(slot gen x1:Int)(x2 x3:List Int)(x4:Bool):Option (aB×Bool):=
  (if x4 then some ((⟨x2,x3⟩:aB),false) else (pQ slot x1).bind fun x6=>(tZ gen 4).bind fun x7=>(pU x2 x6 x7).bind fun x8=>B3 x3 x8)
def B4(slot gen x1:Int)(x2 x3:List Int):Option (aB×Bool):=
  (if decide (x1 < 0) then v7 slot gen x1 x2 x3 true else (cD gen 1 7).bind fun x9=>v7 slot gen x1 x2 x3 (!x9))
def ID(h:aB)(slot gen:Int):Option (aB×Bool):=
  (oE h).bind fun x10=>(vR h slot).bind fun x11=>B4 slot gen x11 x10.Bytes x10.Class
def qY(c slot:Int)(x1:aA)(x2:Int)(x3:Bool):Option (aA×Bool):=
  (if x3 then some (x1,false) else (idx x1.bD x2).bind fun x4=>(if decide (2≤(x4.aL.length:Int)) then (idx x1.Global c).bind fun x5=>need (x5.aL.length+([slot]).length≤1073741824) (some ((⟨x1.Global.set c.toNat (⟨x5.aL++([slot])⟩:aE),x1.bD⟩:aA),true)) else need (x4.aL.length+([slot]).length≤1073741824) (some ((⟨x1.Global,x1.bD.set x2.toNat (⟨x4.aL++([slot])⟩:aE)⟩:aA),true))))
def N4(l:aA)(w_ c slot:Int):Option (aA×Bool):=
  (e7 l).bind fun x1=>(BZ w_ c).bind fun x2=>(gW l).bind fun x6=>(if !x6 then qY c slot x1 x2 true else (if decide (x2 < 0) then qY c slot x1 x2 true else (jD slot).bind fun x7=>(if !x7 then qY c slot x1 x2 true else (zH l slot).bind fun x8=>qY c slot x1 x2 x8)))
def D7(x3:Mem):Option Mem:=
  some x3
def D8(m:Mem)(w_ h:Int)(x2:Mem):Option Mem:=
  (if decide ((aW ((aW (Int.tdiv h 32))+1))≤6) then (kY m.aB (Int.tmod h 32)).bind fun x4=>(N4 m.aA w_ x4 (Int.tmod h 32)).bind fun x5=>D7 (⟨x2.aB,x5.1⟩:Mem) else D7 x2)
def F5(m:Mem)(w_ h:Int):Option Mem:=
  (ID m.aB (Int.tmod h 32) (aW ((aW (Int.tdiv h 32))+1))).bind fun x1=>(e7 m.aA).bind fun x6=>D8 m w_ h (⟨x1.1,x6⟩:Mem)
def cG(s:Sub)(b:aG)(w_:Int)(x5:Bool):Option (Sub×aG):=
  (if x5 then (BD b.aP w_ s.Row).bind fun x6=>(F5 b.Mem w_ s.H).bind fun x7=>some (({s with Pc:=1,Out:=aW (s.Out+1)}:Sub),({b with Mem:=x7,aP:=x6.1}:aG)) else (aZ s 1).bind fun x8=>some (x8,b))
def dB(s:Sub)(b:aG)(w_:Int)(x1 x3:Bool):Option (Sub×aG):=
  (if x3 then (idx b.nZ s.B).bind fun x4=>(if x4 == s.H then some (({s with Pc:=1,Row:=aW (s.Row+1)}:Sub),b) else (if (aW (s.B+1)) == 3 then some (({s with Pc:=3,B:=aW (s.B+1)}:Sub),b) else some (({s with B:=aW (s.B+1)}:Sub),b))) else (if s.Pc == 3 then (if x1 then (idx b.aP w_).bind fun x9=>(idx x9.Rows s.Row).bind fun x10=>(E9 x10 s.E).bind fun x11=>cG s b w_ x11 else cG s b w_ false) else cG s b w_ false))
def dR(s:Sub)(b:aG)(w_:Int)(x1:Bool):Option (Sub×aG):=
  (if s.Pc == 0 then some (({s with Pc:=1,E:=b.aK.aI,Row:=0}:Sub),b) else (if s.Pc == 1 then (k9 s b w_).bind fun x2=>some (x2.1,x2.2) else (if s.Pc == 2 then (dT s.B).bind fun x12=>(if x12 then dB s b w_ x1 x1 else dB s b w_ x1 false) else dB s b w_ x1 false)))
def lA(s:Sub)(b:aG)(w_:Int):Option (Sub×aG):=
  (zI b.aP w_ s.Row).bind fun x13=>(if x13 then (idx b.aP w_).bind fun x14=>(idx x14.Rows s.Row).bind fun x15=>dR s b w_ (x15.Handle == s.H) else dR s b w_ false)
def sA(w_ e_:Int)(x1:aK)(x2:Bool):Option (aK×Bool):=
  (if x2 then some (x1,false) else (idx x1.bM w_).bind fun x3=>some ((⟨x1.aI,x1.bM.set w_.toNat (⟨true,e_,false,0⟩:gQ)⟩:aK),true))
def F6(c:aK)(w_ e_:Int):Option (aK×Bool):=
  (hO c).bind fun x1=>(kW c).bind fun x4=>(if !x4 then sA w_ e_ x1 true else (dT w_).bind fun x5=>(if !x5 then sA w_ e_ x1 true else (cD e_ 0 c.aI).bind fun x6=>sA w_ e_ x1 (!x6)))
def rM(s:Sub)(b:aG)(x1:Bool)(x2:Int)(x3:List gQ):Option (Sub×aG):=
  (if !x1 then (aZ s 1).bind fun x4=>some (x4,b) else some (({s with Pc:=2}:Sub),({b with aK:=(⟨x2,x3⟩:aK)}:aG)))
def qZ(s:Sub)(b:aG)(w_:Int):Option (Sub×aG):=
  (if s.Pc == 0 then some (({s with Pc:=1,E:=b.aK.aI}:Sub),b) else (if s.Pc == 1 then (F6 b.aK w_ s.E).bind fun x5=>rM s b x5.2 x5.1.aI x5.1.bM else (if s.Pc == 2 then (if b.aK.aI == s.E then (aZ s 0).bind fun x6=>some (x6,b) else some (({s with Pc:=0}:Sub),b)) else (aZ s 1).bind fun x7=>some (x7,b))))
def lG(s:Sub)(b:aG)(w_:Int):Option (Sub×aG):=
  (if s.dV then some (s,b) else (if s.Kind == 1 then (nG s b w_).bind fun x1=>some (x1.1,x1.2) else (if s.Kind == 2 then (lS s b w_).bind fun x2=>some (x2.1,x2.2) else (if s.Kind == 3 then (kZ s b).bind fun x3=>some (x3.1,x3.2) else (if s.Kind == 4 then (lA s b w_).bind fun x4=>some (x4.1,x4.2) else (if s.Kind == 5 then (qZ s b w_).bind fun x5=>some (x5.1,x5.2) else (aZ s 1).bind fun x6=>some (x6,b)))))))
def F7(slot c:Int):Option Int:=
  (pQ slot c).bind fun x1=>(if decide (x1 < 0) then some (-1) else some (aW (x1+4)))
def MX(slot c:Int):Option Span:=
  (F7 slot c).bind fun x1=>(if decide (x1 < 0) then some (⟨0,0⟩:Span) else (uP c).bind fun x2=>some (⟨x1,aW (x1+x2)⟩:Span))
def BE(h:aB)(slot at_ width:Int):Option Int:=
  (kY h slot).bind fun x1=>(MX slot x1).bind fun x2=>(cD at_ 0 (aW ((aW (x2.To - x2.aKI)) - width))).bind fun x3=>(if !x3 then some (-1) else some (aW (x2.aKI+at_)))
def B5(m:Mem)(h at_ width:Int)(x1:Bool):Option (Int×Int):=
  (if x1 then some (0,1) else (uQ m h).bind fun x2=>(if !x2 then some (0,4) else (BE m.aB (Int.tmod h 32) at_ width).bind fun x3=>(if decide (x3 < 0) then some (0,2) else (nA m.aB.Bytes x3 width).bind fun x4=>some (x4,0))))
def OX(m:Mem)(h at_ width:Int):Option (Int×Int):=
  (BY m).bind fun x5=>(if !x5 then B5 m h at_ width true else (nF width).bind fun x6=>B5 m h at_ width (!x6))
def P2(x4:Mem):Option (Mem×Int):=
  some (x4,0)
def MY(m:Mem)(h at_ width n:Int):Option (Mem×Int):=
  (vN m).bind fun x1=>(tZ n width).bind fun x2=>(OX m h at_ width).bind fun x3=>(if x3.2 != 0 then some (x1,x3.2) else (if x2 == ([]) then some (x1,1) else (BE m.aB (Int.tmod h 32) at_ width).bind fun x5=>(pU x1.aB.Bytes x5 x2).bind fun x6=>P2 (⟨(⟨x6,x1.aB.Class⟩:aB),x1.aA⟩:Mem)))
def yJ(w_:Int)(x1:aK)(x2:Bool):Option (aK×Bool):=
  (if x2 then some (x1,false) else (idx x1.bM w_).bind fun x3=>some ((⟨x1.aI,x1.bM.set w_.toNat (⟨false,0,false,0⟩:gQ)⟩:aK),true))
def S4(c:aK)(w_:Int):Option (aK×Bool):=
  (hO c).bind fun x1=>(kW c).bind fun x4=>(if !x4 then yJ w_ x1 true else (dT w_).bind fun x5=>(if !x5 then yJ w_ x1 true else (idx c.bM w_).bind fun x6=>yJ w_ x1 (!x6.On)))
def tH(w_ h:Int)(x1:(List Int))(x2:Bool):Option ((List Int)×Bool):=
  (if x2 then some (x1,false) else (idx x1 w_).bind fun x3=>some (x1.set w_.toNat h,true))
def MZ(z:List Int)(w_ h:Int):Option ((List Int)×Bool):=
  (d6 z).bind fun x1=>(xJ z).bind fun x4=>(if !x4 then tH w_ h x1 true else (dT w_).bind fun x5=>(if !x5 then tH w_ h x1 true else (fP h).bind fun x6=>tH w_ h x1 (!x6)))
def yK(w_:Int)(x1:(List Int))(x2:Bool):Option ((List Int)×Bool):=
  (if x2 then some (x1,false) else (idx x1 w_).bind fun x3=>some (x1.set w_.toNat 0,true))
def S5(z:List Int)(w_:Int):Option ((List Int)×Bool):=
  (d6 z).bind fun x1=>(xJ z).bind fun x4=>(if !x4 then yK w_ x1 true else (dT w_).bind fun x5=>(if !x5 then yK w_ x1 true else (idx z w_).bind fun x6=>yK w_ x1 (x6 == 0)))
def S6(code:List UInt8):Option Bool:=
  some (decide (1048576 < (code.length:Int)))
def VM(x5:Int):Option (Int×Int):=
  some (0,x5)
def yL(code:List UInt8)(x3 x4:Int)(x6:Bool):Option (Step (Int×Int) Int):=
  (if x6 then (idx code x4).bind fun x7=>some (.next (eG .and .i64 (aW ((aW ((aW (x3 * 131))+(x7.toNat:Int)))+7)) 1073741823,aW (x4+1))) else some (.stop (x3)))
def KP(code:List UInt8):(Int×Int)→Option (Step (Int×Int) Int)
  | (x3,x4)=>(if decide (x4 < (code.length:Int)) then yL code x3 x4 (decide (x4 < 4000)) else yL code x3 x4 false)
def VN:Int→Option (Int×Int)
  | x5=>VM x5
def F8(code:List UInt8):Option (Int×Int):=
  (loop (KP code) (aW (10101+(code.length:Int)),0)).bind (VN)
def v8(c:aM)(x1 x2:Int):Option (Int×(Int×Int)):=
  some (x1,(x2,aW ((aW (c.h * 6364136223846793005))+1442695040888963407)))
def mW(c:aM):Option (Int×(Int×Int)):=
  (if decide (c.i < (c.b.length:Int)) then (idx c.b c.i).bind fun x3=>v8 c (eG .and .i64 (aW ((eG .and .i64 (eG .xor .i64 (oY .i64 (aW ((aW (c.h * 6364136223846793005))+1442695040888963407)) 33) (oY .i64 (aW ((aW (c.h * 6364136223846793005))+1442695040888963407)) 45)) 255)+(x3.toNat:Int))) 255) (aW (c.i+1)) else v8 c (eG .and .i64 (eG .xor .i64 (oY .i64 (aW ((aW (c.h * 6364136223846793005))+1442695040888963407)) 33) (oY .i64 (aW ((aW (c.h * 6364136223846793005))+1442695040888963407)) 45)) 255) c.i)
def aQ(c:aM)(n:Int):Option (Int×(Int×Int)):=
  (if decide (n≤0) then some (0,(c.i,c.h)) else (if decide (n≤256) then (mW c).bind fun x1=>need (n≠0) (some (Int.tmod x1.1 n,(x1.2.1,x1.2.2))) else (mW c).bind fun x2=>(mW (⟨c.b,x2.2.1,x2.2.2⟩:aM)).bind fun x3=>(mW (⟨c.b,x3.2.1,x3.2.2⟩:aM)).bind fun x4=>(mW (⟨c.b,x4.2.1,x4.2.2⟩:aM)).bind fun x5=>need (n≠0) (some (Int.tmod (aW ((aW ((aW ((aW (x2.1 * 16777216))+(aW (x3.1 * 65536))))+(aW (x4.1 * 256))))+x5.1)) n,(x5.2.1,x5.2.2)))))
def hU(c:aM)(list:List Int):Option (Int×(Int×Int)):=
  (aQ c (list.length:Int)).bind fun x1=>(idx list x1.1).bind fun x2=>some (x2,(x1.2.1,x1.2.2))
def pW(c:aM)(n:Int):Option (Bool×(Int×Int)):=
  (aQ c n).bind fun x1=>some (x1.1 == 0,(x1.2.1,x1.2.2))
def P3(x5:List Int):Option aB:=
  some (⟨List.replicate ((384:Int).toNat) 0,x5⟩:aB)
def nW:(Int×(List Int))→Option (Step (Int×(List Int)) (List Int))
  | (x3,x4)=>(if decide (x3 < 6) then need (x4.length+([(-1)]).length≤1073741824) (some (.next (aW (x3+1),x4++([(-1)])))) else some (.stop (x4)))
def P4:(List Int)→Option aB
  | x5=>P3 x5
def v9:Option aB:=
  need (0≤(384:Int)∧(384:Int)≤4294967296) ((loop (nW) (0,[])).bind (P4))
def q5:Option aA:=
  some (⟨List.replicate ((3:Int).toNat) (⟨[]⟩:aE),List.replicate ((9:Int).toNat) (⟨[]⟩:aE)⟩:aA)
def oJ:Option aA:=
  need (0≤(3:Int)∧(3:Int)≤4294967296)<|need (0≤(9:Int)∧(9:Int)≤4294967296)<|q5
def zK:Option Mem:=
  (v9).bind fun x1=>(oJ).bind fun x2=>some (⟨x1,x2⟩:Mem)
def sB:Option aK:=
  need (0≤(3:Int)∧(3:Int)≤4294967296) (some (⟨0,List.replicate ((3:Int).toNat) (⟨false,0,false,0⟩:gQ)⟩:aK))
def sC:Option (List aN):=
  need (0≤(3:Int)∧(3:Int)≤4294967296) (some (List.replicate ((3:Int).toNat) (⟨[]⟩:aN)))
def zL:Option (List Int):=
  need (0≤(3:Int)∧(3:Int)≤4294967296) (some (List.replicate ((3:Int).toNat) 0))
def BF:Option aG:=
  (zK).bind fun x1=>(sB).bind fun x2=>(sC).bind fun x3=>(zL).bind fun x4=>some (⟨x1,x2,x3,x4⟩:aG)
def S7(x10:Sub)(x11:aG):Option (aG×Sub):=
  some (x11,x10)
def mF(w_ x7:Int)(x8:Sub)(x12:Bool)(x13:aG):Option (Step (Int×Sub×aG) (Sub×aG)):=
  (if x12 then (xI x13 w_ x8).bind fun x14=>some (.next (aW (x7+1),x14.2,x14.1)) else some (.stop ((x8,x13))))
def pX(w_:Int):(Int×Sub×aG)→Option (Step (Int×Sub×aG) (Sub×aG))
  | (x7,x8,x9)=>(if decide (x7 < 200) then mF w_ x7 x8 (!x8.dV) x9 else mF w_ x7 x8 false x9)
def S8:(Sub×aG)→Option (aG×Sub)
  | (x10,x11)=>S7 x10 x11
def wA(w_:Int)(s:Sub)(x2:Bool)(x3:aG):Option (aG×Sub):=
  (if x2 then some (x3,s) else (loop (pX w_) (0,s,x3)).bind (S8))
def lB(b:aG)(w_:Int)(s:Sub):Option (aG×Sub):=
  (A1 b).bind fun x1=>(pC b).bind fun x15=>(if !x15 then wA w_ s true x1 else (bH w_ 0 2).bind fun x16=>wA w_ s (!x16) x1)
def z6(x17 x18 x19:Int)(x20:aG):Option (aG×Int×(Int×Int)):=
  some (x20,x17,(x18,x19))
def G3(c:aM)(x13:List Int)(x14 x15:Int)(x16:aG):Option (aG×Int×(Int×Int)):=
  (aQ (⟨c.b,x14,x15⟩:aM) (x13.length:Int)).bind fun x21=>(idx x13 x21.1).bind fun x22=>z6 x22 x21.2.1 x21.2.2 x16
def dJ(x9:Int)(x23:List Int)(x24 x25:Int)(x26:aG):Option (Step ((List Int)×Int×Int×Int×aG) ((List Int)×Int×Int×aG)):=
  some (.next (x23,aW (x9 - 1),x24,x25,x26))
def z7(x8:List Int)(x9:Int)(x37:Sub)(x38 x39:Int)(x40:aG)(x41:Mem):Option (Step ((List Int)×Int×Int×Int×aG) ((List Int)×Int×Int×aG)):=
  dJ x9 (x8++([x37.Out])) x38 x39 ({x40 with Mem:=x41}:aG)
def z8(c:aM)(x8:List Int)(x9 x33 x34:Int)(x35 x36:aG)(x37:Sub):Option (Step ((List Int)×Int×Int×Int×aG) ((List Int)×Int×Int×aG)):=
  (if x37.Out != 0 then need (x8.length+([x37.Out]).length≤1073741824) ((aQ (⟨c.b,x33,x34⟩:aM) 60000).bind fun x42=>(m8 x36.Mem x37.Out 0 4 x42.1).bind fun x43=>z7 x8 x9 x37 x42.2.1 x42.2.2 x36 x43.1) else dJ x9 x8 x33 x34 x36)
def z9(x8:List Int)(x9:Int)(x30:Int×(Int×Int))(x49:aG):Option (Step ((List Int)×Int×Int×Int×aG) ((List Int)×Int×Int×aG)):=
  dJ x9 x8 x30.2.1 x30.2.2 x49
def xL(x8:List Int)(x9:Int)(x30:Int×(Int×Int))(x54:aG):Option (Step ((List Int)×Int×Int×Int×aG) ((List Int)×Int×Int×aG)):=
  dJ x9 x8 x30.2.1 x30.2.2 x54
def xM(x8:List Int)(x9:Int)(x30:Int×(Int×Int))(x57:aG):Option (Step ((List Int)×Int×Int×Int×aG) ((List Int)×Int×Int×aG)):=
  dJ x9 x8 x30.2.1 x30.2.2 x57
def xN(x8:List Int)(x9:Int)(x30:Int×(Int×Int))(x60:aG):Option (Step ((List Int)×Int×Int×Int×aG) ((List Int)×Int×Int×aG)):=
  dJ x9 x8 x30.2.1 x30.2.2 x60
def nX(c:aM)(x8:List Int)(x9:Int)(x27:Int×(Int×Int))(x29:Int)(x30:Int×(Int×Int))(x52:Bool)(x53:aG):Option (Step ((List Int)×Int×Int×Int×aG) ((List Int)×Int×Int×aG)):=
  (if x52 then (kU 3 0).bind fun x55=>(lB x53 x27.1 x55).bind fun x56=>xL x8 x9 x30 x56.1 else (if x30.1 == 8 then (kU 4 0).bind fun x58=>(lB x53 x27.1 x58).bind fun x59=>xM x8 x9 x30 x59.1 else (if x30.1 == 9 then (kU 5 0).bind fun x61=>(lB x53 x27.1 x61).bind fun x62=>xN x8 x9 x30 x62.1 else (if x30.1 == 10 then (BX x53.aK x27.1).bind fun x63=>dJ x9 x8 x30.2.1 x30.2.2 ({x53 with aK:=x63.1}:aG) else (vI x53.nZ x27.1 x29).bind fun x64=>(pW (⟨c.b,x30.2.1,x30.2.2⟩:aM) 3).bind fun x65=>(if x65.1 then (FY x64.1 x27.1).bind fun x66=>dJ x9 x8 x65.2.1 x65.2.2 ({x53 with nZ:=x66.1}:aG) else dJ x9 x8 x65.2.1 x65.2.2 ({x53 with nZ:=x64.1}:aG))))))
def nY(c:aM)(x8:List Int)(x9:Int)(x27:Int×(Int×Int))(x29:Int)(x30:Int×(Int×Int))(x47:Bool)(x48:aG):Option (Step ((List Int)×Int×Int×Int×aG) ((List Int)×Int×Int×aG)):=
  (if x47 then (kU 2 x29).bind fun x50=>(lB x48 x27.1 x50).bind fun x51=>z9 x8 x9 x30 x51.1 else (if x30.1 == 6 then nX c x8 x9 x27 x29 x30 true x48 else nX c x8 x9 x27 x29 x30 (x30.1 == 7) x48))
def iT(c:aM)(x8:List Int)(x9:Int)(x27:Int×(Int×Int))(x29:Int)(x30:Int×(Int×Int))(x31:Bool)(x32:aG):Option (Step ((List Int)×Int×Int×Int×aG) ((List Int)×Int×Int×aG)):=
  (if x31 then (aQ (⟨c.b,x30.2.1,x30.2.2⟩:aM) 40).bind fun x44=>(kU 1 (aW (1+x44.1))).bind fun x45=>(lB x32 x27.1 x45).bind fun x46=>z8 c x8 x9 x44.2.1 x44.2.2 x32 x46.1 x46.2 else (if x30.1 == 4 then nY c x8 x9 x27 x29 x30 true x32 else nY c x8 x9 x27 x29 x30 (x30.1 == 5) x32))
def G4(c:aM):((List Int)×Int×Int×Int×aG)→Option (Step ((List Int)×Int×Int×Int×aG) ((List Int)×Int×Int×aG))
  | (x8,x9,x10,x11,x12)=>(if decide (0 < x9) then (aQ (⟨c.b,x10,x11⟩:aM) 3).bind fun x27=>(aQ (⟨c.b,x27.2.1,x27.2.2⟩:aM) (x8.length:Int)).bind fun x28=>(idx x8 x28.1).bind fun x29=>(aQ (⟨c.b,x28.2.1,x28.2.2⟩:aM) 12).bind fun x30=>(if x30.1 == 0 then iT c x8 x9 x27 x29 x30 true x12 else (if x30.1 == 1 then iT c x8 x9 x27 x29 x30 true x12 else (if x30.1 == 2 then iT c x8 x9 x27 x29 x30 true x12 else iT c x8 x9 x27 x29 x30 (x30.1 == 3) x12))) else some (.stop ((x8,x10,x11,x12))))
def G5(c:aM):((List Int)×Int×Int×aG)→Option (aG×Int×(Int×Int))
  | (x13,x14,x15,x16)=>G3 c x13 x14 x15 x16
def BG(c:aM)(most:Int):Option (aG×Int×(Int×Int)):=
  (BF).bind fun x1=>(aQ c most).bind fun x2=>(loop (G4 c) ([0],x2.1,x2.2.1,x2.2.2,x1)).bind (G5 c)
def oK(c:aM):Option (Int×(Int×Int)):=
  (pW c 8).bind fun x1=>(if x1.1 then (hU (⟨c.b,x1.2.1,x1.2.2⟩:aM) ([0,(-1),31,32,55,56,63,64,192,215,216,223,224]:List Int)).bind fun x2=>some (x2.1,(x2.2.1,x2.2.2)) else (aQ (⟨c.b,x1.2.1,x1.2.2⟩:aM) 24).bind fun x3=>(aQ (⟨c.b,x3.2.1,x3.2.2⟩:aM) 6).bind fun x4=>(jC x3.1 (aW (1+x4.1))).bind fun x5=>some (x5,(x4.2.1,x4.2.2)))
def tI(x1:aA)(x2:Int)(x3:Bool):Option (aA×Int):=
  (if x3 then some (x1,(-1)) else (idx x1.bD x2).bind fun x4=>(iM x4).bind fun x5=>some ((⟨x1.Global,x1.bD.set x2.toNat x5.1⟩:aA),x5.2))
def BH(l:aA)(w_ c:Int):Option (aA×Int):=
  (pD l).bind fun x1=>(jO w_ c).bind fun x2=>(mZ l).bind fun x6=>(if !x6 then tI x1 x2 true else tI x1 x2 (decide (x2 < 0)))
def nH(c:Int)(x1:aA)(x2:Bool):Option (aA×Int):=
  (if x2 then some (x1,(-1)) else (idx x1.Global c).bind fun x3=>(iM x3).bind fun x4=>some ((⟨x1.Global.set c.toNat x4.1,x1.bD⟩:aA),x4.2))
def tJ(l:aA)(c:Int):Option (aA×Int):=
  (pD l).bind fun x1=>(mZ l).bind fun x5=>(if !x5 then nH c x1 true else (bH c 0 2).bind fun x6=>nH c x1 (!x6))
def mG(x10:Int)(x11:Mem):Option (Mem×Int×Int):=
  (if decide (x10 < 0) then some (x11,0,3) else (lD x11 x10).bind fun x12=>some (x11,x12,0))
def mH(x2 x6:Int)(x7:Mem)(x8 x9:List aE):Option (Mem×Int×Int):=
  (if decide (x6 < 0) then (m5 (⟨x7.aB,(⟨x8,x9⟩:aA)⟩:Mem) x2).bind fun x13=>mG x13.2 x13.1 else mG x6 (⟨x7.aB,(⟨x8,x9⟩:aA)⟩:Mem))
def q6(w_ x2:Int)(x3:Bool)(x4:Mem):Option (Mem×Int×Int):=
  (if x3 then some (x4,0,1) else (if decide (x2 < 0) then some (x4,0,2) else (BH x4.aA w_ x2).bind fun x5=>(if decide (x5.2 < 0) then (tJ x5.1 x2).bind fun x14=>mH x2 x14.2 x4 x14.1.Global x14.1.bD else mH x2 x5.2 x4 x5.1.Global x5.1.bD)))
def yN(m:Mem)(w_ size:Int):Option (Mem×Int×Int):=
  (pE m).bind fun x1=>(m4 size).bind fun x2=>(m3 m).bind fun x15=>(if !x15 then q6 w_ x2 true x1 else (bH w_ 0 2).bind fun x16=>q6 w_ x2 (!x16) x1)
def tK(m:Mem)(w_ h:Int)(x2:Bool)(x3:Mem):Option (Mem×Int):=
  (if x2 then some (x3,1) else (kR m h).bind fun x4=>(if !x4 then some (x3,4) else (d5 h).bind fun x5=>(pJ x3 w_ x5).bind fun x6=>some (x6,0)))
def BI(m:Mem)(w_ h:Int):Option (Mem×Int):=
  (pE m).bind fun x1=>(m3 m).bind fun x7=>(if !x7 then tK m w_ h true x1 else (bH w_ 0 2).bind fun x8=>tK m w_ h (!x8) x1)
def B6(x17 x18 x19:Int)(x20:Mem):Option (Mem×Int×(Int×Int)):=
  some (x20,x17,(x18,x19))
def IE(c:aM)(x13:List Int)(x14 x15:Int)(x16:Mem):Option (Mem×Int×(Int×Int)):=
  (aQ (⟨c.b,x14,x15⟩:aM) (x13.length:Int)).bind fun x21=>(idx x13 x21.1).bind fun x22=>B6 x22 x21.2.1 x21.2.2 x16
def mI(x9:Int)(x23:List Int)(x24 x25:Int)(x26:Mem):Option (Step ((List Int)×Int×Int×Int×Mem) ((List Int)×Int×Int×Mem)):=
  some (.next (x23,aW (x9 - 1),x24,x25,x26))
def B7(x8:List Int)(x9 x31 x32:Int)(x33 x34:Mem):Option (Step ((List Int)×Int×Int×Int×Mem) ((List Int)×Int×Int×Mem)):=
  mI x9 x8 x31 x32 x34
def B8(x8:List Int)(x9 x39 x45 x46:Int)(x47 x48:Mem):Option (Step ((List Int)×Int×Int×Int×Mem) ((List Int)×Int×Int×Mem)):=
  mI x9 (x8++([x39])) x45 x46 x48
def B9(c:aM)(x8:List Int)(x9 x39 x40 x41 x42:Int)(x43 x44:Mem):Option (Step ((List Int)×Int×Int×Int×Mem) ((List Int)×Int×Int×Mem)):=
  (if x40 == 0 then need (x8.length+([x39]).length≤1073741824) ((aQ (⟨c.b,x41,x42⟩:aM) 5).bind fun x49=>(aQ (⟨c.b,x49.2.1,x49.2.2⟩:aM) 3).bind fun x50=>(aQ (⟨c.b,x50.2.1,x50.2.2⟩:aM) 256).bind fun x51=>(m8 x44 x39 x49.1 (aW (1+x50.1)) x51.1).bind fun x52=>B8 x8 x9 x39 x51.2.1 x51.2.2 x44 x52.1) else mI x9 x8 x41 x42 x44)
def pY(c:aM)(x8:List Int)(x9:Int)(x27:Bool)(x28 x29:Int)(x30:Mem):Option (Step ((List Int)×Int×Int×Int×Mem) ((List Int)×Int×Int×Mem)):=
  (if x27 then (aQ (⟨c.b,x28,x29⟩:aM) 3).bind fun x35=>(aQ (⟨c.b,x35.2.1,x35.2.2⟩:aM) (x8.length:Int)).bind fun x36=>(idx x8 x36.1).bind fun x37=>(BI x30 x35.1 x37).bind fun x38=>B7 x8 x9 x36.2.1 x36.2.2 x30 x38.1 else (aQ (⟨c.b,x28,x29⟩:aM) 3).bind fun x53=>(aQ (⟨c.b,x53.2.1,x53.2.2⟩:aM) 40).bind fun x54=>(yN x30 x53.1 (aW (1+x54.1))).bind fun x55=>B9 c x8 x9 x55.2.1 x55.2.2 x54.2.1 x54.2.2 x30 x55.1)
def IF(c:aM):((List Int)×Int×Int×Int×Mem)→Option (Step ((List Int)×Int×Int×Int×Mem) ((List Int)×Int×Int×Mem))
  | (x8,x9,x10,x11,x12)=>(if decide (0 < x9) then (pW (⟨c.b,x10,x11⟩:aM) 3).bind fun x56=>(if x56.1 then pY c x8 x9 (decide (1 < (x8.length:Int))) x56.2.1 x56.2.2 x12 else pY c x8 x9 false x56.2.1 x56.2.2 x12) else some (.stop ((x8,x10,x11,x12))))
def IG(c:aM):((List Int)×Int×Int×Mem)→Option (Mem×Int×(Int×Int))
  | (x13,x14,x15,x16)=>IE c x13 x14 x15 x16
def DO(c:aM)(most:Int):Option (Mem×Int×(Int×Int)):=
  (zK).bind fun x1=>(aQ c most).bind fun x2=>(loop (IF c) ([0],x2.1,x2.2.1,x2.2.2,x1)).bind (IG c)
def yO(c:Int)(x1:aB)(x2:Bool):Option (aB×(List Int)):=
  (if x2 then some (x1,([]:List Int)) else (i5 x1 c).bind fun x3=>some (x3.1,x3.2))
def F9(h:aB)(c:Int):Option (aB×(List Int)):=
  (uK h).bind fun x1=>(uI h).bind fun x4=>(if !x4 then yO c x1 true else (bH c 0 2).bind fun x5=>yO c x1 (!x5))
def GA(h:aB)(slot:Int):Option Int:=
  (uX h).bind fun x1=>(if !x1 then some (-1) else (gR h slot).bind fun x2=>some x2)
def IH(x1:aB)(x3:List Int):Option (aB×Bool):=
  some ((⟨x3,x1.Class⟩:aB),true)
def wB(h:aB)(slot gen:Int)(x1:aB)(x2:Bool):Option (aB×Bool):=
  (if x2 then some (x1,false) else (gR h slot).bind fun x4=>(mY slot x4).bind fun x5=>(gU x1.Bytes x5 4 gen).bind fun x6=>IH x1 x6)
def DP(h:aB)(slot gen:Int):Option (aB×Bool):=
  (uK h).bind fun x1=>(GA h slot).bind fun x7=>(if decide (x7 < 0) then wB h slot gen x1 true else (bH gen 1 7).bind fun x8=>wB h slot gen x1 (!x8))
def S9(x13 x14:Int)(x15 x16:List Int):Option (aB×(Int×Int)):=
  some ((⟨x15,x16⟩:aB),(x13,x14))
def II(x8 x32 x33:Int)(x34 x35:List Int):Option (Step (Int×Int×Int×(List Int)×(List Int)) (Int×Int×(List Int)×(List Int))):=
  some (.next (aW (x8 - 1),x32,x33,x34,x35))
def wC(x27 x36 x37:Int)(x38 x39:List Int):Option (Step (Int×Int×Int×(List Int)×(List Int)) (Int×Int×(List Int)×(List Int))):=
  some (.next (aW (x27+1),x36,x37,x38,x39))
def CA(x27 x41 x42:Int)(x43 x44:List Int):Option (Step (Int×Int×Int×(List Int)×(List Int)) (Int×Int×(List Int)×(List Int))):=
  wC x27 x41 x42 x43 x44
def IJ(c:aM)(x17:List Int):(Int×Int×Int×(List Int)×(List Int))→Option (Step (Int×Int×Int×(List Int)×(List Int)) (Int×Int×(List Int)×(List Int)))
  | (x27,x28,x29,x30,x31)=>(if decide (x27 < (x17.length:Int)) then (pW (⟨c.b,x28,x29⟩:aM) 3).bind fun x40=>(if x40.1 then (idx x17 x27).bind fun x45=>(aQ (⟨c.b,x40.2.1,x40.2.2⟩:aM) 7).bind fun x46=>(DP (⟨x30,x31⟩:aB) x45 (aW (1+x46.1))).bind fun x47=>CA x27 x46.2.1 x46.2.2 x47.1.Bytes x47.1.Class else wC x27 x40.2.1 x40.2.2 x30 x31) else some (.stop ((x28,x29,x30,x31))))
def IK(x8:Int):(Int×Int×(List Int)×(List Int))→Option (Step (Int×Int×Int×(List Int)×(List Int)) (Int×Int×(List Int)×(List Int)))
  | (x32,x33,x34,x35)=>II x8 x32 x33 x34 x35
def CB(c:aM)(x8:Int)(x17:List Int)(x18 x19:Int)(x20 x21:List Int):Option (Step (Int×Int×Int×(List Int)×(List Int)) (Int×Int×(List Int)×(List Int))):=
  (loop (IJ c x17) (0,x18,x19,x20,x21)).bind (IK x8)
def IL(c:aM):(Int×Int×Int×(List Int)×(List Int))→Option (Step (Int×Int×Int×(List Int)×(List Int)) (Int×Int×(List Int)×(List Int)))
  | (x8,x9,x10,x11,x12)=>(if decide (0 < x8) then (aQ (⟨c.b,x9,x10⟩:aM) 3).bind fun x48=>(F9 (⟨x11,x12⟩:aB) x48.1).bind fun x49=>CB c x8 x49.2 x48.2.1 x48.2.2 x49.1.Bytes x49.1.Class else some (.stop ((x9,x10,x11,x12))))
def TA:(Int×Int×(List Int)×(List Int))→Option (aB×(Int×Int))
  | (x13,x14,x15,x16)=>S9 x13 x14 x15 x16
def DQ(c:aM):Option (aB×(Int×Int)):=
  (v9).bind fun x1=>(aQ c 7).bind fun x2=>(loop (IL c) (x2.1,x2.2.1,x2.2.2,x1.Bytes,x1.Class)).bind (TA)
def jE(x2 x3:Int)(x4 x5:List Int):Option (aB×(Int×Int)):=
  some ((⟨x4,x5⟩:aB),(x2,x3))
def D9(x1:aB×(Int×Int))(x7 x8:Int)(x9:List Int):Option (aB×(Int×Int)):=
  jE x7 x8 x9 x1.1.Class
def EA(x1:aB×(Int×Int))(x11 x12:Int)(x13:List Int):Option (aB×(Int×Int)):=
  jE x11 x12 x1.1.Bytes x13
def EB(x1:aB×(Int×Int))(x17 x18:Int)(x19:List Int):Option (aB×(Int×Int)):=
  jE x17 x18 x19 x1.1.Class
def GB(c:aM):Option (aB×(Int×Int)):=
  (DQ c).bind fun x1=>(aQ (⟨c.b,x1.2.1,x1.2.2⟩:aM) 24).bind fun x6=>(if x6.1 == 0 then (aQ (⟨c.b,x6.2.1,x6.2.2⟩:aM) (x1.1.Bytes.length:Int)).bind fun x10=>need (0≤(x10.1:Int)∧(x10.1:Int)≤(x1.1.Bytes.length:Int))<|D9 x1 x10.2.1 x10.2.2 ((x1.1.Bytes.take x10.1.toNat).drop 0) else (if x6.1 == 1 then need (x1.1.Class.length+([0]).length≤1073741824) (jE x6.2.1 x6.2.2 x1.1.Bytes (x1.1.Class++([0]))) else (if x6.1 == 2 then (aQ (⟨c.b,x6.2.1,x6.2.2⟩:aM) (x1.1.Class.length:Int)).bind fun x14=>(hU (⟨c.b,x14.2.1,x14.2.2⟩:aM) ([(-2),3,0,(-1)]:List Int)).bind fun x15=>(idx x1.1.Class x14.1).bind fun x16=>EA x1 x15.2.1 x15.2.2 (x1.1.Class.set x14.1.toNat x15.1) else (if x6.1 == 3 then (aQ (⟨c.b,x6.2.1,x6.2.2⟩:aM) (x1.1.Bytes.length:Int)).bind fun x20=>(hU (⟨c.b,x20.2.1,x20.2.2⟩:aM) ([(-1),256,171,1]:List Int)).bind fun x21=>(idx x1.1.Bytes x20.1).bind fun x22=>EB x1 x21.2.1 x21.2.2 (x1.1.Bytes.set x20.1.toNat x21.1) else (if x6.1 == 4 then (aQ (⟨c.b,x6.2.1,x6.2.2⟩:aM) 6).bind fun x23=>(aQ (⟨c.b,x23.2.1,x23.2.2⟩:aM) 12).bind fun x24=>(aQ (⟨c.b,x24.2.1,x24.2.2⟩:aM) 9).bind fun x25=>(idx x1.1.Bytes (aW ((aW (x23.1 * 64))+x24.1))).bind fun x26=>jE x25.2.1 x25.2.2 (x1.1.Bytes.set ((aW ((aW (x23.1 * 64))+x24.1)).toNat) x25.1) x1.1.Class else jE x6.2.1 x6.2.2 x1.1.Bytes x1.1.Class)))))
def q7(w_ c slot:Int)(x1:aA)(x2:Bool):Option (aA×Bool):=
  (if x2 then some (x1,false) else (uL x1 w_ c slot).bind fun x3=>some (x3,true))
def J3(l:aA)(w_ c slot:Int):Option (aA×Bool):=
  (pD l).bind fun x1=>(mZ l).bind fun x4=>(if !x4 then q7 w_ c slot x1 true else (jO w_ c).bind fun x5=>(if decide (x5 < 0) then q7 w_ c slot x1 true else (bH slot 0 23).bind fun x6=>(if !x6 then q7 w_ c slot x1 true else (xG l).bind fun x7=>(tU x7 slot).bind fun x8=>q7 w_ c slot x1 x8)))
def P5(x13 x14:Int)(x15 x16:List aE):Option (aA×(Int×Int)):=
  some ((⟨x15,x16⟩:aA),(x13,x14))
def AA(x8 x17 x18:Int)(x19 x20:List aE):Option (Step (Int×Int×Int×(List aE)×(List aE)) (Int×Int×(List aE)×(List aE))):=
  some (.next (aW (x8 - 1),x17,x18,x19,x20))
def G6(c:aM):(Int×Int×Int×(List aE)×(List aE))→Option (Step (Int×Int×Int×(List aE)×(List aE)) (Int×Int×(List aE)×(List aE)))
  | (x8,x9,x10,x11,x12)=>(if decide (0 < x8) then (aQ (⟨c.b,x9,x10⟩:aM) 3).bind fun x21=>(aQ (⟨c.b,x21.2.1,x21.2.2⟩:aM) 3).bind fun x22=>(aQ (⟨c.b,x22.2.1,x22.2.2⟩:aM) 24).bind fun x23=>(J3 (⟨x11,x12⟩:aA) x21.1 x22.1 x23.1).bind fun x24=>AA x8 x23.2.1 x23.2.2 x24.1.Global x24.1.bD else some (.stop ((x9,x10,x11,x12))))
def P6:(Int×Int×(List aE)×(List aE))→Option (aA×(Int×Int))
  | (x13,x14,x15,x16)=>P5 x13 x14 x15 x16
def BJ(c:aM):Option (aA×(Int×Int)):=
  (oJ).bind fun x1=>(aQ c 14).bind fun x2=>(loop (G6 c) (x2.1,x2.2.1,x2.2.2,x1.Global,x1.bD)).bind (P6)
def lH(x2 x3:Int)(x4 x5:List aE):Option (aA×(Int×Int)):=
  some ((⟨x4,x5⟩:aA),(x2,x3))
def EC(x1:aA×(Int×Int))(x7 x8:Int)(x9:List aE):Option (aA×(Int×Int)):=
  lH x7 x8 x1.1.Global x9
def ED(x1:aA×(Int×Int))(x13 x14:Int)(x15:List aE):Option (aA×(Int×Int)):=
  lH x13 x14 x15 x1.1.bD
def GC(c:aM):Option (aA×(Int×Int)):=
  (BJ c).bind fun x1=>(aQ (⟨c.b,x1.2.1,x1.2.2⟩:aM) 20).bind fun x6=>(if x6.1 == 0 then need (0≤(2:Int)∧(2:Int)≤(x1.1.Global.length:Int)) (lH x6.2.1 x6.2.2 ((x1.1.Global.take ((2:Int).toNat)).drop 0) x1.1.bD) else (if x6.1 == 1 then need (x1.1.bD.length+([(⟨[]⟩:aE)]).length≤1073741824) (lH x6.2.1 x6.2.2 x1.1.Global (x1.1.bD++([(⟨[]⟩:aE)]))) else (if x6.1 == 2 then (aQ (⟨c.b,x6.2.1,x6.2.2⟩:aM) (x1.1.bD.length:Int)).bind fun x10=>(idx x1.1.bD x10.1).bind fun x11=>EC x1 x10.2.1 x10.2.2 (x1.1.bD.set x10.1.toNat (⟨([1,2,3]:List Int)⟩:aE)) else (if x6.1 == 3 then (aQ (⟨c.b,x6.2.1,x6.2.2⟩:aM) 3).bind fun x12=>(idx x1.1.Global x12.1).bind fun x16=>(hU (⟨c.b,x12.2.1,x12.2.2⟩:aM) ([(-1),24,5,6]:List Int)).bind fun x17=>need (x16.aL.length+([x17.1]).length≤1073741824)<|ED x1 x17.2.1 x17.2.2 (x1.1.Global.set x12.1.toNat (⟨x16.aL++([x17.1])⟩:aE)) else lH x6.2.1 x6.2.2 x1.1.Global x1.1.bD))))
def sD(x2 x6 x7:Int)(x8:Mem):Option (Mem×Int×(Int×Int)):=
  some (x8,x2,(x6,x7))
def sE(c:aM)(x2 x3 x4:Int)(x5:Mem):Option (Mem×Int×(Int×Int)):=
  (aQ (⟨c.b,x3,x4⟩:aM) 24).bind fun x9=>(if x9.1 == 0 then (GB (⟨c.b,x9.2.1,x9.2.2⟩:aM)).bind fun x10=>sD x2 x10.2.1 x10.2.2 (⟨x10.1,x5.aA⟩:Mem) else (if x9.1 == 1 then (GC (⟨c.b,x9.2.1,x9.2.2⟩:aM)).bind fun x11=>sD x2 x11.2.1 x11.2.2 (⟨x5.aB,x11.1⟩:Mem) else sD x2 x9.2.1 x9.2.2 x5))
def GD(c:aM):Option (Mem×Int×(Int×Int)):=
  (DO c 22).bind fun x1=>(pW (⟨c.b,x1.2.2.1,x1.2.2.2⟩:aM) 6).bind fun x12=>(if x12.1 then (oK (⟨c.b,x12.2.1,x12.2.2⟩:aM)).bind fun x13=>sE c x13.1 x13.2.1 x13.2.2 x1.1 else sE c x1.2.1 x12.2.1 x12.2.2 x1.1)
def N5(x13 x14 x15:Int)(x16:List gQ):Option (aK×(Int×Int)):=
  some ((⟨x15,x16⟩:aK),(x13,x14))
def jN(x8 x18 x19 x20:Int)(x21:List gQ):Option (Step (Int×Int×Int×Int×(List gQ)) (Int×Int×Int×(List gQ))):=
  some (.next (aW (x8 - 1),x18,x19,x20,x21))
def q8(x8 x11:Int)(x12:List gQ)(x17 x22:Int×(Int×Int))(x25:Bool):Option (Step (Int×Int×Int×Int×(List gQ)) (Int×Int×Int×(List gQ))):=
  (if x25 then (pH (⟨x11,x12⟩:aK) x17.1 x11).bind fun x26=>jN x8 x22.2.1 x22.2.2 x26.1.aI x26.1.bM else (xH (⟨x11,x12⟩:aK) x11).bind fun x27=>jN x8 x22.2.1 x22.2.2 x27.1.aI x27.1.bM)
def FA(c:aM):(Int×Int×Int×Int×(List gQ))→Option (Step (Int×Int×Int×Int×(List gQ)) (Int×Int×Int×(List gQ)))
  | (x8,x9,x10,x11,x12)=>(if decide (0 < x8) then (aQ (⟨c.b,x9,x10⟩:aM) 3).bind fun x17=>(aQ (⟨c.b,x17.2.1,x17.2.2⟩:aM) 6).bind fun x22=>(if x22.1 == 0 then (tW (⟨x11,x12⟩:aK) x17.1 x11).bind fun x23=>jN x8 x22.2.1 x22.2.2 x23.1.aI x23.1.bM else (if x22.1 == 1 then (BX (⟨x11,x12⟩:aK) x17.1).bind fun x24=>jN x8 x22.2.1 x22.2.2 x24.1.aI x24.1.bM else (if x22.1 == 2 then q8 x8 x11 x12 x17 x22 true else q8 x8 x11 x12 x17 x22 (x22.1 == 3)))) else some (.stop ((x9,x10,x11,x12))))
def N6:(Int×Int×Int×(List gQ))→Option (aK×(Int×Int))
  | (x13,x14,x15,x16)=>N5 x13 x14 x15 x16
def yP(c:aM):Option (aK×(Int×Int)):=
  (sB).bind fun x1=>(aQ c 16).bind fun x2=>(loop (FA c) (x2.1,x2.2.1,x2.2.2,x1.aI,x1.bM)).bind (N6)
def fV(x3 x4 x5:Int)(x6:List gQ):Option (aK×(Int×Int)):=
  some ((⟨x5,x6⟩:aK),(x3,x4))
def DR(c:aM):Option (aK×(Int×Int)):=
  (yP c).bind fun x1=>(aQ (⟨c.b,x1.2.1,x1.2.2⟩:aM) 3).bind fun x2=>(aQ (⟨c.b,x2.2.1,x2.2.2⟩:aM) 24).bind fun x7=>(if x7.1 == 0 then (hU (⟨c.b,x7.2.1,x7.2.2⟩:aM) ([(-1),100000,100001]:List Int)).bind fun x8=>fV x8.2.1 x8.2.2 x8.1 x1.1.bM else (if x7.1 == 1 then need (0≤(x2.1:Int)∧(x2.1:Int)≤(x1.1.bM.length:Int)) (fV x7.2.1 x7.2.2 x1.1.aI ((x1.1.bM.take x2.1.toNat).drop 0)) else (if x7.1 == 2 then (idx x1.1.bM x2.1).bind fun x9=>fV x7.2.1 x7.2.2 x1.1.aI (x1.1.bM.set x2.1.toNat (⟨false,1,false,0⟩:gQ)) else (if x7.1 == 3 then (idx x1.1.bM x2.1).bind fun x10=>fV x7.2.1 x7.2.2 x1.1.aI (x1.1.bM.set x2.1.toNat (⟨true,aW (x1.1.aI+1),false,0⟩:gQ)) else (if x7.1 == 4 then (idx x1.1.bM x2.1).bind fun x11=>fV x7.2.1 x7.2.2 x1.1.aI (x1.1.bM.set x2.1.toNat (⟨true,0,false,3⟩:gQ)) else (if x7.1 == 5 then (idx x1.1.bM x2.1).bind fun x12=>fV x7.2.1 x7.2.2 x1.1.aI (x1.1.bM.set x2.1.toNat (⟨true,0,true,0⟩:gQ)) else fV x7.2.1 x7.2.2 x1.1.aI x1.1.bM))))))
def q9(l:List aN)(w_ h e_:Int)(x1:(List aN))(x2:Bool):Option ((List aN)×Bool):=
  (if x2 then some (x1,false) else (idx x1 w_).bind fun x3=>need (x3.Rows.length+([(⟨h,e_⟩:bJ)]).length≤1073741824) ((qQ (x1.set w_.toNat (⟨x3.Rows++([(⟨h,e_⟩:bJ)])⟩:aN))).bind fun x4=>(if !x4 then (qR l).bind fun x5=>some (x5,false) else some (x1.set w_.toNat (⟨x3.Rows++([(⟨h,e_⟩:bJ)])⟩:aN),true))))
def yQ(l:List aN)(w_ h e_:Int):Option ((List aN)×Bool):=
  (qR l).bind fun x1=>(qQ l).bind fun x6=>(if !x6 then q9 l w_ h e_ x1 true else (bH w_ 0 2).bind fun x7=>q9 l w_ h e_ x1 (!x7))
def N7(x11:List aN)(x12 x13:Int):Option ((List aN)×(Int×Int)):=
  some (x11,(x12,x13))
def FB(c:aM):((List aN)×Int×Int×Int)→Option (Step ((List aN)×Int×Int×Int) ((List aN)×Int×Int))
  | (x7,x8,x9,x10)=>(if decide (0 < x8) then (aQ (⟨c.b,x9,x10⟩:aM) 3).bind fun x14=>(oK (⟨c.b,x14.2.1,x14.2.2⟩:aM)).bind fun x15=>(aQ (⟨c.b,x15.2.1,x15.2.2⟩:aM) 6).bind fun x16=>(yQ x7 x14.1 x15.1 x16.1).bind fun x17=>some (.next (x17.1,aW (x8 - 1),x16.2.1,x16.2.2)) else some (.stop ((x7,x9,x10))))
def N8:((List aN)×Int×Int)→Option ((List aN)×(Int×Int))
  | (x11,x12,x13)=>N7 x11 x12 x13
def yR(c:aM):Option ((List aN)×(Int×Int)):=
  (sC).bind fun x1=>(aQ c 10).bind fun x2=>(loop (FB c) (x1,x2.1,x2.2.1,x2.2.2)).bind (N8)
def mJ(x2:List aN)(x3 x4:Int):Option ((List aN)×(Int×Int)):=
  some (x2,(x3,x4))
def CC(x7:List aN)(x8 x9:Int):Option ((List aN)×(Int×Int)):=
  mJ x7 x8 x9
def DS(c:aM):Option ((List aN)×(Int×Int)):=
  (yR c).bind fun x1=>(aQ (⟨c.b,x1.2.1,x1.2.2⟩:aM) 20).bind fun x5=>(if x5.1 == 0 then need (0≤(1:Int)∧(1:Int)≤(x1.1.length:Int)) (some ((x1.1.take ((1:Int).toNat)).drop 0,(x5.2.1,x5.2.2))) else (if x5.1 == 1 then (idx x1.1 0).bind fun x6=>need (x6.Rows.length+([(⟨33,1⟩:bJ),(⟨65,1⟩:bJ)]:List bJ).length≤1073741824) (mJ (x1.1.set ((0:Int).toNat) (⟨x6.Rows++([(⟨33,1⟩:bJ),(⟨65,1⟩:bJ)]:List bJ)⟩:aN)) x5.2.1 x5.2.2) else (if x5.1 == 2 then (idx x1.1 1).bind fun x10=>(oK (⟨c.b,x5.2.1,x5.2.2⟩:aM)).bind fun x11=>need (x10.Rows.length+([(⟨x11.1,(-1)⟩:bJ)]).length≤1073741824)<|CC (x1.1.set ((1:Int).toNat) (⟨x10.Rows++([(⟨x11.1,(-1)⟩:bJ)])⟩:aN)) x11.2.1 x11.2.2 else (if x5.1 == 3 then (idx x1.1 2).bind fun x12=>need (x12.Rows.length+([(⟨0,0⟩:bJ)]).length≤1073741824) (mJ (x1.1.set ((2:Int).toNat) (⟨x12.Rows++([(⟨0,0⟩:bJ)])⟩:aN)) x5.2.1 x5.2.2) else mJ x1.1 x5.2.1 x5.2.2))))
def wD(x14:List Int)(x15 x16:Int):Option ((List Int)×(Int×Int)):=
  some (x14,(x15,x16))
def IM(c:aM)(x11:List Int)(x12 x13:Int):Option ((List Int)×(Int×Int)):=
  (aQ (⟨c.b,x12,x13⟩:aM) 20).bind fun x17=>(if x17.1 == 0 then need (0≤(2:Int)∧(2:Int)≤(x11.length:Int)) (some ((x11.take ((2:Int).toNat)).drop 0,(x17.2.1,x17.2.2))) else (if x17.1 == 1 then (aQ (⟨c.b,x17.2.1,x17.2.2⟩:aM) 3).bind fun x18=>(hU (⟨c.b,x18.2.1,x18.2.2⟩:aM) ([(-1),31,56,224]:List Int)).bind fun x19=>(idx x11 x18.1).bind fun x20=>wD (x11.set x18.1.toNat x19.1) x19.2.1 x19.2.2 else wD x11 x17.2.1 x17.2.2))
def IN(c:aM):((List Int)×Int×Int×Int)→Option (Step ((List Int)×Int×Int×Int) ((List Int)×Int×Int))
  | (x7,x8,x9,x10)=>(if decide (0 < x8) then (aQ (⟨c.b,x9,x10⟩:aM) 3).bind fun x21=>(aQ (⟨c.b,x21.2.1,x21.2.2⟩:aM) 4).bind fun x22=>(aQ (⟨c.b,x22.2.1,x22.2.2⟩:aM) 2).bind fun x23=>(jC x22.1 (aW (1+x23.1))).bind fun x24=>(vI x7 x21.1 x24).bind fun x25=>some (.next (x25.1,aW (x8 - 1),x23.2.1,x23.2.2)) else some (.stop ((x7,x9,x10))))
def IP(c:aM):((List Int)×Int×Int)→Option ((List Int)×(Int×Int))
  | (x11,x12,x13)=>IM c x11 x12 x13
def DT(c:aM):Option ((List Int)×(Int×Int)):=
  (zL).bind fun x1=>(aQ c 4).bind fun x2=>(loop (IN c) (x1,x2.1,x2.2.1,x2.2.2)).bind (IP c)
def jT(x1:aG×Int×(Int×Int))(x2 x3:Int)(x4:aG):Option (aG×Int×(Int×Int)):=
  some (x4,x1.2.1,(x2,x3))
def DU(c:aM):Option (aG×Int×(Int×Int)):=
  (BG c 26).bind fun x1=>(aQ (⟨c.b,x1.2.2.1,x1.2.2.2⟩:aM) 28).bind fun x5=>(if x5.1 == 0 then (GD (⟨c.b,x5.2.1,x5.2.2⟩:aM)).bind fun x6=>jT x1 x6.2.2.1 x6.2.2.2 (⟨x6.1,x1.1.aK,x1.1.aP,x1.1.nZ⟩:aG) else (if x5.1 == 1 then (DR (⟨c.b,x5.2.1,x5.2.2⟩:aM)).bind fun x7=>jT x1 x7.2.1 x7.2.2 (⟨x1.1.Mem,x7.1,x1.1.aP,x1.1.nZ⟩:aG) else (if x5.1 == 2 then (DS (⟨c.b,x5.2.1,x5.2.2⟩:aM)).bind fun x8=>jT x1 x8.2.1 x8.2.2 (⟨x1.1.Mem,x1.1.aK,x8.1,x1.1.nZ⟩:aG) else (if x5.1 == 3 then (DT (⟨c.b,x5.2.1,x5.2.2⟩:aM)).bind fun x9=>jT x1 x9.2.1 x9.2.2 (⟨x1.1.Mem,x1.1.aK,x1.1.aP,x9.1⟩:aG) else jT x1 x5.2.1 x5.2.2 x1.1))))
def IQ(x7:List Int):Option (List Int):=
  some x7
def hY:((List Int)×Int)→Option (Step ((List Int)×Int) (List Int))
  | (x5,x6)=>(if decide (x6 < (x5.length:Int)) then need (0≤(x6:Int)∧(x6:Int)≤(x5.length:Int)) (need (0≤(x6:Int)∧(x6:Int)≤(x5.length:Int)) (some (.next (cT x5 x6.toNat ((x5.take x6.toNat).drop 0),aW (x6+((min ((x5.take x6.toNat).drop 0).length (x5.length - x6.toNat):Nat):Int)))))) else some (.stop (x5)))
def IS:(List Int)→Option (List Int)
  | x7=>IQ x7
def pZ(x:List Int)(x1:Int×Int)(x2:Bool):Option (List Int):=
  (if x2 then none else need (0≤(IntKind.i64.wrap x1.2:Int)∧(IntKind.i64.wrap x1.2:Int)≤4294967296) ((loop (hY) (cT (List.replicate ((IntKind.i64.wrap x1.2).toNat) 0) 0 x,((min x.length ((List.replicate ((IntKind.i64.wrap x1.2).toNat) 0:List Int).length - 0):Nat):Int))).bind (IS)))
def wE(x:List Int)(count:Int):Option (List Int):=
  (if decide (count < 0) then none else (KO (IntKind.u64.wrap (x.length:Int)) (IntKind.u64.wrap count)).bind fun x1=>(if decide (0 < x1.1) then pZ x x1 true else pZ x x1 (decide (9223372036854775807 < x1.2))))
def P7(x1:List Int):Option aB:=
  some (⟨List.replicate ((384:Int).toNat) 0,x1⟩:aB)
def GF:Option aB:=
  need (0≤(384:Int)∧(384:Int)≤4294967296)<|(wE ([(-1)]) 6).bind fun x2=>P7 x2
def N9:Option aA:=
  some (⟨List.replicate ((3:Int).toNat) (⟨[]⟩:aE),List.replicate ((9:Int).toNat) (⟨[]⟩:aE)⟩:aA)
def KQ:Option aA:=
  need (0≤(3:Int)∧(3:Int)≤4294967296)<|need (0≤(9:Int)∧(9:Int)≤4294967296)<|N9
def OY:Option Mem:=
  (GF).bind fun x1=>(KQ).bind fun x2=>some (⟨x1,x2⟩:Mem)
def KR:Option aK:=
  need (0≤(3:Int)∧(3:Int)≤4294967296) (some (⟨0,List.replicate ((3:Int).toNat) (⟨false,0,false,0⟩:gQ)⟩:aK))
def KS:Option (List aN):=
  need (0≤(3:Int)∧(3:Int)≤4294967296) (some (List.replicate ((3:Int).toNat) (⟨[]⟩:aN)))
def OZ:Option (List Int):=
  need (0≤(3:Int)∧(3:Int)≤4294967296) (some (List.replicate ((3:Int).toNat) 0))
def M0:Option aG:=
  (OY).bind fun x1=>(KR).bind fun x2=>(KS).bind fun x3=>(OZ).bind fun x4=>some (⟨x1,x2,x3,x4⟩:aG)
def wF(code:List UInt8):Option aG:=
  (F8 code).bind fun x1=>(DU (⟨code,x1.1,x1.2⟩:aM)).bind fun x2=>some x2.1
def TB(x10:Sub)(x11:aG):Option (aG×Sub):=
  some (x11,x10)
def jU(w_:Int):(Int×Sub×aG)→Option (Step (Int×Sub×aG) (Sub×aG))
  | (x7,x8,x9)=>(if decide (x7 < 200) then (lG x8 x9 w_).bind fun x12=>some (.next (aW (x7+1),x12.1,x12.2)) else some (.stop ((x8,x9))))
def TC:(Sub×aG)→Option (aG×Sub)
  | (x10,x11)=>TB x10 x11
def wG(w_:Int)(s:Sub)(x2:Bool)(x3:aG):Option (aG×Sub):=
  (if x2 then some (x3,s) else (loop (jU w_) (0,s,x3)).bind (TC))
def DV(b:aG)(w_:Int)(s:Sub):Option (aG×Sub):=
  (xX b).bind fun x1=>(DK b).bind fun x13=>(if !x13 then wG w_ s true x1 else (dT w_).bind fun x14=>wG w_ s (!x14) x1)
def RB(code:List UInt8)(i:Int):Option Int:=
  (if decide (i < (code.length:Int)) then (idx code i).bind fun x1=>some (x1.toNat:Int) else some (Int.tmod (aW ((aW (i * 37))+(aW ((code.length:Int) * 11)))) 256))
def TD(x5:List Int):Option (List Int):=
  some x5
def wH(x4:Int)(x7:List Int):Option (Step ((List Int)×Int) (List Int)):=
  some (.next (x7,aW (x4+1)))
def mK(z:List Int)(h:Int)(x3:List Int)(x4:Int)(x6:Bool):Option (Step ((List Int)×Int) (List Int)):=
  (if x6 then (idx z x4).bind fun x8=>(if x8 == h then need (x3.length+([x4]).length≤1073741824) (wH x4 (x3++([x4]))) else wH x4 x3) else some (.stop (x3)))
def p7(z:List Int)(h:Int):((List Int)×Int)→Option (Step ((List Int)×Int) (List Int))
  | (x3,x4)=>(if decide (x4 < (z.length:Int)) then (tV z).bind fun x9=>(if x9 then mK z h x3 x4 (h != 0) else mK z h x3 x4 false) else mK z h x3 x4 false)
def TE:(List Int)→Option (List Int)
  | x5=>TD x5
def zN(z:List Int)(h:Int):Option (List Int):=
  (loop (p7 z h) (([]:List Int),0)).bind (TE)
def yS(x1:Bool):Option Bool:=
  some x1
def GG(m:Mem)(h:Int):Option Bool:=
  (m3 m).bind fun x2=>(if x2 then (kR m h).bind fun x3=>yS x3 else yS false)
def mL(x1:Int)(x2:Bool):Option Int:=
  (if x2 then some 4 else some x1)
def yT(b:aG)(slot:Int):Option Int:=
  (uY b.Mem slot).bind fun x1=>(if x1 == 3 then (vB b.aP slot).bind fun x3=>mL x1 (!x3) else mL x1 false)
def VO(x6:List Int):Option (List Int):=
  some x6
def sG(b:aG)(x4:List Int)(x5:Int)(x7:Bool):Option (Step ((List Int)×Int) (List Int)):=
  (if x7 then (yT b x5).bind fun x8=>(idx x4 x8).bind fun x9=>some (.next (x4.set x8.toNat (aW (x9+1)),aW (x5+1))) else some (.stop (x4)))
def sH(b:aG)(x1:Bool):((List Int)×Int)→Option (Step ((List Int)×Int) (List Int))
  | (x4,x5)=>(if decide (x5 < 24) then sG b x4 x5 x1 else sG b x4 x5 false)
def VQ:(List Int)→Option (List Int)
  | x6=>VO x6
def CD(b:aG):Option (List Int):=
  need (0≤(5:Int)∧(5:Int)≤4294967296) ((pC b).bind fun x1=>(loop (sH b x1) (List.replicate ((5:Int).toNat) 0,0)).bind (VQ))
def jV(x29:Bool):Option Bool:=
  some x29
def CE(x7:Sub)(x25 x26:aG):Option Bool:=
  (CD x25).bind fun x27=>(CD x26).bind fun x28=>(idx x28 4).bind fun x30=>(idx x27 4).bind fun x31=>(if x30 == x31 then (idx x28 0).bind fun x32=>(idx x27 0).bind fun x33=>(if x32 == x33 then (idx x28 3).bind fun x34=>(idx x27 3).bind fun x35=>(if x34 == (aW (x35 - x7.Out)) then (DL 3 4).bind fun x36=>jV (x36.A == 4) else jV false) else jV false) else jV false)
def jW(x22:Int)(x54:Bool)(x55 x56:aG):Option (Step (Int×aG×aG) (Out (aG×aG) Bool)):=
  (if x54 then some (.stop (Out.ret false)) else some (.next (aW (x22+1),x55,x56)))
def jX(x3:Int):(Int×aG×aG)→Option (Step (Int×aG×aG) (Out (aG×aG) Bool))
  | (x22,x23,x24)=>(idx x23.aP (Int.tmod x3 3)).bind fun x52=>(if decide (x22 < (x52.Rows.length:Int)) then (idx x52.Rows x22).bind fun x53=>(qT x53 x23.aK.aI).bind fun x57=>(if x57 then (zN x23.nZ x53.Handle).bind fun x58=>(if (x58.length:Int) == 0 then (GG x24.Mem x53.Handle).bind fun x59=>jW x22 x59 x23 x24 else jW x22 false x23 x24) else jW x22 false x23 x24) else some (.stop (Out.brk (x23,x24))))
def CF(x7:Sub):(Out (aG×aG) Bool)→Option Bool
  | .brk (x25,x26)=>CE x7 x25 x26
  | .ret r=>some r
def CG(x3:Int)(x7:Sub)(x17 x18:aG):Option Bool:=
  (loop (jX x3) (0,x17,x18)).bind (CF x7)
def nI(x14:Int)(x62:Bool)(x63 x64:aG):Option (Step (Int×aG×aG) (Out (aG×aG) Bool)):=
  (if x62 then some (.stop (Out.ret false)) else some (.next (aW (x14+1),x63,x64)))
def jY(x3:Int):(Int×aG×aG)→Option (Step (Int×aG×aG) (Out (aG×aG) Bool))
  | (x14,x15,x16)=>(idx x16.aP (Int.tmod x3 3)).bind fun x60=>(if decide (x14 < (x60.Rows.length:Int)) then (idx x60.Rows x14).bind fun x61=>(qT x61 x15.aK.aI).bind fun x65=>(if x65 then (zN x15.nZ x61.Handle).bind fun x66=>nI x14 ((x66.length:Int) == 0) x15 x16 else nI x14 false x15 x16) else some (.stop (Out.brk (x15,x16))))
def CH(x3:Int)(x7:Sub):(Out (aG×aG) Bool)→Option Bool
  | .brk (x17,x18)=>CG x3 x7 x17 x18
  | .ret r=>some r
def t9(x3:Int)(x7:Sub)(x8:Bool)(x9 x10:aG):Option Bool:=
  (if x8 then some false else (loop (jY x3) (0,x9,x10)).bind (CH x3 x7))
def gO(x3:Int)(x7:Sub)(x67:Bool)(x68 x69:aG):Option Bool:=
  t9 x3 x7 x67 x68 x69
def uA(x3:Int)(x5 x6:aG)(x7:Sub):Option Bool:=
  (if !x7.dV then gO x3 x7 true x5 x6 else (if x7.Code != 0 then gO x3 x7 true x5 x6 else (pC x6).bind fun x70=>(if !x70 then gO x3 x7 true x5 x6 else (idx x6.aP (Int.tmod x3 3)).bind fun x71=>(idx x5.aP (Int.tmod x3 3)).bind fun x72=>gO x3 x7 ((aW ((x71.Rows.length:Int)+x7.Out)) != (x72.Rows.length:Int)) x5 x6)))
def AB(code:List UInt8):Option Bool:=
  (S6 code).bind fun x1=>(if x1 then some true else (wF code).bind fun x2=>(RB code 0).bind fun x3=>(pC x2).bind fun x4=>(if !x4 then some true else (DL 4 0).bind fun x73=>(DV x2 (Int.tmod x3 3) x73).bind fun x74=>uA x3 x2 x74.1 x74.2))
end
end Go.Gv
end
noncomputable section
set_option maxHeartbeats 4000000
set_option maxRecDepth 100000
namespace Go.Proofs.YtbdmodalljibjaaGreat
open Go.Gv
theorem aT:OR Tryz.prog 3 1 (.int .i64 0):=LG (b:=8) (by kernel_rfl) rfl
theorem cE:OR Tryz.prog 105 2 (.agg #[.int .i64 0,.int .i64 0]):=LG (b:=16) (by kernel_rfl) rfl
theorem cK:OR Tryz.prog 162 1 (.agg #[.slice none 0 0]):=LG (b:=24) (by kernel_rfl) rfl
theorem zO:OR Tryz.prog 175 4 (.agg #[.bool false,.int .i64 0,.bool false,.int .i64 0]):=LG (b:=32) (by kernel_rfl) rfl
theorem p8:OR Tryz.prog 103 1 (.agg #[.slice none 0 0]):=LG (b:=24) (by kernel_rfl) rfl
theorem WV:OR Tryz.prog 5 1 (.int .u8 0):=LG (b:=1) (by kernel_rfl) rfl
theorem aBM:OR Tryz.prog 43 1 (.slice none 0 0):=LG (b:=24) (by kernel_rfl) rfl
theorem aC:Tryz.prog.follows .mixedOrders=true:=by kernel_rfl
theorem O0(D:Nat)(d d':gQ)(w:World):(Op.eqFields (D+2) #[.bool (d.On),.int .i64 (d.aI),.bool (d.eR),.int .i64 (d.Seen)] #[.bool (d'.On),.int .i64 (d'.aI),.bool (d'.eR),.int .i64 (d'.Seen)] (match Tryz.prog.underlying 175 with | some (.struct fs)=>fs | _=>#[]).toList).run Tryz.prog w=.ok (decide (d=d')) w:=by
  rw [Tryz.underlying175]
  have h:(d.On == d'.On && (d.aI == d'.aI && (d.eR == d'.eR && (d.Seen == d'.Seen && true))))=decide (d=d'):=by
    cases d;cases d';rw [Bool.eq_iff_iff];simp
  rw [←h]
  exact MB _ _ _ _ _ rfl (OQ Tryz.isAgg4 rfl) (OQ Tryz.isAgg4 rfl) (aCA Tryz.underlying4)<|
    MB _ _ _ _ _ rfl (OQ Tryz.isAgg3 rfl) (OQ Tryz.isAgg3 rfl) (aFK Tryz.underlying3)<|
    MB _ _ _ _ _ rfl (OQ Tryz.isAgg4 rfl) (OQ Tryz.isAgg4 rfl) (aCA Tryz.underlying4)<|
    MB _ _ _ _ _ rfl (OQ Tryz.isAgg3 rfl) (OQ Tryz.isAgg3 rfl) (aFK Tryz.underlying3)<|
    aJA _ _ _
set_option maxRecDepth 100000 in
theorem FC{w0:World}{n:Int}(hn:0≤n∧n≤1073741824) :
    Calls Tryz.prog 337 #[.slice none 0 0,.int .i64 n] w0 (Ret fun v w'=>∃s0_0:Value,v=s0_0∧St (b9 w0) w' [eJ [s0_0] ([]:List Raw)] []):=by
  have hS:St (b9 w0) w0 [] []:=St.enter (by intro f hf;cases hf)
  have hw:aW (n - aW (0 - 0))=n:=by
    rw [BV (x:=0 - 0) (by omega),BV (by omega)];omega
  refine aFD (args:=[_,_]) Tryz.func337 rfl Tryz.ntmps337 rfl ?_
  intro a hA
  refine bG ?_
  refine bX hA ?_
  clear hA
  refine dO (xD rfl rfl) (bO rfl) rfl rfl ?_
  refine bC ?_
  intro a hA
  refine bG ?_
  refine bG ?_
  refine bX hA ?_
  clear hA
  refine dO (kO rfl rfl) (bO rfl) rfl rfl ?_
  refine dO (zU rfl rfl rfl) (bO rfl) rfl rfl ?_
  refine bC ?_
  intro a hA
  refine iZ hA rfl (fun hc=>?_) (fun hc=>?_)
  · exfalso;simp at hc;omega
  refine lL ?_
  refine bG ?_
  refine bG ?_
  refine bX hA ?_
  clear hA
  refine dO (kO rfl rfl) (bO rfl) rfl rfl ?_
  refine dO (kO rfl rfl) (bO rfl) rfl rfl ?_
  refine dO (WK Tryz.underlying43 rfl rfl) (bO rfl) rfl rfl ?_
  refine dO (kO rfl rfl) (bO rfl) rfl rfl ?_
  refine dO (lM (aFH (α:=Raw) (S:=F0)) Tryz.underlying43 rfl rfl) (bO rfl) rfl rfl ?_
  refine dO (aAS rfl rfl rfl) (bO rfl) rfl rfl ?_
  refine dO (aAS rfl rfl rfl) (bO rfl) rfl rfl ?_
  refine dO (xD rfl rfl) (bO rfl) rfl rfl ?_
  refine bC ?_
  intro a hA
  refine bG ?_
  refine bX hA ?_
  clear hA
  refine dO (kO rfl rfl) (bO rfl) rfl rfl ?_
  refine dO (aAV rfl rfl rfl) (bO rfl) rfl rfl ?_
  refine bC ?_
  intro a hA
  refine iZ hA rfl (fun hc=>?_) (fun hc=>?_)
  · have hn1:0 < n:=by
      have h2:decide (0 < aW (n - aW (0 - 0)))=true:=hc
      rw [hw] at h2;simpa using h2
    refine bX hA ?_
    clear hA
    refine dO (kO rfl rfl) (bO rfl) rfl rfl ?_
    refine dO (kO rfl rfl) (bO rfl) rfl rfl ?_
    refine dO (WK Tryz.underlying43 rfl rfl) (bO rfl) rfl rfl ?_
    refine dO (aCH (s:=.slice none 0 0) ⟨_,_,_,rfl⟩ Tryz.underlying43 Tryz.sizeOf162 rfl rfl rfl) (bO rfl) rfl rfl ?_
    refine dO (kO rfl rfl) (bO rfl) rfl rfl ?_
    refine DY (aJL (i:=aW (n - aW (0 - 0))) hS Tryz.underlying43 Tryz.underlying3 cK rfl rfl (by rw [hw];omega) rfl rfl rfl) (bO rfl) rfl rfl ?_
    clear hS
    intro s w hS
    refine dO (kO rfl rfl) (bO rfl) rfl rfl ?_
    refine dO (lM (aFH (α:=Raw) (S:=F0)) Tryz.underlying43 rfl rfl) (bO rfl) rfl rfl ?_
    refine dO (aCH (hS.aF2 0 rfl) Tryz.underlying43 Tryz.sizeOf162 rfl rfl rfl) (bO rfl) rfl rfl ?_
    refine dO (xD rfl rfl) (bO rfl) rfl rfl ?_
    refine bC ?_
    intro a hA
    replace hS:=hS.aL4 (α:=Raw) 0 rfl rfl
    refine bG ?_
    refine bX hA ?_
    clear hA
    refine dO (kO rfl rfl) (bO rfl) rfl rfl ?_
    refine dO (xD rfl rfl) (bO rfl) rfl rfl ?_
    refine bC ?_
    intro a hA
    refine tR ?_
    exact aI8 Tryz.results337 hA (QU rfl) ⟨_,rfl,(hS.FQ [0] rfl).weaken (R':=[]) (fun _ h=>nomatch h)⟩
  · refine lL ?_
    replace hS:=hS.aLY (α:=Raw)
    refine bG ?_
    refine bX hA ?_
    clear hA
    refine dO (kO rfl rfl) (bO rfl) rfl rfl ?_
    refine dO (xD rfl rfl) (bO rfl) rfl rfl ?_
    refine bC ?_
    intro a hA
    refine tR ?_
    exact aI8 Tryz.results337 hA (QU rfl) ⟨_,rfl,(hS.FQ [0] rfl).weaken (R':=[]) (fun _ h=>nomatch h)⟩
theorem HL{w0:World}{slices:List (List Raw)}{s1:Value}{r:(List Raw)}(h1:aJ.rd (HO w0) w0 [s1] (slices:List (List Raw)))(hF:lO slices=some r) :
    Calls Tryz.prog 221 #[s1] w0 (Ret fun v w'=>∃(s0_0:Value),v=s0_0∧St (b9 w0) w' [eJ [s0_0] (r:List Raw)] []):=by
 have hS:St (b9 w0) w0 [] [uT [s1] (slices:List (List Raw))]:=St.enter (by
   intro f hf
   simp only [List.mem_cons,List.not_mem_nil,or_false] at hf
   subst hf;exact h1)
 refine uE (args:=[_]) Tryz.func221 rfl Tryz.ntmps221 rfl ?_
 unfold lO at hF
 intro a hA
 refine bG<|bX hA ?_
 clear hA
 refine oa rfl rfl<|bC fun a hA=>bG<|bX hA ?_
 clear hA
 refine oa rfl rfl<|bC fun a hA=>bG<|bG<|bX hA ?_
 clear hA
 refine om rfl rfl<|oy (lM (hS.rd 0 rfl) Tryz.underlying313 rfl rfl) rfl<|om rfl rfl<|bC fun a hA=>?_
 obtain⟨o1,hl1,hF⟩:=oQ hF
 refine xE (J:=fun a' w'=>∃(x5:Int),o1=x5∧iV 36 [(0,s1),(3,.int .i64 (x5))] a'∧St (b9 w0) w' [] [uT [s1] (slices:List (List Raw))]) ?_ ?_
 ·refine iW ?_
  refine C9 (body:=dW slices) (r:=o1) (fun sg a' w'=>iV 36 [(0,s1),(3,.int .i64 (sg.1)),(9,s1),(10,.int .i64 ((slices.length:Int))),(11,.int .i64 (sg.2))] a'∧St (b9 w0) w' [] [uT [s1] (slices:List (List Raw))]) ?_ hl1 ⟨hA.part ⟨rfl,rfl,rfl,rfl,rfl,trivial⟩,((hS).FQ [] rfl).qK [0] rfl⟩
  clear hA hS hl1
  rintro⟨x3,x4⟩ a w q1 ⟨hA,hS⟩ hG1 hr1
  try dsimp only at hA hS
  unfold dW at hG1
  refine bG<|bX hA ?_
  clear hA
  refine oy (zU rfl rfl rfl) rfl<|bC fun a hA=>bG<|iZ hA rfl (fun hc2=>?_) (fun hc2=>?_)
  ·replace hG1:=EZ hc2 hG1
   refine lL<|bG<|iW<|bG<|bX hA ?_
   clear hA
   obtain⟨x12,hx12,hG1⟩:=oQ hG1
   refine oy (HU (m:=1) (hS.rd 0 rfl) rfl hx12 Tryz.underlying313 Tryz.sizeOf43 rfl rfl rfl) rfl ?_
   obtain⟨s8,hel,hS⟩:=hS.ZE 0 rfl (g8 hx12).2.2
   refine oy (fQ rfl rfl Tryz.isAgg43 (aFG hel)) rfl<|oa rfl rfl<|bC fun a hA=>bG<|bX hA ?_
   clear hA
   refine om rfl rfl<|om rfl rfl<|oy (lM (hS.rd 1 rfl) Tryz.underlying43 rfl rfl) rfl<|oy (DZ rfl rfl rfl) rfl<|oa rfl rfl<|bC fun a hA=>bG<|bX hA ?_
   clear hA
   refine om rfl rfl<|oy (zU rfl rfl rfl) rfl<|bC fun a hA=>iZ hA rfl (fun hc3=>?_) (fun hc3=>?_)
   ·replace hG1:=EZ hc3 hG1
    refine bX hA ?_
    clear hA
    cases hG1
   ·replace hG1:=E0 hc3 hG1
    refine lL<|bX hA ?_
    clear hA
    refine oy (DZ rfl rfl rfl) rfl<|om rfl rfl<|bC fun a hA=>?_
    cases hG1
    exact⟨_,rfl,⟨hA.part ⟨rfl,rfl,rfl,rfl,rfl,trivial⟩,((hS).FQ [] rfl).qK [0] rfl⟩⟩
  ·replace hG1:=E0 hc2 hG1
   refine C8<|xC ?_
   cases hG1
   have ho:=hr1 _ rfl;subst ho
   exact⟨x3,rfl,hA.part ⟨rfl,rfl,trivial⟩,((hS).FQ [] rfl).qK [0] rfl⟩
 ·skip
  clear hA hS hl1
  rintro a w ⟨x5,heq,hA,hS⟩
  replace hF:i6 slices x5=some r:=by rw [heq] at hF;exact hF
  clear heq
  unfold i6 at hF
  refine bG<|bX hA ?_
  clear hA
  refine om rfl rfl ?_
  obtain⟨hn1,hF⟩:=g9 hF
  refine OO (DC Tryz.call337 rfl rfl) (bO rfl) rfl rfl (FC hn1) ?_
  rintro s2 w ⟨_,rfl,hk⟩
  replace hS:=hS.after hk;clear hk
  refine oa rfl rfl<|bC fun a hA=>bG<|bG<|bX hA ?_
  clear hA
  refine om rfl rfl<|oy (lM (hS.rd 0 rfl) Tryz.underlying313 rfl rfl) rfl<|om rfl rfl<|bC fun a hA=>?_
  obtain⟨o2,hl2,hF⟩:=oQ hF
  refine xE (J:=fun a' w'=>∃(x10:List Raw) (s5:Value),o2=x10∧iV 36 [(6,s5)] a'∧St (b9 w0) w' [eJ [s5] (x10:List Raw)] []) ?_ ?_
  ·refine iW ?_
   refine C9 (body:=eN slices) (r:=o2) (fun sg a' w'=>∃(s4:Value),iV 36 [(6,s4),(25,s1),(26,.int .i64 ((slices.length:Int))),(27,.int .i64 (sg.2))] a'∧St (b9 w0) w' [eJ [s4] (sg.1:List Raw)] [uT [s1] (slices:List (List Raw))]) ?_ hl2 ⟨s2,hA.part ⟨rfl,rfl,rfl,rfl,trivial⟩,((hS).FQ [0] rfl).qK [0] rfl⟩
   clear hA hS hl2
   rintro⟨x8,x9⟩ a w q2 ⟨s4,hA,hS⟩ hG2 hr2
   try dsimp only at hA hS
   unfold eN at hG2
   refine bG<|bX hA ?_
   clear hA
   refine oy (zU rfl rfl rfl) rfl<|bC fun a hA=>bG<|iZ hA rfl (fun hc1=>?_) (fun hc1=>?_)
   ·replace hG2:=EZ hc1 hG2
    refine lL<|bG<|iW<|bG<|bX hA ?_
    clear hA
    obtain⟨x11,hx11,hG2⟩:=oQ hG2
    refine oy (HU (m:=1) (hS.rd 0 rfl) rfl hx11 Tryz.underlying313 Tryz.sizeOf43 rfl rfl rfl) rfl ?_
    obtain⟨s6,hel,hS⟩:=hS.ZE 0 rfl (g8 hx11).2.2
    refine oy (fQ rfl rfl Tryz.isAgg43 (aFG hel)) rfl<|oa rfl rfl<|bC fun a hA=>bX hA ?_
    clear hA
    refine om rfl rfl<|om rfl rfl ?_
    obtain⟨hn2,hG2⟩:=g9 hG2
    refine DY (WH (α:=Raw) 0 hS rfl (hS.rd 1 rfl) rfl Tryz.underlying43 cK rfl hn2 rfl rfl rfl) (bO rfl) rfl rfl ?_
    clear hS
    rintro s7 w hS
    refine oa rfl rfl<|bC fun a hA=>bX hA ?_
    clear hA
    refine oy (DZ rfl rfl rfl) rfl<|om rfl rfl<|bC fun a hA=>?_
    cases hG2
    exact⟨_,rfl,⟨s7,hA.part ⟨rfl,rfl,rfl,rfl,trivial⟩,((hS).FQ [0] rfl).qK [0] rfl⟩⟩
   ·replace hG2:=E0 hc1 hG2
    refine C8<|xC ?_
    cases hG2
    have ho:=hr2 _ rfl;subst ho
    exact⟨x8,s4,rfl,hA.part ⟨rfl,trivial⟩,((hS).FQ [0] rfl).qK [] rfl⟩
  ·skip
   clear hA hS hl2
   rintro a w ⟨x10,s5,heq,hA,hS⟩
   replace hF:m9 x10=some r:=by rw [heq] at hF;exact hF
   clear heq
   unfold m9 at hF
   refine bG<|bX hA ?_
   clear hA
   refine om rfl rfl<|oa rfl rfl<|bC fun a hA=>tR ?_
   cases hF
   exact aI8 Tryz.results221 hA (QU rfl) ⟨s5,rfl,(hS.FQ [0] rfl).weaken (R':=[]) (fun _ h=>nomatch h)⟩
theorem EE{w0:World}{n:Int}{low:Int}{high:Int}{r:Bool}(hF:cD n low high=some r) :
    Calls Tryz.prog 107 #[.int .i64 (n),.int .i64 (low),.int .i64 (high)] w0 (Ret fun v w'=>v=.bool (r)∧St (b9 w0) w' [] []):=by
 have hS:St (b9 w0) w0 [] []:=St.enter (by
   intro f hf;cases hf)
 refine uE (args:=[_,_,_]) Tryz.func107 rfl Tryz.ntmps107 rfl ?_
 unfold cD at hF
 intro a hA
 refine bG<|bX hA ?_
 clear hA
 refine oa rfl rfl<|bC fun a hA=>bG<|xE (J:=fun a' w'=>∃(x1:Bool),l7 x1=some r∧iV 15 [(6,.bool (x1))] a'∧St (b9 w0) w' [] []) ?_ ?_
 ·skip
  refine bX hA ?_
  clear hA
  refine om rfl rfl<|om rfl rfl<|oy (aE9 rfl rfl rfl) rfl<|om rfl rfl<|BS (s:=10) rfl (fun hc1=>?_) (fun hc1=>?_)
  ·replace hF:=EZ hc1 hF
   refine dO (kO rfl rfl) (bV rfl rfl rfl (by rw [hc1];rfl)) rfl rfl ?_
   refine dO (kO rfl rfl) (bV rfl rfl rfl (by rw [hc1];rfl)) rfl rfl ?_
   refine dO (aAU rfl rfl rfl) (bV rfl rfl rfl (by rw [hc1];rfl)) rfl rfl ?_
   refine oy (qJ rfl rfl hc1 rfl) rfl<|oa rfl rfl<|bC fun a hA=>?_
   exact⟨decide (n≤high),hF,hA.part ⟨rfl,trivial⟩,((hS).FQ [] rfl).qK [] rfl⟩
  ·replace hF:=E0 hc1 hF
   refine dS (bV rfl rfl rfl (by rw [hc1];rfl)) rfl rfl ?_
   refine dS (bV rfl rfl rfl (by rw [hc1];rfl)) rfl rfl ?_
   refine dS (bV rfl rfl rfl (by rw [hc1];rfl)) rfl rfl ?_
   refine oy (uD rfl rfl hc1 rfl) rfl<|oa rfl rfl<|bC fun a hA=>?_
   exact⟨false,hF,hA.part ⟨rfl,trivial⟩,((hS).FQ [] rfl).qK [] rfl⟩
 ·skip
  clear hA hS hF
  rintro a w ⟨x1,hF,hA,hS⟩
  unfold l7 at hF
  refine tR ?_
  cases hF
  exact fy Tryz.results107 hA rfl hS
theorem VR{w0:World}{slot:Int}{r:Bool}(hF:jD slot=some r) :
    Calls Tryz.prog 222 #[.int .i64 (slot)] w0 (Ret fun v w'=>v=.bool (r)∧St (b9 w0) w' [] []):=by
 have hS:St (b9 w0) w0 [] []:=St.enter (by
   intro f hf;cases hf)
 refine uE (args:=[_]) Tryz.func222 rfl Tryz.ntmps222 rfl ?_
 unfold jD at hF
 intro a hA
 refine bG<|bX hA ?_
 clear hA
 refine oa rfl rfl<|bC fun a hA=>bG<|bX hA ?_
 clear hA
 refine om rfl rfl ?_
 obtain⟨x1,hx1,hF⟩:=oQ hF
 refine OO (DC Tryz.call107 rfl rfl) (bO rfl) rfl rfl (EE (n:=slot) (low:=0) (high:=23) hx1) ?_
 rintro _ w ⟨rfl,hk⟩
 replace hS:=hS.after hk;clear hk
 refine oa rfl rfl<|bC fun a hA=>tR ?_
 cases hF
 exact fy Tryz.results222 hA rfl hS
theorem TF{w0:World}{l:aA}{s1:Value}{s2:Value}{r:Bool}(h1:aJ.rd (HO w0) w0 [s1] (l.Global:List aE))(h2:aJ.rd (HO w0) w0 [s2] (l.bD:List aE))(hF:gW l=some r) :
    Calls Tryz.prog 123 #[.agg #[s1,s2]] w0 (Ret fun v w'=>v=.bool (r)∧St (b9 w0) w' [] []):=by
 have hS:St (b9 w0) w0 [] [uT [s1] (l.Global:List aE),uT [s2] (l.bD:List aE)]:=St.enter (by
   intro f hf
   simp only [List.mem_cons,List.not_mem_nil,or_false] at hf
   rcases hf with rfl | rfl
   · exact h1
   · exact h2)
 refine uE (args:=[_]) Tryz.func123 rfl Tryz.ntmps123 rfl ?_
 unfold gW at hF
 intro a hA
 refine bG<|bX hA ?_
 clear hA
 refine DY (aLV (cs:=[s1,s2]) hS rfl rfl rfl) (bO rfl) rfl rfl ?_
 clear hS
 rintro _ w ⟨b1,rfl,hS⟩
 refine oa rfl rfl<|bC fun a hA=>bG<|bG<|xE (J:=fun a' w'=>∃(x1:Bool),nU l x1=some r∧iV 61 [(1,.pointer (some ⟨b1,0,none⟩)),(17,.bool (x1))] a'∧St (b9 w0) w' [wY b1 [s1,s2]] [uT [s1] (l.Global:List aE),uT [s2] (l.bD:List aE)]) ?_ ?_
 ·skip
  refine bX hA ?_
  clear hA
  refine oy (tS (m:=0) Tryz.underlying45 rfl rfl Tryz.sizeOf43 rfl rfl) rfl<|oy (fQ rfl rfl Tryz.isAgg43 (hS.cell 0 rfl rfl)) rfl<|oy (lM (hS.rd 0 rfl) Tryz.underlying43 rfl rfl) rfl<|oy (XI rfl rfl rfl) rfl<|om rfl rfl<|BS (s:=12) rfl (fun hc8=>?_) (fun hc8=>?_)
  ·replace hF:=EZ hc8 hF
   refine dS (bV rfl rfl rfl (by rw [hc8];rfl)) rfl rfl ?_
   refine dS (bV rfl rfl rfl (by rw [hc8];rfl)) rfl rfl ?_
   refine dS (bV rfl rfl rfl (by rw [hc8];rfl)) rfl rfl ?_
   refine dS (bV rfl rfl rfl (by rw [hc8];rfl)) rfl rfl ?_
   refine oy (qJ rfl rfl hc8 rfl) rfl<|bC fun a hA=>?_
   exact⟨true,hF,hA.part ⟨rfl,rfl,trivial⟩,((hS).FQ [0] rfl).qK [0,1] rfl⟩
  ·replace hF:=E0 hc8 hF
   refine dO (tS (m:=0) Tryz.underlying45 rfl rfl Tryz.sizeOf43 rfl rfl) (bV rfl rfl rfl (by rw [hc8];rfl)) rfl rfl ?_
   refine dO (fQ rfl rfl Tryz.isAgg43 (hS.cell 0 rfl rfl)) (bV rfl rfl rfl (by rw [hc8];rfl)) rfl rfl ?_
   refine dO (lM (hS.rd 1 rfl) Tryz.underlying43 rfl rfl) (bV rfl rfl rfl (by rw [hc8];rfl)) rfl rfl ?_
   refine dO (XI rfl rfl rfl) (bV rfl rfl rfl (by rw [hc8];rfl)) rfl rfl ?_
   refine oy (uD rfl rfl hc8 rfl) rfl<|bC fun a hA=>?_
   exact⟨(l.bD.length:Int) != 9,hF,hA.part ⟨rfl,rfl,trivial⟩,((hS).FQ [0] rfl).qK [0,1] rfl⟩
 ·skip
  clear hA hS hF
  rintro a w ⟨x1,hF,hA,hS⟩
  unfold nU at hF
  refine iZ hA rfl (fun hc1=>?_) (fun hc1=>?_)
  ·replace hF:=EZ hc1 hF
   refine bG<|bX hA ?_
   clear hA
   refine oa rfl rfl<|bC fun a hA=>tR ?_
   cases hF
   exact fy Tryz.results123 hA rfl hS
  ·replace hF:=E0 hc1 hF
   refine lL<|bG<|bX hA ?_
   clear hA
   refine oy (NT (cells:=#[.bool (false),.bool (false),.bool (false),.bool (false),.bool (false),.bool (false),.bool (false),.bool (false),.bool (false),.bool (false),.bool (false),.bool (false),.bool (false),.bool (false),.bool (false),.bool (false),.bool (false),.bool (false),.bool (false),.bool (false),.bool (false),.bool (false),.bool (false),.bool (false)]) rfl Tryz.zeroValue238 Tryz.underlying238 Tryz.sizeOf4 rfl rfl) rfl<|DY (EY (cs:=List.map (fun q:Bool=>Value.bool q) [false,false,false,false,false,false,false,false,false,false,false,false,false,false,false,false,false,false,false,false,false,false,false,false]) hS rfl Tryz.zeroValue238 rfl) (bO rfl) rfl rfl ?_
   clear hS
   rintro _ w ⟨b2,rfl,hS⟩
   refine HQ (LF (vs:=[.bool (false),.bool (false),.bool (false),.bool (false),.bool (false),.bool (false),.bool (false),.bool (false),.bool (false),.bool (false),.bool (false),.bool (false),.bool (false),.bool (false),.bool (false),.bool (false),.bool (false),.bool (false),.bool (false),.bool (false),.bool (false),.bool (false),.bool (false),.bool (false)]) hS (i:=1) rfl rfl rfl rfl rfl Tryz.sizeOf238 rfl rfl rfl) (bO rfl) rfl ?_
   clear hS
   intro w hS
   refine bC fun a hA=>bG<|bG<|bX hA ?_
   clear hA
   refine oy (tS (m:=0) Tryz.underlying45 rfl rfl Tryz.sizeOf43 rfl rfl) rfl<|oy (fQ rfl rfl Tryz.isAgg43 (hS.cell 0 rfl rfl)) rfl<|oy (tS (m:=0) Tryz.underlying45 rfl rfl Tryz.sizeOf43 rfl rfl) rfl<|oy (fQ rfl rfl Tryz.isAgg43 (hS.cell 0 rfl rfl)) rfl<|DY (aA1 hS (hS.rd 1 rfl) (hS.rd 0 rfl) Tryz.underlying313 aBM rfl rfl rfl) (bO rfl) rfl rfl ?_
   clear hS
   rintro s3 w hS
   obtain⟨hn1,hF⟩:=g9 hF
   replace hS:=hS.aNR 2 rfl
   obtain⟨u1,u2,hu1,hl1,hS⟩:=hS.aJM rfl 2 1 0 rfl rfl rfl
   refine OO (DC Tryz.call221 rfl rfl) (bO rfl) rfl rfl (HL hu1 (E8 hl1 hn1)) ?_
   rintro s4 w ⟨_,rfl,hk⟩
   replace hS:=hS.after hk;clear hk
   replace hS:=hS.aNR 3 rfl
   replace hS:=hS.aNX rfl 4 3 rfl rfl
   refine oy (lM (hS.rd 5 rfl) Tryz.underlying43 rfl rfl) rfl<|om rfl rfl<|bC fun a hA=>?_
   obtain⟨o1,hl2,hF⟩:=oQ hF
   refine xE (J:=fun a' w'=>o1=Out.brk ()∧iV 61 [] a'∧St (b9 w0) w' [] []) ?_ ?_
   ·refine iW ?_
    refine C9 (body:=iP l) (r:=o1) (fun sg a' w'=>iV 61 [(1,.pointer (some ⟨b1,0,none⟩)),(3,.pointer (some ⟨b2,0,none⟩)),(24,s4),(25,.int .i64 (((l.bD++l.Global).length:Int))),(26,.int .i64 (sg.1))] a'∧St (b9 w0) w' [wY b1 [s1,s2],wY b2 (List.map (fun q:Bool=>Value.bool q) (sg.2:List Bool))] [uT [s4] (l.bD++l.Global:List aE),uT [s1] (l.Global:List aE),uT [s2] (l.bD:List aE)]) ?_ hl2 ⟨hA.part ⟨rfl,rfl,rfl,rfl,rfl,trivial⟩,((hS).FQ [0,1] rfl).qK [5,0,1] rfl⟩
    clear hA hS hl2
    rintro⟨x4,x5⟩ a w q2 ⟨hA,hS⟩ hG2 hr2
    try dsimp only at hA hS
    unfold iP at hG2
    refine bG<|bX hA ?_
    clear hA
    refine oy (zU rfl rfl rfl) rfl<|bC fun a hA=>bG<|iZ hA rfl (fun hc2=>?_) (fun hc2=>?_)
    ·replace hG2:=EZ hc2 hG2
     refine lL<|bG<|iW<|bG<|bX hA ?_
     clear hA
     refine om rfl rfl ?_
     obtain⟨x6,hx6,hG2⟩:=oQ hG2
     refine oy (HU (m:=1) (hS.rd 0 rfl) rfl hx6 Tryz.underlying43 Tryz.sizeOf162 rfl rfl rfl) rfl ?_
     obtain⟨s5,hel,hS⟩:=hS.aHY 0 rfl (g8 hx6).2.2
     refine oy (HR rfl rfl Tryz.isAgg162 Tryz.sizeOf162 rfl hel) rfl<|DY (EY (cs:=[(.slice none 0 0)]) hS rfl Tryz.zeroValue162 rfl) (bO rfl) rfl rfl ?_
     clear hS
     rintro _ w ⟨b3,rfl,hS⟩
     refine oa rfl rfl<|HQ (LF (vs:=[s5]) hS (i:=2) rfl rfl rfl rfl rfl Tryz.sizeOf162 rfl rfl (aLZ (R0 (hS.rd 3 rfl)) rfl)) (bO rfl) rfl ?_
     clear hS
     intro w hS
     refine bC fun a hA=>bG<|bG<|xE (J:=fun a' w'=>∃(x7:Bool),iO x4 x5 x6 x7=some q2∧iV 61 [(1,.pointer (some ⟨b1,0,none⟩)),(3,.pointer (some ⟨b2,0,none⟩)),(5,.pointer (some ⟨b3,0,none⟩)),(24,s4),(25,.int .i64 (((l.bD++l.Global).length:Int))),(26,.int .i64 (x4)),(41,.bool (x7))] a'∧St (b9 w0) w' [wY b1 [s1,s2],wY b2 (List.map (fun q:Bool=>Value.bool q) (x5:List Bool)),wY b3 [s5]] [uT [s4] (l.bD++l.Global:List aE),uT [s1] (l.Global:List aE),uT [s2] (l.bD:List aE),uT [s5] (x6.aL:List Int)]) ?_ ?_
     ·skip
      refine bX hA ?_
      clear hA
      refine om rfl rfl<|oy (tS (m:=0) Tryz.underlying45 rfl rfl Tryz.sizeOf43 rfl rfl) rfl<|oy (fQ rfl rfl Tryz.isAgg43 (hS.cell 0 rfl rfl)) rfl<|oy (lM (hS.rd 2 rfl) Tryz.underlying43 rfl rfl) rfl<|oy (zU rfl rfl rfl) rfl<|om rfl rfl<|BS (s:=36) rfl (fun hc7=>?_) (fun hc7=>?_)
      ·replace hG2:=EZ hc7 hG2
       refine dO (tS (m:=0) Tryz.underlying162 rfl rfl Tryz.sizeOf22 rfl rfl) (bV rfl rfl rfl (by rw [hc7];rfl)) rfl rfl ?_
       refine dO (fQ rfl rfl Tryz.isAgg22 (hS.cell 2 rfl rfl)) (bV rfl rfl rfl (by rw [hc7];rfl)) rfl rfl ?_
       refine dO (lM (hS.rd 3 rfl) Tryz.underlying22 rfl rfl) (bV rfl rfl rfl (by rw [hc7];rfl)) rfl rfl ?_
       refine dO (aAV rfl rfl rfl) (bV rfl rfl rfl (by rw [hc7];rfl)) rfl rfl ?_
       refine oy (qJ rfl rfl hc7 rfl) rfl<|bC fun a hA=>?_
       exact⟨decide (2 < (x6.aL.length:Int)),hG2,hA.part ⟨rfl,rfl,rfl,rfl,rfl,rfl,rfl,trivial⟩,((hS).FQ [0,1,2] rfl).qK [0,1,2,3] rfl⟩
      ·replace hG2:=E0 hc7 hG2
       refine dS (bV rfl rfl rfl (by rw [hc7];rfl)) rfl rfl ?_
       refine dS (bV rfl rfl rfl (by rw [hc7];rfl)) rfl rfl ?_
       refine dS (bV rfl rfl rfl (by rw [hc7];rfl)) rfl rfl ?_
       refine dS (bV rfl rfl rfl (by rw [hc7];rfl)) rfl rfl ?_
       refine oy (uD rfl rfl hc7 rfl) rfl<|bC fun a hA=>?_
       exact⟨false,hG2,hA.part ⟨rfl,rfl,rfl,rfl,rfl,rfl,rfl,trivial⟩,((hS).FQ [0,1,2] rfl).qK [0,1,2,3] rfl⟩
     ·skip
      clear hA hS hG2
      rintro a w ⟨x7,hG2,hA,hS⟩
      unfold iO at hG2
      refine iZ hA rfl (fun hc3=>?_) (fun hc3=>?_)
      ·replace hG2:=EZ hc3 hG2
       refine bG<|bX hA ?_
       clear hA
       refine oa rfl rfl<|bC fun a hA=>tR ?_
       cases hG2
       have ho:=hr2 _ rfl;subst ho
       replace hF:some false=some r:=hF
       cases hF
       exact fy Tryz.results123 hA rfl hS
      ·replace hG2:=E0 hc3 hG2
       refine lL<|bG<|bX hA ?_
       clear hA
       refine oy (tS (m:=0) Tryz.underlying162 rfl rfl Tryz.sizeOf22 rfl rfl) rfl<|oy (fQ rfl rfl Tryz.isAgg22 (hS.cell 2 rfl rfl)) rfl<|oy (lM (hS.rd 3 rfl) Tryz.underlying22 rfl rfl) rfl<|om rfl rfl<|bC fun a hA=>?_
       obtain⟨o2,hl3,hG2⟩:=oQ hG2
       refine xE (J:=fun a' w'=>∃(x12:List Bool),o2=Out.brk x12∧iV 61 [(1,.pointer (some ⟨b1,0,none⟩)),(3,.pointer (some ⟨b2,0,none⟩)),(24,s4),(25,.int .i64 (((l.bD++l.Global).length:Int))),(26,.int .i64 (x4))] a'∧St (b9 w0) w' [wY b1 [s1,s2],wY b2 (List.map (fun q:Bool=>Value.bool q) (x12:List Bool))] [uT [s4] (l.bD++l.Global:List aE),uT [s1] (l.Global:List aE),uT [s2] (l.bD:List aE)]) ?_ ?_
       ·refine iW ?_
        refine C9 (body:=iN x6) (r:=o2) (fun sg a' w'=>iV 61 [(1,.pointer (some ⟨b1,0,none⟩)),(3,.pointer (some ⟨b2,0,none⟩)),(24,s4),(25,.int .i64 (((l.bD++l.Global).length:Int))),(26,.int .i64 (x4)),(43,s5),(44,.int .i64 ((x6.aL.length:Int))),(45,.int .i64 (sg.1))] a'∧St (b9 w0) w' [wY b1 [s1,s2],wY b2 (List.map (fun q:Bool=>Value.bool q) (sg.2:List Bool))] [uT [s4] (l.bD++l.Global:List aE),uT [s5] (x6.aL:List Int),uT [s1] (l.Global:List aE),uT [s2] (l.bD:List aE)]) ?_ hl3 ⟨hA.part ⟨rfl,rfl,rfl,rfl,rfl,rfl,rfl,rfl,trivial⟩,((hS).FQ [0,1] rfl).qK [0,3,1,2] rfl⟩
        clear hA hS hl3
        rintro⟨x10,x11⟩ a w q4 ⟨hA,hS⟩ hG4 hr4
        try dsimp only at hA hS
        unfold iN at hG4
        refine bG<|bX hA ?_
        clear hA
        refine oy (zU rfl rfl rfl) rfl<|bC fun a hA=>bG<|iZ hA rfl (fun hc4=>?_) (fun hc4=>?_)
        ·replace hG4:=EZ hc4 hG4
         refine lL<|bG<|iW<|bG<|bX hA ?_
         clear hA
         obtain⟨x13,hx13,hG4⟩:=oQ hG4
         refine oy (HU (m:=1) (hS.rd 1 rfl) rfl hx13 Tryz.underlying22 Tryz.sizeOf3 rfl rfl rfl) rfl<|oy (fQ rfl rfl Tryz.isAgg3 (aFG (aLX (hS.rd 1 rfl) (g8 hx13).2.2))) rfl<|oa rfl rfl<|bC fun a hA=>bG<|bG<|xE (J:=fun a' w'=>∃(x14:Bool),kL x10 x11 x13 x14=some q4∧iV 61 [(1,.pointer (some ⟨b1,0,none⟩)),(3,.pointer (some ⟨b2,0,none⟩)),(7,.int .i64 (x13)),(24,s4),(25,.int .i64 (((l.bD++l.Global).length:Int))),(26,.int .i64 (x4)),(43,s5),(44,.int .i64 ((x6.aL.length:Int))),(45,.int .i64 (x10)),(56,.bool (x14))] a'∧St (b9 w0) w' [wY b1 [s1,s2],wY b2 (List.map (fun q:Bool=>Value.bool q) (x11:List Bool))] [uT [s4] (l.bD++l.Global:List aE),uT [s5] (x6.aL:List Int),uT [s1] (l.Global:List aE),uT [s2] (l.bD:List aE)]) ?_ ?_
         ·skip
          refine bX hA ?_
          clear hA
          refine om rfl rfl ?_
          obtain⟨x16,hx16,hG4⟩:=oQ hG4
          refine OO (DC Tryz.call222 rfl rfl) (bO rfl) rfl rfl (VR (slot:=x13) hx16) ?_
          rintro _ w ⟨rfl,hk⟩
          replace hS:=hS.after hk;clear hk
          refine oy (RT rfl rfl) rfl<|om rfl rfl<|BS (s:=52) rfl (fun hc6=>?_) (fun hc6=>?_)
          ·replace hG4:=EZ hc6 hG4
           refine dS (bV rfl rfl rfl (by rw [hc6];rfl)) rfl rfl ?_
           refine dS (bV rfl rfl rfl (by rw [hc6];rfl)) rfl rfl ?_
           refine dS (bV rfl rfl rfl (by rw [hc6];rfl)) rfl rfl ?_
           refine oy (qJ rfl rfl hc6 rfl) rfl<|bC fun a hA=>?_
           exact⟨true,hG4,hA.part ⟨rfl,rfl,rfl,rfl,rfl,rfl,rfl,rfl,rfl,rfl,trivial⟩,((hS).FQ [0,1] rfl).qK [0,1,2,3] rfl⟩
          ·replace hG4:=E0 hc6 hG4
           refine dO (kO rfl rfl) (bV rfl rfl rfl (by rw [hc6];rfl)) rfl rfl ?_
           obtain⟨hn3,hG4⟩:=g9 hG4
           refine dO (QX Tryz.underlying238 Tryz.sizeOf4 hn3 rfl rfl rfl) (bV rfl rfl rfl (by rw [hc6];rfl)) rfl rfl ?_
           obtain⟨x17,hx17,hG4⟩:=oQ hG4
           refine dO (fQ rfl rfl Tryz.isAgg4 (hS.aCG 1 rfl hx17)) (bV rfl rfl rfl (by rw [hc6];rfl)) rfl rfl ?_
           refine oy (uD rfl rfl hc6 rfl) rfl<|bC fun a hA=>?_
           exact⟨x17,hG4,hA.part ⟨rfl,rfl,rfl,rfl,rfl,rfl,rfl,rfl,rfl,rfl,trivial⟩,((hS).FQ [0,1] rfl).qK [0,1,2,3] rfl⟩
         ·skip
          clear hA hS hG4
          rintro a w ⟨x14,hG4,hA,hS⟩
          unfold kL at hG4
          refine iZ hA rfl (fun hc5=>?_) (fun hc5=>?_)
          ·replace hG4:=EZ hc5 hG4
           refine bG<|bX hA ?_
           clear hA
           refine oa rfl rfl<|bC fun a hA=>tR ?_
           cases hG4
           have ho:=hr4 _ rfl;subst ho
           replace hG2:some (.stop (Out.ret false))=some q2:=hG2
           cases hG2
           have ho:=hr2 _ rfl;subst ho
           replace hF:some false=some r:=hF
           cases hF
           exact fy Tryz.results123 hA rfl hS
          ·replace hG4:=E0 hc5 hG4
           refine lL<|bX hA ?_
           clear hA
           refine om rfl rfl ?_
           obtain⟨hn2,hG4⟩:=g9 hG4
           refine oy (QX Tryz.underlying238 Tryz.sizeOf4 hn2 rfl rfl rfl) rfl ?_
           obtain⟨x15,hx15,hG4⟩:=oQ hG4
           refine HQ (aFY (xd:=true) hS (m:=1) rfl hx15 Tryz.sizeOf4 rfl rfl rfl rfl rfl rfl) (bO rfl) rfl ?_
           clear hS
           intro w hS
           refine bC fun a hA=>bX hA ?_
           clear hA
           refine oy (DZ rfl rfl rfl) rfl<|om rfl rfl<|bC fun a hA=>?_
           cases hG4
           exact⟨_,rfl,⟨hA.part ⟨rfl,rfl,rfl,rfl,rfl,rfl,rfl,rfl,trivial⟩,((hS).FQ [0,1] rfl).qK [0,1,2,3] rfl⟩⟩
        ·replace hG4:=E0 hc4 hG4
         refine C8<|xC ?_
         cases hG4
         have ho:=hr4 _ rfl;subst ho
         exact⟨x11,rfl,hA.part ⟨rfl,rfl,rfl,rfl,rfl,trivial⟩,((hS).FQ [0,1] rfl).qK [0,2,3] rfl⟩
       ·skip
        clear hA hS hl3
        rintro a w ⟨x12,heq,hA,hS⟩
        replace hG2:sW x4 x12=some q2:=by rw [heq] at hG2;exact hG2
        clear heq
        unfold sW at hG2
        refine bX hA ?_
        clear hA
        refine oy (DZ rfl rfl rfl) rfl<|om rfl rfl<|bC fun a hA=>?_
        cases hG2
        exact⟨_,rfl,⟨hA.part ⟨rfl,rfl,rfl,rfl,rfl,trivial⟩,((hS).FQ [0,1] rfl).qK [0,1,2] rfl⟩⟩
    ·replace hG2:=E0 hc2 hG2
     refine C8<|xC ?_
     cases hG2
     have ho:=hr2 _ rfl;subst ho
     exact⟨rfl,hA.part trivial,((hS).FQ [] rfl).qK [] rfl⟩
   ·skip
    clear hA hS hl2
    rintro a w ⟨heq,hA,hS⟩
    replace hF:zZ=some r:=by rw [heq] at hF;exact hF
    clear heq
    unfold zZ at hF
    refine bG<|bX hA ?_
    clear hA
    refine oa rfl rfl<|bC fun a hA=>tR ?_
    cases hF
    exact fy Tryz.results123 hA rfl hS
theorem P8{w0:World}{h:Int}{r:Bool}(hF:fP h=some r) :
    Calls Tryz.prog 295 #[.int .i64 (h)] w0 (Ret fun v w'=>v=.bool (r)∧St (b9 w0) w' [] []):=by
 have hS:St (b9 w0) w0 [] []:=St.enter (by
   intro f hf;cases hf)
 refine uE (args:=[_]) Tryz.func295 rfl Tryz.ntmps295 rfl ?_
 unfold fP at hF
 intro a hA
 refine bG<|bX hA ?_
 clear hA
 refine oa rfl rfl<|bC fun a hA=>bG<|xE (J:=fun a' w'=>∃(x1:Bool),jL x1=some r∧iV 10 [(2,.bool (x1))] a'∧St (b9 w0) w' [] []) ?_ ?_
 ·skip
  refine bX hA ?_
  clear hA
  refine om rfl rfl ?_
  obtain⟨x2,hx2,hF⟩:=oQ hF
  refine OO (DC Tryz.call107 rfl rfl) (bO rfl) rfl rfl (EE (n:=h) (low:=32) (high:=223) hx2) ?_
  rintro _ w ⟨rfl,hk⟩
  replace hS:=hS.after hk;clear hk
  refine om rfl rfl<|BS (s:=5) rfl (fun hc1=>?_) (fun hc1=>?_)
  ·replace hF:=EZ hc1 hF
   refine dO (kO rfl rfl) (bV rfl rfl rfl (by rw [hc1];rfl)) rfl rfl ?_
   refine dO (NS rfl rfl rfl (by decide)) (bV rfl rfl rfl (by rw [hc1];rfl)) rfl rfl ?_
   refine dO (zU rfl rfl rfl) (bV rfl rfl rfl (by rw [hc1];rfl)) rfl rfl ?_
   refine oy (qJ rfl rfl hc1 rfl) rfl<|oa rfl rfl<|bC fun a hA=>?_
   exact⟨decide ((Int.tmod h 32) < 24),hF,hA.part ⟨rfl,trivial⟩,((hS).FQ [] rfl).qK [] rfl⟩
  ·replace hF:=E0 hc1 hF
   refine dS (bV rfl rfl rfl (by rw [hc1];rfl)) rfl rfl ?_
   refine dS (bV rfl rfl rfl (by rw [hc1];rfl)) rfl rfl ?_
   refine dS (bV rfl rfl rfl (by rw [hc1];rfl)) rfl rfl ?_
   refine oy (uD rfl rfl hc1 rfl) rfl<|oa rfl rfl<|bC fun a hA=>?_
   exact⟨false,hF,hA.part ⟨rfl,trivial⟩,((hS).FQ [] rfl).qK [] rfl⟩
 ·skip
  clear hA hS hF
  rintro a w ⟨x1,hF,hA,hS⟩
  unfold jL at hF
  refine tR ?_
  cases hF
  exact fy Tryz.results295 hA rfl hS
theorem OA{w0:World}{l:List aN}{s1:Value}{r:Int}(h1:aJ.rd (HO w0) w0 [s1] (l:List aN))(hF:pR l=some r) :
    Calls Tryz.prog 35 #[s1] w0 (Ret fun v w'=>v=.int .i64 (r)∧St (b9 w0) w' [] []):=by
 have hS:St (b9 w0) w0 [] [uT [s1] (l:List aN)]:=St.enter (by
   intro f hf
   simp only [List.mem_cons,List.not_mem_nil,or_false] at hf
   subst hf;exact h1)
 refine uE (args:=[_]) Tryz.func35 rfl Tryz.ntmps35 rfl ?_
 unfold pR at hF
 intro a hA
 refine bG<|bX hA ?_
 clear hA
 refine oa rfl rfl<|bC fun a hA=>bG<|bX hA ?_
 clear hA
 refine oa rfl rfl<|bC fun a hA=>bG<|bG<|bX hA ?_
 clear hA
 refine om rfl rfl<|oy (lM (hS.rd 0 rfl) Tryz.underlying51 rfl rfl) rfl<|om rfl rfl<|bC fun a hA=>?_
 obtain⟨o1,hl1,hF⟩:=oQ hF
 refine xE (J:=fun a' w'=>∃(x5:Int),o1=x5∧iV 19 [(3,.int .i64 (x5))] a'∧St (b9 w0) w' [] []) ?_ ?_
 ·refine iW ?_
  refine C9 (body:=fU l) (r:=o1) (fun sg a' w'=>iV 19 [(3,.int .i64 (sg.1)),(6,s1),(7,.int .i64 ((l.length:Int))),(8,.int .i64 (sg.2))] a'∧St (b9 w0) w' [] [uT [s1] (l:List aN)]) ?_ hl1 ⟨hA.part ⟨rfl,rfl,rfl,rfl,trivial⟩,((hS).FQ [] rfl).qK [0] rfl⟩
  clear hA hS hl1
  rintro⟨x3,x4⟩ a w q1 ⟨hA,hS⟩ hG1 hr1
  try dsimp only at hA hS
  unfold fU at hG1
  refine bG<|bX hA ?_
  clear hA
  refine oy (zU rfl rfl rfl) rfl<|bC fun a hA=>bG<|iZ hA rfl (fun hc1=>?_) (fun hc1=>?_)
  ·replace hG1:=EZ hc1 hG1
   refine lL<|bG<|iW<|bG<|bX hA ?_
   clear hA
   obtain⟨x6,hx6,hG1⟩:=oQ hG1
   refine oy (HU (m:=1) (hS.rd 0 rfl) rfl hx6 Tryz.underlying51 Tryz.sizeOf103 rfl rfl rfl) rfl ?_
   obtain⟨s2,hel,hS⟩:=hS.Z7 0 rfl (g8 hx6).2.2
   refine oy (HR rfl rfl Tryz.isAgg103 Tryz.sizeOf103 rfl hel) rfl<|DY (EY (cs:=[(.slice none 0 0)]) hS rfl Tryz.zeroValue103 rfl) (bO rfl) rfl rfl ?_
   clear hS
   rintro _ w ⟨b1,rfl,hS⟩
   refine HQ (LF (vs:=[s2]) hS (i:=0) rfl rfl rfl rfl rfl Tryz.sizeOf103 rfl rfl (aLZ (R0 (hS.rd 1 rfl)) rfl)) (bO rfl) rfl ?_
   clear hS
   intro w hS
   refine bC fun a hA=>bX hA ?_
   clear hA
   refine om rfl rfl<|oy (tS (m:=0) Tryz.underlying103 rfl rfl Tryz.sizeOf101 rfl rfl) rfl<|oy (fQ rfl rfl Tryz.isAgg101 (hS.cell 0 rfl rfl)) rfl<|oy (lM (hS.rd 1 rfl) Tryz.underlying101 rfl rfl) rfl<|oy (DZ rfl rfl rfl) rfl<|oa rfl rfl<|bC fun a hA=>bX hA ?_
   clear hA
   refine oy (DZ rfl rfl rfl) rfl<|om rfl rfl<|bC fun a hA=>?_
   cases hG1
   exact⟨_,rfl,⟨hA.part ⟨rfl,rfl,rfl,rfl,trivial⟩,((hS).FQ [] rfl).qK [0] rfl⟩⟩
  ·replace hG1:=E0 hc1 hG1
   refine C8<|xC ?_
   cases hG1
   have ho:=hr1 _ rfl;subst ho
   exact⟨x3,rfl,hA.part ⟨rfl,trivial⟩,((hS).FQ [] rfl).qK [] rfl⟩
 ·skip
  clear hA hS hl1
  rintro a w ⟨x5,heq,hA,hS⟩
  replace hF:vS x5=some r:=by rw [heq] at hF;exact hF
  clear heq
  unfold vS at hF
  refine bG<|bX hA ?_
  clear hA
  refine om rfl rfl<|oa rfl rfl<|bC fun a hA=>tR ?_
  cases hF
  exact fy Tryz.results35 hA rfl hS
theorem TG{w0:World}{l:List aN}{s1:Value}{r:Bool}(h1:aJ.rd (HO w0) w0 [s1] (l:List aN))(hF:i7 l=some r) :
    Calls Tryz.prog 212 #[s1] w0 (Ret fun v w'=>v=.bool (r)∧St (b9 w0) w' [] []):=by
 have hS:St (b9 w0) w0 [] [uT [s1] (l:List aN)]:=St.enter (by
   intro f hf
   simp only [List.mem_cons,List.not_mem_nil,or_false] at hf
   subst hf;exact h1)
 refine uE (args:=[_]) Tryz.func212 rfl Tryz.ntmps212 rfl ?_
 unfold i7 at hF
 intro a hA
 refine bG<|bX hA ?_
 clear hA
 refine oa rfl rfl<|bC fun a hA=>bG<|bG<|bX hA ?_
 clear hA
 refine om rfl rfl<|oy (lM (hS.rd 0 rfl) Tryz.underlying51 rfl rfl) rfl<|oy (XI rfl rfl rfl) rfl<|bC fun a hA=>iZ hA rfl (fun hc1=>?_) (fun hc1=>?_)
 ·replace hF:=EZ hc1 hF
  refine bG<|bX hA ?_
  clear hA
  refine oa rfl rfl<|bC fun a hA=>tR ?_
  cases hF
  exact fy Tryz.results212 hA rfl hS
 ·replace hF:=E0 hc1 hF
  refine lL<|bG<|bX hA ?_
  clear hA
  refine oy (NT (cells:=#[.bool (false),.bool (false),.bool (false),.bool (false),.bool (false),.bool (false),.bool (false),.bool (false),.bool (false),.bool (false),.bool (false),.bool (false),.bool (false),.bool (false),.bool (false),.bool (false),.bool (false),.bool (false),.bool (false),.bool (false),.bool (false),.bool (false),.bool (false),.bool (false)]) rfl Tryz.zeroValue238 Tryz.underlying238 Tryz.sizeOf4 rfl rfl) rfl<|DY (EY (cs:=List.map (fun q:Bool=>Value.bool q) [false,false,false,false,false,false,false,false,false,false,false,false,false,false,false,false,false,false,false,false,false,false,false,false]) hS rfl Tryz.zeroValue238 rfl) (bO rfl) rfl rfl ?_
  clear hS
  rintro _ w ⟨b1,rfl,hS⟩
  refine HQ (LF (vs:=[.bool (false),.bool (false),.bool (false),.bool (false),.bool (false),.bool (false),.bool (false),.bool (false),.bool (false),.bool (false),.bool (false),.bool (false),.bool (false),.bool (false),.bool (false),.bool (false),.bool (false),.bool (false),.bool (false),.bool (false),.bool (false),.bool (false),.bool (false),.bool (false)]) hS (i:=0) rfl rfl rfl rfl rfl Tryz.sizeOf238 rfl rfl rfl) (bO rfl) rfl ?_
  clear hS
  intro w hS
  refine bC fun a hA=>bG<|bG<|bX hA ?_
  clear hA
  refine om rfl rfl<|oy (lM (hS.rd 0 rfl) Tryz.underlying51 rfl rfl) rfl<|om rfl rfl<|bC fun a hA=>?_
  obtain⟨o1,hl1,hF⟩:=oQ hF
  refine xE (J:=fun a' w'=>o1=Out.brk ()∧iV 51 [(0,s1)] a'∧St (b9 w0) w' [] [uT [s1] (l:List aN)]) ?_ ?_
  ·refine iW ?_
   refine C9 (body:=iS l) (r:=o1) (fun sg a' w'=>iV 51 [(0,s1),(3,.pointer (some ⟨b1,0,none⟩)),(12,s1),(13,.int .i64 ((l.length:Int))),(14,.int .i64 (sg.1))] a'∧St (b9 w0) w' [wY b1 (List.map (fun q:Bool=>Value.bool q) (sg.2:List Bool))] [uT [s1] (l:List aN)]) ?_ hl1 ⟨hA.part ⟨rfl,rfl,rfl,rfl,rfl,trivial⟩,((hS).FQ [0] rfl).qK [0] rfl⟩
   clear hA hS hl1
   rintro⟨x3,x4⟩ a w q1 ⟨hA,hS⟩ hG1 hr1
   try dsimp only at hA hS
   unfold iS at hG1
   refine bG<|bX hA ?_
   clear hA
   refine oy (zU rfl rfl rfl) rfl<|bC fun a hA=>bG<|iZ hA rfl (fun hc2=>?_) (fun hc2=>?_)
   ·replace hG1:=EZ hc2 hG1
    refine lL<|bG<|iW<|bG<|bX hA ?_
    clear hA
    obtain⟨x6,hx6,hG1⟩:=oQ hG1
    refine oy (HU (m:=1) (hS.rd 0 rfl) rfl hx6 Tryz.underlying51 Tryz.sizeOf103 rfl rfl rfl) rfl ?_
    obtain⟨s2,hel,hS⟩:=hS.Z7 0 rfl (g8 hx6).2.2
    refine oy (HR rfl rfl Tryz.isAgg103 Tryz.sizeOf103 rfl hel) rfl<|DY (EY (cs:=[(.slice none 0 0)]) hS rfl Tryz.zeroValue103 rfl) (bO rfl) rfl rfl ?_
    clear hS
    rintro _ w ⟨b2,rfl,hS⟩
    refine HQ (LF (vs:=[s2]) hS (i:=1) rfl rfl rfl rfl rfl Tryz.sizeOf103 rfl rfl (aLZ (R0 (hS.rd 1 rfl)) rfl)) (bO rfl) rfl ?_
    clear hS
    intro w hS
    refine bC fun a hA=>bG<|bX hA ?_
    clear hA
    refine oy (tS (m:=0) Tryz.underlying103 rfl rfl Tryz.sizeOf101 rfl rfl) rfl<|oy (fQ rfl rfl Tryz.isAgg101 (hS.cell 1 rfl rfl)) rfl<|oy (lM (hS.rd 1 rfl) Tryz.underlying101 rfl rfl) rfl<|om rfl rfl<|bC fun a hA=>?_
    obtain⟨o2,hl2,hG1⟩:=oQ hG1
    refine xE (J:=fun a' w'=>∃(x11:List Bool),o2=Out.brk x11∧iV 51 [(0,s1),(3,.pointer (some ⟨b1,0,none⟩)),(12,s1),(13,.int .i64 ((l.length:Int))),(14,.int .i64 (x3))] a'∧St (b9 w0) w' [wY b1 (List.map (fun q:Bool=>Value.bool q) (x11:List Bool))] [uT [s1] (l:List aN)]) ?_ ?_
    ·refine iW ?_
     refine C9 (body:=iQ x6) (r:=o2) (fun sg a' w'=>iV 51 [(0,s1),(3,.pointer (some ⟨b1,0,none⟩)),(12,s1),(13,.int .i64 ((l.length:Int))),(14,.int .i64 (x3)),(19,s2),(20,.int .i64 ((x6.Rows.length:Int))),(21,.int .i64 (sg.1))] a'∧St (b9 w0) w' [wY b1 (List.map (fun q:Bool=>Value.bool q) (sg.2:List Bool))] [uT [s1] (l:List aN),uT [s2] (x6.Rows:List bJ)]) ?_ hl2 ⟨hA.part ⟨rfl,rfl,rfl,rfl,rfl,rfl,rfl,rfl,trivial⟩,((hS).FQ [0] rfl).qK [0,1] rfl⟩
     clear hA hS hl2
     rintro⟨x9,x10⟩ a w q2 ⟨hA,hS⟩ hG2 hr2
     try dsimp only at hA hS
     unfold iQ at hG2
     refine bG<|bX hA ?_
     clear hA
     refine oy (zU rfl rfl rfl) rfl<|bC fun a hA=>bG<|iZ hA rfl (fun hc3=>?_) (fun hc3=>?_)
     ·replace hG2:=EZ hc3 hG2
      refine lL<|bG<|iW<|bG<|bX hA ?_
      clear hA
      obtain⟨x12,hx12,hG2⟩:=oQ hG2
      refine oy (HU (m:=2) (hS.rd 1 rfl) rfl hx12 Tryz.underlying101 Tryz.sizeOf105 rfl rfl rfl) rfl<|oy (HR rfl rfl Tryz.isAgg105 Tryz.sizeOf105 rfl (aKH (hS.rd 1 rfl) (g8 hx12).2.2)) rfl<|DY (EY (cs:=[.int .i64 (0),.int .i64 (0)]) hS rfl Tryz.zeroValue105 rfl) (bO rfl) rfl rfl ?_
      clear hS
      rintro _ w ⟨b3,rfl,hS⟩
      refine HQ (LF (vs:=[.int .i64 (x12.Handle),.int .i64 (x12.aI)]) hS (i:=1) rfl rfl rfl rfl rfl Tryz.sizeOf105 rfl rfl rfl) (bO rfl) rfl ?_
      clear hS
      intro w hS
      refine bC fun a hA=>bG<|bG<|xE (J:=fun a' w'=>∃(x13:Bool),fZ x9 x10 x12 x13=some q2∧iV 51 [(0,s1),(3,.pointer (some ⟨b1,0,none⟩)),(7,.pointer (some ⟨b3,0,none⟩)),(12,s1),(13,.int .i64 ((l.length:Int))),(14,.int .i64 (x3)),(19,s2),(20,.int .i64 ((x6.Rows.length:Int))),(21,.int .i64 (x9)),(41,.bool (x13))] a'∧St (b9 w0) w' [wY b1 (List.map (fun q:Bool=>Value.bool q) (x10:List Bool)),wY b3 [.int .i64 (x12.Handle),.int .i64 (x12.aI)]] [uT [s1] (l:List aN),uT [s2] (x6.Rows:List bJ)]) ?_ ?_
      ·skip
       refine bX hA ?_
       clear hA
       refine oy (tS (m:=0) Tryz.underlying105 rfl rfl Tryz.sizeOf3 rfl rfl) rfl<|oy (fQ rfl rfl Tryz.isAgg3 (hS.cell 1 rfl rfl)) rfl ?_
       obtain⟨x15,hx15,hG2⟩:=oQ hG2
       refine OO (DC Tryz.call295 rfl rfl) (bO rfl) rfl rfl (P8 (h:=x12.Handle) hx15) ?_
       rintro _ w ⟨rfl,hk⟩
       replace hS:=hS.after hk;clear hk
       refine oy (RT rfl rfl) rfl<|om rfl rfl<|BS (s:=29) rfl (fun hc5=>?_) (fun hc5=>?_)
       ·replace hG2:=EZ hc5 hG2
        refine dS (bV rfl rfl rfl (by rw [hc5];rfl)) rfl rfl ?_
        refine dS (bV rfl rfl rfl (by rw [hc5];rfl)) rfl rfl ?_
        refine dS (bV rfl rfl rfl (by rw [hc5];rfl)) rfl rfl ?_
        refine dS (bV rfl rfl rfl (by rw [hc5];rfl)) rfl rfl ?_
        refine oy (qJ rfl rfl hc5 rfl) rfl<|om rfl rfl<|dS (bV rfl rfl rfl rfl) rfl rfl<|dS (bV rfl rfl rfl rfl) rfl rfl<|dS (bV rfl rfl rfl rfl) rfl rfl<|dS (bV rfl rfl rfl rfl) rfl rfl<|dS (bV rfl rfl rfl rfl) rfl rfl<|oy (qJ rfl rfl rfl rfl) rfl<|bC fun a hA=>?_
        exact⟨true,hG2,hA.part ⟨rfl,rfl,rfl,rfl,rfl,rfl,rfl,rfl,rfl,rfl,trivial⟩,((hS).FQ [0,1] rfl).qK [0,1] rfl⟩
       ·replace hG2:=E0 hc5 hG2
        refine dO (tS (m:=0) Tryz.underlying105 rfl rfl Tryz.sizeOf3 rfl rfl) (bV rfl rfl rfl (by rw [hc5];rfl)) rfl rfl ?_
        refine dO (fQ rfl rfl Tryz.isAgg3 (hS.cell 1 rfl rfl)) (bV rfl rfl rfl (by rw [hc5];rfl)) rfl rfl ?_
        obtain⟨x16,hx16,hG2⟩:=oQ hG2
        refine OO (DC Tryz.call107 rfl rfl) (bV rfl rfl rfl (by rw [hc5];rfl)) rfl rfl (EE (n:=x12.aI) (low:=0) (high:=100000) hx16) ?_
        rintro _ w ⟨rfl,hk⟩
        replace hS:=hS.after hk;clear hk
        refine dO (RT rfl rfl) (bV rfl rfl rfl (by rw [hc5];rfl)) rfl rfl ?_
        refine oy (uD rfl rfl hc5 rfl) rfl<|om rfl rfl<|BS (s:=35) rfl (fun hc6=>?_) (fun hc6=>?_)
        ·replace hG2:=EZ hc6 hG2
         refine dS (bV rfl rfl rfl (by rw [hc6];rfl)) rfl rfl ?_
         refine dS (bV rfl rfl rfl (by rw [hc6];rfl)) rfl rfl ?_
         refine dS (bV rfl rfl rfl (by rw [hc6];rfl)) rfl rfl ?_
         refine dS (bV rfl rfl rfl (by rw [hc6];rfl)) rfl rfl ?_
         refine dS (bV rfl rfl rfl (by rw [hc6];rfl)) rfl rfl ?_
         refine oy (qJ rfl rfl hc6 rfl) rfl<|bC fun a hA=>?_
         exact⟨true,hG2,hA.part ⟨rfl,rfl,rfl,rfl,rfl,rfl,rfl,rfl,rfl,rfl,trivial⟩,((hS).FQ [0,1] rfl).qK [0,1] rfl⟩
        ·replace hG2:=E0 hc6 hG2
         refine dO (tS (m:=0) Tryz.underlying105 rfl rfl Tryz.sizeOf3 rfl rfl) (bV rfl rfl rfl (by rw [hc6];rfl)) rfl rfl ?_
         refine dO (fQ rfl rfl Tryz.isAgg3 (hS.cell 1 rfl rfl)) (bV rfl rfl rfl (by rw [hc6];rfl)) rfl rfl ?_
         refine dO (NS rfl rfl rfl (by decide)) (bV rfl rfl rfl (by rw [hc6];rfl)) rfl rfl ?_
         obtain⟨hn2,hG2⟩:=g9 hG2
         refine dO (QX Tryz.underlying238 Tryz.sizeOf4 hn2 rfl rfl rfl) (bV rfl rfl rfl (by rw [hc6];rfl)) rfl rfl ?_
         obtain⟨x17,hx17,hG2⟩:=oQ hG2
         refine dO (fQ rfl rfl Tryz.isAgg4 (hS.aCG 0 rfl hx17)) (bV rfl rfl rfl (by rw [hc6];rfl)) rfl rfl ?_
         refine oy (uD rfl rfl hc6 rfl) rfl<|bC fun a hA=>?_
         exact⟨x17,hG2,hA.part ⟨rfl,rfl,rfl,rfl,rfl,rfl,rfl,rfl,rfl,rfl,trivial⟩,((hS).FQ [0,1] rfl).qK [0,1] rfl⟩
      ·skip
       clear hA hS hG2
       rintro a w ⟨x13,hG2,hA,hS⟩
       unfold fZ at hG2
       refine iZ hA rfl (fun hc4=>?_) (fun hc4=>?_)
       ·replace hG2:=EZ hc4 hG2
        refine bG<|bX hA ?_
        clear hA
        refine oa rfl rfl<|bC fun a hA=>tR ?_
        cases hG2
        have ho:=hr2 _ rfl;subst ho
        replace hG1:some (.stop (Out.ret false))=some q1:=hG1
        cases hG1
        have ho:=hr1 _ rfl;subst ho
        replace hF:some false=some r:=hF
        cases hF
        exact fy Tryz.results212 hA rfl hS
       ·replace hG2:=E0 hc4 hG2
        refine lL<|bX hA ?_
        clear hA
        refine oy (tS (m:=0) Tryz.underlying105 rfl rfl Tryz.sizeOf3 rfl rfl) rfl<|oy (fQ rfl rfl Tryz.isAgg3 (hS.cell 1 rfl rfl)) rfl<|oy (NS rfl rfl rfl (by decide)) rfl ?_
        obtain⟨hn1,hG2⟩:=g9 hG2
        refine oy (QX Tryz.underlying238 Tryz.sizeOf4 hn1 rfl rfl rfl) rfl ?_
        obtain⟨x14,hx14,hG2⟩:=oQ hG2
        refine HQ (aFY (xd:=true) hS (m:=0) rfl hx14 Tryz.sizeOf4 rfl rfl rfl rfl rfl rfl) (bO rfl) rfl ?_
        clear hS
        intro w hS
        refine bC fun a hA=>bX hA ?_
        clear hA
        refine oy (DZ rfl rfl rfl) rfl<|om rfl rfl<|bC fun a hA=>?_
        cases hG2
        exact⟨_,rfl,⟨hA.part ⟨rfl,rfl,rfl,rfl,rfl,rfl,rfl,rfl,trivial⟩,((hS).FQ [0] rfl).qK [0,1] rfl⟩⟩
     ·replace hG2:=E0 hc3 hG2
      refine C8<|xC ?_
      cases hG2
      have ho:=hr2 _ rfl;subst ho
      exact⟨x10,rfl,hA.part ⟨rfl,rfl,rfl,rfl,rfl,trivial⟩,((hS).FQ [0] rfl).qK [0] rfl⟩
    ·skip
     clear hA hS hl2
     rintro a w ⟨x11,heq,hA,hS⟩
     replace hG1:tB x3 x11=some q1:=by rw [heq] at hG1;exact hG1
     clear heq
     unfold tB at hG1
     refine bX hA ?_
     clear hA
     refine oy (DZ rfl rfl rfl) rfl<|om rfl rfl<|bC fun a hA=>?_
     cases hG1
     exact⟨_,rfl,⟨hA.part ⟨rfl,rfl,rfl,rfl,rfl,trivial⟩,((hS).FQ [0] rfl).qK [0] rfl⟩⟩
   ·replace hG1:=E0 hc2 hG1
    refine C8<|xC ?_
    cases hG1
    have ho:=hr1 _ rfl;subst ho
    exact⟨rfl,hA.part ⟨rfl,trivial⟩,((hS).FQ [] rfl).qK [0] rfl⟩
  ·skip
   clear hA hS hl1
   rintro a w ⟨heq,hA,hS⟩
   replace hF:tA l=some r:=by rw [heq] at hF;exact hF
   clear heq
   unfold tA at hF
   refine bG<|bX hA ?_
   clear hA
   refine om rfl rfl ?_
   obtain⟨x5,hx5,hF⟩:=oQ hF
   refine OO (DC Tryz.call35 rfl rfl) (bO rfl) rfl rfl (OA (l:=l) (hS.rd 0 rfl) hx5) ?_
   rintro _ w ⟨rfl,hk⟩
   replace hS:=hS.after hk;clear hk
   refine oy (aAU rfl rfl rfl) rfl<|oa rfl rfl<|bC fun a hA=>tR ?_
   cases hF
   exact fy Tryz.results212 hA rfl hS
end Go.Proofs.YtbdmodalljibjaaGreat
end
