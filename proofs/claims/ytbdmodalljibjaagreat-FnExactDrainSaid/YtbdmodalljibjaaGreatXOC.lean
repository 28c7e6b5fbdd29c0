import Derived.Test.YtbdmodalljibjaaGreatXOB
set_option linter.unusedVariables false
set_option linter.unusedSimpArgs false
set_option linter.unusedSectionVars false
set_option linter.constructorNameAsVariable false
set_option linter.unnecessarySimpa false
noncomputable section
namespace Go.Gv
noncomputable section
variable {B B':Bl} {i j:Nat}
end
noncomputable section
variable {n:Nat} {c:Ctx} {B0:Bl} {m:Nat} {e:SE} {L:List Ch}
theorem QB{Z:Act→World→Prop}{α:Type}[aK α](j:Nat){s:AC}{l:List α}{n0:Nat}(hl:l.length=n0)(hj:L[j]?=some (ow s l))
    (kk:∀a w,pU n c B0 m e (L.set j (.o (dB [s.v n0] l))) a w→Z a w):∀a w,pU n c B0 m e L a w→Z a w:=by
  subst hl
  have:L.set j (.o (dB [s.v l.length] l))=L:=by
    obtain⟨h1,h2⟩:=List.getElem?_eq_some_iff.1 hj
    rw [←show L[j]=.o (dB [s.v l.length] l) from h2];exact List.set_getElem_self h1
  rw [this] at kk
  exact kk
end
theorem fG{P:Program}{T:TT}{hT:FJ P T}{n:Nat}{c:Ctx}{B0:Bl}{N:Act→World→Prop}{X:Nat→Act→World→Prop}{Q:Act→World→Prop}{K:List Fr}{m:Nat}{e e1:SE}{L L1:List Ch}{cf:vZ}(h1:aPZ e=some e1)(h2:aP0 L=some L1)(k:G (.mk P T hT n c B0 N X Q) K m e1 L1 cf):G (.mk P T hT n c B0 N X Q) K m e L cf:=by
  have:=aBS h1
  have:=aBT h2
  subst e1;subst L1
  exact k
end Go.Gv
end
noncomputable section
namespace Go.Gv
universe u
theorem Q{α:Sort u}{a:α}:a=a:=Eq.refl a
def W{ρ:Type}(C:Prop)(r:ρ)(F:Option ρ):Prop:=F=some r→C
theorem wm{ρ:Type}{C:Prop}{r:ρ}{F F':Option ρ}(h:F'=F)(k:W C r F):W C r F':=h ▸ k
theorem wi{ρ:Type}{C:Prop}{r:ρ}{F:Option ρ}(h:F=some r)(k:W C r F):C:=k h
def VS(P:Program)(c:Ctx)(f:FuncId){ρ ex:Type}(F:Option ρ)(xs:List SV)(B0:Bl)(L0:List Ch)(sv:ρ→ex→SV)(Lf:ρ→ex→List Ch):Prop:=∀r,F=some r→FnS P f c xs B0 L0 sv Lf r
abbrev V0(P:Program)(c:Ctx)(f:FuncId){ρ:Type}(F:Option ρ)(xs:List SV)(sv:ρ→SV):Prop:=VS P c f F xs [] [] (fun r (_:Unit)=>sv r) (fun _ _=>[])
theorem VS.r{P:Program}{c:Ctx}{f:FuncId}{ρ ex:Type}{F:Option ρ}{xs:List SV}{B0:Bl}{L0:List Ch}{sv:ρ→ex→SV}{Lf:ρ→ex→List Ch}(h:VS P c f F xs B0 L0 sv Lf){r:ρ}(hF:F=some r):FnS P f c xs B0 L0 sv Lf r:=h r hF
def QR(P:Program)(fn:Func){rs:List ResultVar}(_:fn.results=rs.toArray)(c:Ctx)(B0:Bl){ρ ex:Type}(sv:ρ→ex→SV)(Lf:ρ→ex→List Ch)(r:ρ):Act→World→Prop:=QS P fn c B0 sv Lf r
def aTW(T:TT)(rs:List ResultVar)(is:List Nat)(b0:Nat)(L2:List Ch):Stop→Option (SV×List Ch)
  | .ret m e L => match aM0 T e L rs with
    | some x => match HM b0 (nbS x) with
      | true => match U3 b0 m e L is b0 [] L2 with
        | some ([],L3)=>some (nbS x,L3)
        | _=>none
      | false=>none
    | none=>none
  | _=>none
def aP8(is:List Nat)(b0 mj:Nat)(ej:SE)(Lj:List Ch):Stop→Option (SE×List Ch)
  | .fin m e L=>U3 b0 m e L is mj ej Lj
  | _=>none
def exQ(is:List Nat)(id b0 mj:Nat)(ej:SE)(Lj:List Ch):Stop→Option (SE×List Ch)
  | .ex i m e L => match Nat.beq i id with
    | true=>U3 b0 m e L is mj ej Lj
    | false=>none
  | _=>none
def a1L:Stop→Stop
  | .fin m e L=>.ret m e L
  | _=>.stuck
def ixT(T:TT)(t n:Nat):Bool:=match CF T t with
  | some ⟨.sl el, _, _, _⟩ => match CF T el with
    | some ⟨_,_,sz,_⟩=>Nat.beq n sz
    | none=>false
  | _=>false
noncomputable section
variable {P:Program} {T:TT} {hT:FJ P T} {n:Nat} {c:Ctx} {B0:Bl} {N:Act→World→Prop} {X:Nat→Act→World→Prop} {Q:Act→World→Prop} {K K':List Fr} {m m':Nat} {e e':SE} {L L' Lv:List Ch} {cf cf' cf1 cf2:vZ} {o:Oper}
theorem bR(hT:FJ P T){f:FuncId}{fn:Func}{cd:Code}{xs:List SV}{L0:List Ch}{ρ ex:Type}{sv:ρ→ex→SV}{Lf:ρ→ex→List Ch}{F:Option ρ}{rs:List ResultVar}(hc:∀args w,(callFunc f args).run P w=.ok (.enter f args) w)(hf:P.funcs[f]?=some fn)(hr:fn.results=rs.toArray)(hb:fn.body=some cd)(hm:fn.ntmps=n)
    (k:∀{r},W (G (.mk P T hT n c B0 (QR P fn hr c B0 sv Lf r) (fun _ _ _=>False) (QR P fn hr c B0 sv Lf r)) [] B0.length (aH0 0 xs) L0 (.c cd)) r F) (hl:Nat.ble xs.length n=true:=by exact rfl):VS P c f F xs B0 L0 sv Lf:=
  fun _ hF=>en n hc hf hT hb hm hl (k hF)
theorem aPD{rs:List ResultVar}{is:List Nat}{b0:Nat}{L2 L3:List Ch}{s:SV}{st:Stop}(h:aTW T rs is b0 L2 st=some (s,L3)):∃m' e' L' x,st=.ret m' e' L'∧aM0 T e' L' rs=some x∧nbS x=s∧HM b0 s=true∧U3 b0 m' e' L' is b0 [] L2=some ([],L3):=by
  unfold aTW at h
  split at h
  · split at h
    · rename_i h1
      split at h
      · rename_i h2
        split at h
        · rename_i h3
          cases h
          exact⟨_,_,_,_,rfl,h1,rfl,h2,h3⟩
        · cases h
      · cases h
    · cases h
  · cases h
theorem d8{fn:Func}{ρ ex:Type}{sv:ρ→ex→SV}{Lf:ρ→ex→List Ch}{r r':ρ}{rs:List ResultVar}{hr:fn.results=rs.toArray}{zz:Option ρ}(y:ex)(is:List Nat)(hz:zz=some r')(h:aTW T rs is B0.length (Lf r' y) (kR T n K cf m e L)=some (sv r' y,Lf r' y)):W (G (.mk P T hT n c B0 N X (QR P fn hr c B0 sv Lf r)) K m e L cf) r zz:=fun hF=>by
  obtain⟨_,_,_,_,h1,h2,h3,h4,h5⟩:=aPD h
  exact rt y is hF hz h1 hr h2 h3 h4 h5
theorem aZ{fn:Func}{ρ:Type}{sv:ρ→Unit→SV}{Lf:ρ→Unit→List Ch}{r r':ρ}{rs:List ResultVar}{hr:fn.results=rs.toArray}{zz:Option ρ}(hz:zz=some r')(h:aTW T rs [] B0.length (Lf r' ()) (kR T n K cf m e L)=some (sv r' (),Lf r' ())):W (G (.mk P T hT n c B0 N X (QR P fn hr c B0 sv Lf r)) K m e L cf) r zz:=d8 () [] hz h
theorem L4{fn:Func}{ρ ex:Type}{sv:ρ→ex→SV}{Lf:ρ→ex→List Ch}{r r':ρ}{rs:List ResultVar}{hr:fn.results=rs.toArray}{zz:Option ρ}(y:ex)(is:List Nat)(hz:zz=some r')(h:aTW T rs is B0.length (Lf r' y) (a1L (kR T n K cf m e L))=some (sv r' y,Lf r' y)):W (G (.mk P T hT n c B0 (QR P fn hr c B0 sv Lf r) X Q) K m e L cf) r zz:=fun hF=>by
  obtain⟨m',e',L',_,h1,h2,h3,h4,h5⟩:=aPD h
  refine rf y is hF hz (m':=m') (e':=e') (L':=L') ?_ hr h2 h3 h4 h5
  unfold a1L at h1
  split at h1
  · rename_i h0;rw [h0];cases h1;rfl
  · cases h1
theorem aPE{is:List Nat}{b0 mj:Nat}{ej e3:SE}{Lj L3:List Ch}{st:Stop}(h:aP8 is b0 mj ej Lj st=some (e3,L3)):∃m' e' L',st=.fin m' e' L'∧U3 b0 m' e' L' is mj ej Lj=some (e3,L3):=by
  unfold aP8 at h
  split at h
  · exact⟨_,_,_,rfl,h⟩
  · cases h
theorem CJ{π υ α:Type}{eq:π→Prop}{mj:Nat}{ej:π→υ→SE}{Lj:π→υ→List Ch}{p:π}{q:α}{zz:Option α}(u:υ)(is:List Nat)(hz:(zz=some q)=eq p)(h:aP8 is B0.length mj (ej p u) (Lj p u) (kR T n K cf m e L)=some (ej p u,Lj p u)):W (G (.mk P T hT n c B0 (JP n c B0 eq mj ej Lj) X Q) K m e L cf) q zz:=fun hF=>by
  obtain⟨_,_,_,h1,h2⟩:=aPE h
  exact jn u is (hz ▸ hF) h1 h2
theorem b8{π α:Type}{eq:π→Prop}{mj:Nat}{ej:π→Unit→SE}{Lj:π→Unit→List Ch}{p:π}{q:α}{zz:Option α}(is:List Nat)(hz:(zz=some q)=eq p)(h:aP8 is B0.length mj (ej p ()) (Lj p ()) (kR T n K cf m e L)=some (ej p (),Lj p ())):W (G (.mk P T hT n c B0 (JP n c B0 eq mj ej Lj) X Q) K m e L cf) q zz:=CJ () is hz h
theorem nxW{σ ρ υ:Type}{o:Step σ ρ}{mj:Nat}{el:σ→υ→SE}{Ll:σ→υ→List Ch}{s:σ}(u:υ)(is:List Nat)(h:aP8 is B0.length mj (el s u) (Ll s u) (kR T n K cf m e L)=some (el s u,Ll s u)):W (G (.mk P T hT n c B0 (NxP n c B0 o mj el Ll) X Q) K m e L cf) o (some (Step.next s)):=fun hF=>by
  obtain⟨_,_,_,h1,h2⟩:=aPE h
  exact nx u is hF h1 h2
theorem vP{σ ρ:Type}{o:Step σ ρ}{mj:Nat}{el:σ→Unit→SE}{Ll:σ→Unit→List Ch}{s:σ}(is:List Nat)(h:aP8 is B0.length mj (el s ()) (Ll s ()) (kR T n K cf m e L)=some (el s (),Ll s ())):W (G (.mk P T hT n c B0 (NxP n c B0 o mj el Ll) X Q) K m e L cf) o (some (Step.next s)):=nxW () is h
def BkR(n:Nat)(c:Ctx)(B0:Bl){β ρ σ υ:Type}{o:Step σ ρ}{ro:ρ}(_:∀p,o=.stop p→p=ro)(enc:β→ρ)(m:Nat)(ej:β→υ→SE)(Lj:β→υ→List Ch)(id:Nat)(X:Nat→Act→World→Prop):Nat→Act→World→Prop:=BkP n c B0 ro enc m ej Lj id X
theorem bkW{σ ρ β υ:Type}{o:Step σ ρ}{ro:ρ}{enc:β→ρ}{mj id:Nat}{ej:β→υ→SE}{Lj:β→υ→List Ch}{b:β}{hr:∀p,o=.stop p→p=ro}(u:υ)(is:List Nat)(h:exQ is id B0.length mj (ej b u) (Lj b u) (kR T n K cf m e L)=some (ej b u,Lj b u)):W (G (.mk P T hT n c B0 N (BkR n c B0 hr enc mj ej Lj id X) Q) K m e L cf) o (some (Step.stop (enc b))):=fun hF=>by
  unfold exQ at h
  split at h
  · rename_i h0
    split at h
    · rename_i hb
      rw [Nat.eq_of_beq_eq_true hb] at h0
      exact bk u is hF hr h0 h
    · cases h
  · cases h
theorem mL{σ ρ β:Type}{o:Step σ ρ}{ro:ρ}{enc:β→ρ}{mj id:Nat}{ej:β→Unit→SE}{Lj:β→Unit→List Ch}{b:β}{hr:∀p,o=.stop p→p=ro}(is:List Nat)(h:exQ is id B0.length mj (ej b ()) (Lj b ()) (kR T n K cf m e L)=some (ej b (),Lj b ())):W (G (.mk P T hT n c B0 N (BkR n c B0 hr enc mj ej Lj id X) Q) K m e L cf) o (some (Step.stop (enc b))):=bkW () is h
theorem lK{σ ρ α:Type}{o:Step σ ρ}{p ro:ρ}{F:ρ→Option α}{q:α}{C:Prop}(hr:∀p,o=.stop p→p=ro)(hF:F ro=some q)(k:W C q (F p)):W C o (some (Step.stop p)):=fun h=>k (re h rfl hr hF)
noncomputable section
variable {b:Bool} {α:Type} {A B':Option α} {q:α}
theorem aV{o:Operand}{x y:Code}(ss:List Nat)(hs:kR T n K cf m e L=.cond o b x y K' m' e' L')(ho:bA (CR e') ss=some (ss.map fun _=>SV.b b))
    (k1:W (G (.mk P T hT n c B0 N X Q) K' m' (ovr true e' ss) L' (.c x)) q A) (k2:W (G (.mk P T hT n c B0 N X Q) K' m' (ovr false e' ss) L' (.c y)) q B'):W (G (.mk P T hT n c B0 N X Q) K m e L cf) q (if b=true then A else B'):=fun hF=>cs ss hs ho hF k1 k2
theorem aLK{o:Operand}{x y:Code}(ss:List Nat)(hs:kR T n K cf m e L=.cond o b x y K' m' e' L')(ho:bA (CR e') ss=some (ss.map fun _=>SV.b b))
    (k1:b=true→W (G (.mk P T hT n c B0 N X Q) K' m' (ovr true e' ss) L' (.c x)) q A) (k2:b=false→W (G (.mk P T hT n c B0 N X Q) K' m' (ovr false e' ss) L' (.c y)) q B'):W (G (.mk P T hT n c B0 N X Q) K m e L cf) q (if b=true then A else B'):=fun hF=>csK ss hs ho hF k1 k2
theorem dZ(ss:List Nat)(hs:kR T n K cf m e L=.case b cf' K' m' e' L')(ho:bA (CR e') ss=some (ss.map fun _=>SV.b b))
    (k1:W (G (.mk P T hT n c B0 N X Q) K' m' (ovr true e' ss) L' cf') q A) (k2:W (G (.mk P T hT n c B0 N X Q) K' m' (ovr false e' ss) L' cf') q B'):W (G (.mk P T hT n c B0 N X Q) K m e L cf) q (if b=true then A else B'):=fun hF=>ca ss hs ho hF k1 k2
theorem aLL(ss:List Nat)(hs:kR T n K cf m e L=.case b cf' K' m' e' L')(ho:bA (CR e') ss=some (ss.map fun _=>SV.b b))
    (k1:b=true→W (G (.mk P T hT n c B0 N X Q) K' m' (ovr true e' ss) L' cf') q A) (k2:b=false→W (G (.mk P T hT n c B0 N X Q) K' m' (ovr false e' ss) L' cf') q B'):W (G (.mk P T hT n c B0 N X Q) K m e L cf) q (if b=true then A else B'):=fun hF=>caK ss hs ho hF k1 k2
end
noncomputable section
variable {α β:Type} {fo:Option α} {kf:α→Option β} {q:β} {d:Nat} {f:FuncId} {xs:List SV}
theorem c0{sv:α→SV}(hs:kR T n K cf m e L=.call o (some d) f xs cf1 cf2 K' m' e' L')
    (hc:∀{w},HS c w L'→V0 P (cS w) f fo xs sv) (k:∀x,W (G (.mk P T hT n c B0 N X Q) K' m' ((d,sv x) :: e') L' cf2) q (kf x)):W (G (.mk P T hT n c B0 N X Q) K m e L cf) q (fo.bind kf):=fun hF=>cl0 hs (fun h _ hx=>hc h _ hx) hF fun x _ h=>k x h
theorem c1{ex:Type}{sv:α→ex→SV}{Lf:α→ex→List Ch}(hs:kR T n K cf m e L=.call o (some d) f xs cf1 cf2 K' m' e' L')
    (hc:∀{w},HS c w L'→VS P (cS w) f fo xs [] [] sv Lf) (k:∀x,∀y:ex,W (G (.mk P T hT n c B0 N X Q) K' m' ((d,sv x y) :: e') (L'++Lf x y) cf2) q (kf x)) (hn:∀x y,noF (Lf x y)=true:=by exact fun _ _=>rfl):W (G (.mk P T hT n c B0 N X Q) K m e L cf) q (fo.bind kf):=fun hF=>cl hs hn (fun h _ hx=>hc h _ hx) hF fun x _ h y=>k x y h
theorem jT{β:Type}{kf:α→Option β}{q:β}{iR:aK α}(C:K6 α){d t:Nat}{s:AC}{i:Int}{ls:List α}(hs:kR T n K cf m e L=.idx o d t s ls.length i Lv cf1 cf2 K' m' e' L')(h1:aT c s ls)(ht:ixT T t (aK.n α)=true)
    (k:∀x,∀y:C.ex,C.sub c.S0 c.w0 x y→W (G (.mk P T hT n c B0 N X Q) K' (m'+1) ((d,.p m' 0) :: e') (L' ++ [.ro m' (C.cs x y)]) (cf2.ext [.ro m' (C.cs x y)])) q (kf x)):W (G (.mk P T hT n c B0 N X Q) K m e L cf) q ((idx ls i).bind kf):=fun hF=>by
  unfold ixT at ht
  split at ht
  · rename_i h2
    split at ht
    · rename_i h3
      exact ix C hs h1 hF h2 h3 (Nat.eq_of_beq_eq_true ht) fun x _ h y hy=>k x y hy h
    · cases ht
  · cases ht
theorem SJ{β:Type}{kf:Int→Option β}{q:β}{d t:Nat}{s:AC}{i:Int}{ls:List Int}(hs:kR T n K cf m e L=.idx o d t s ls.length i Lv cf1 cf2 K' m' e' L')(h1:aT c s ls)(ht:ixT T t 1=true)
    (k:∀x,W (G (.mk P T hT n c B0 N X Q) K' (m'+1) ((d,.p m' 0) :: e') (L' ++ [.ro m' [.i .i64 x]]) (cf2.ext [.ro m' [.i .i64 x]])) q (kf x)):W (G (.mk P T hT n c B0 N X Q) K m e L cf) q ((idx ls i).bind kf):=jT cI hs h1 ht fun x _ _=>k x
theorem d9(hm:P.follows .mixedOrders=true){id:Nat}{ops:Array Oper}{zz:Option β}(is:List Nat)(hs:kR T n K cf m e L=.rgn id ops K' m' e' L')
    (k:∀{B1},W (G (.mk P T hT n c B0 N X Q) K' m' e' L' (.d B1 ops (List.replicate ops.size false) is (kl L' is) (kl L' is))) q zz) (hf:(aK1 ops && (okL m' (kl L' is) && (dI is && is.all fun j=>Nat.blt j L'.length)))=true:=by kernel_rfl):W (G (.mk P T hT n c B0 N X Q) K m e L cf) q zz:=fun hF=>dr is hs hm hf fun _=>k hF
theorem i4{π υ:Type}{zz:Option β}(j mj:Nat)(Fj:π→Option β)(ks:List Nat)(ej:π→υ→SE)(is:List Nat)(Lj:π→υ→List Ch)(hs:UB (kR T n K cf m e L)=some (K',cf',m',e',L'))
    (k1:W (G (.mk P T hT n c B0 (JP n c B0 (fun p=>Fj p=some q) mj (fun p u=>ej p u++kp e' ks) (fun p u=>Lj p u++kl L' is)) (XK (.mk P T hT n c B0 N X Q) (K'.drop j)) Q) (K'.take j) m' e' L' cf') q zz)
    (k2:∀p u,W (G (.mk P T hT n c B0 N X Q) (K'.drop j) mj (ej p u++kp e' ks) (Lj p u++kl L' is) .n) q (Fj p)):W (G (.mk P T hT n c B0 N X Q) K m e L cf) q zz:=fun hF=>cut j mj (fun p=>Fj p=some q) ks ej is Lj hs (k1 hF) fun p u h=>k2 p u h
theorem dA{zz:Option β}(j mj:Nat)(Fj:Bool→Option β)(ks:List Nat)(v:Nat)(is:List Nat)(hs:UB (kR T n K cf m e L)=some (K',cf',m',e',L'))
    (k1:W (G (.mk P T hT n c B0 (JP n c B0 (fun p=>Fj p=some q) mj (fun p (_:Unit)=>[(v,.b p)]++kp e' ks) (fun _ _=>[]++kl L' is)) (XK (.mk P T hT n c B0 N X Q) (K'.drop j)) Q) (K'.take j) m' e' L' cf') q zz)
    (k2:∀p,W (G (.mk P T hT n c B0 N X Q) (K'.drop j) mj ([(v,.b p)]++kp e' ks) ([]++kl L' is) .n) q (Fj p)):W (G (.mk P T hT n c B0 N X Q) K m e L cf) q zz:=i4 j mj Fj ks (fun p (_:Unit)=>[(v,.b p)]) is (fun _ _=>[]) hs k1 fun p _=>k2 p
theorem CK{σ ρ υ γ ω:Type}{id:Nat}{y:Code}{fb:σ→Option (Step σ ρ)}{s0:σ}{gk:ρ→Option β}(u0:υ)(ks:List Nat)(el:σ→υ→SE)(is0 is:List Nat)(Ll:σ→υ→List Ch)(enc:γ→ρ)(kb:List Nat)(ej:γ→ω→SE)(ib:List Nat)(Lj:γ→ω→List Ch)
    (hs:kR T n K cf m e L=.loop id y K' m' e' L')
    (h0:U3 B0.length m' e' L' is0 m' (el s0 u0++kp e' ks) (Ll s0 u0++kl L' is)=some (el s0 u0++kp e' ks,Ll s0 u0++kl L' is))
    (k1:∀{ro o},gk ro=some q→∀s u,(hr:∀p,o=.stop p→p=ro)→W (G (.mk P T hT n c B0 (NxP n c B0 o m' (fun s u=>el s u++kp e' ks) (fun s u=>Ll s u++kl L' is)) (BkR n c B0 hr enc m' (fun b u=>ej b u++kp e' kb) (fun b u=>Lj b u++kl L' ib) id (XK (.mk P T hT n c B0 N X Q) K')) Q) [] m' (el s u++kp e' ks) (Ll s u++kl L' is) (.c y)) o (fb s))
    (k2:∀b u,W (G (.mk P T hT n c B0 N X Q) K' m' (ej b u++kp e' kb) (Lj b u++kl L' ib) .n) q (gk (enc b))):W (G (.mk P T hT n c B0 N X Q) K m e L cf) q ((loop fb s0).bind gk):=fun hF=>
  lp u0 ks el is0 is Ll enc kb ej ib Lj hs hF h0 (fun ro h1 s u o h2 h3=>k1 h1 s u h3 h2) fun b u h=>k2 b u h
theorem FG{ρ:Type}{id:Nat}{y:Code}{fb:Int→Option (Step Int ρ)}{s0:Int}{gk:ρ→Option β}(v:Nat)(ks:List Nat)(is:List Nat)(enc:Unit→ρ)(kb:List Nat)(ib:List Nat)
    (hs:kR T n K cf m e L=.loop id y K' m' e' L')
    (h0:U3 B0.length m' e' L' is m' ([(v,.i .i64 s0)]++kp e' ks) ([]++kl L' is)=some ([(v,.i .i64 s0)]++kp e' ks,[]++kl L' is))
    (k1:∀{ro o},gk ro=some q→∀s,(hr:∀p,o=.stop p→p=ro)→W (G (.mk P T hT n c B0 (NxP n c B0 o m' (fun s (_:Unit)=>[(v,.i .i64 s)]++kp e' ks) (fun _ _=>[]++kl L' is)) (BkR n c B0 hr enc m' (fun _ (_:Unit)=>[]++kp e' kb) (fun _ _=>[]++kl L' ib) id (XK (.mk P T hT n c B0 N X Q) K')) Q) [] m' ([(v,.i .i64 s)]++kp e' ks) ([]++kl L' is) (.c y)) o (fb s))
    (k2:W (G (.mk P T hT n c B0 N X Q) K' m' ([]++kp e' kb) ([]++kl L' ib) .n) q (gk (enc ()))):W (G (.mk P T hT n c B0 N X Q) K m e L cf) q ((loop fb s0).bind gk):=
  CK () ks (fun s (_:Unit)=>[(v,.i .i64 s)]) is is (fun _ _=>[]) enc kb (fun _ (_:Unit)=>[]) ib (fun _ _=>[]) hs h0 (fun h s _ hr=>k1 h s hr) fun _ _=>k2
theorem i7{β:Type}{kf:α→Option β}{q:β}[aK α](E:CO α)(j:Nat){t:TypeId}{s:AC}{i:Int}{ls:List α}(hs:kR T n K cf m e L=.idx o d t s ls.length i Lv cf1 cf2 K' m' e' L')(hj:L'[j]?=some (ow s ls))(hz:fU j cf1.z8=true)
    (k:∀x,idx ls i=some x→∀y:E.ex,Shp s ls.length→W (G (.mk P T hT n c B0 N X Q) K' (m'+1) e' (L'.set j .no++([.o (vO (s.v ls.length) ls i.toNat),.box m' (E.cs x y),wOf α m' s ls.length i.toNat]++E.Lx x y)) (cf1.ext [wOf α m' s ls.length i.toNat])) q (kf x)):W (G (.mk P T hT n c B0 N X Q) K m e L cf) q ((idx ls i).bind kf):=fun hF=>oe E j hs hj hz hF fun x h1 h2 y h3=>k x h1 y h3 h2
end
noncomputable section
variable {α β ex:Type} {fo:Option α} {kf:α→Option β} {q:β} {d:Option Nat} {f:FuncId} {xs xs0:List SV} {M:List Ch} {sv:α→ex→SV} {Lr:α→ex→List Ch}
theorem gW(is:List Nat)
    (hs:cpS (kR T n K cf m e L)=some (o,d,f,xs,cf1,cf2,K',m',e',L')) (hi:bA (fun i=>L'[i]?) is=some M) (hx:bA (rnP [] 0) xs=some xs0)
    (hk:(QO M && (dI is && is.all fun j=>fU j cf1.z8))=true)
    (hc:∀{κ:Ctx},HG c κ L' is→VS P κ f fo xs0 [] M sv Lr)
    (k:∀x,∀y:ex,W (G (.mk P T hT n c B0 N X Q) K' m' (dse d (sv x y) e') (QN L' is++Lr x y) cf2) q (kf x)) (hn:∀x y,(QO (Lr x y) && HM 0 (sv x y))=true:=by exact fun _ _=>rfl):W (G (.mk P T hT n c B0 N X Q) K m e L cf) q (fo.bind kf):=fun hF=>
  cw0 is hs hi hx hk hn (fun h _ hx=>hc h _ hx) hF fun x _ h y=>k x y h
theorem fI{c1:List SV}{a1:α→ex→List SV}(i1 n1 o1 k1:Nat)(is:List Nat)
    (hs:cpS (kR T n K cf m e L)=some (o,d,f,xs,cf1,cf2,K',m',e',L')) (hb:aLD L' [(i1,n1,o1,k1)]=some [c1]) (hi:bA (fun i=>L'[i]?) is=some M) (hx:bA (rnP [(i1,n1,o1,k1)] 0) xs=some xs0)
    (hk:(QO M && ([c1].all (HM.okC 0) && (dI (i1 :: is) && (i1 :: is).all fun j=>fU j cf1.z8)))=true)
    (hc:∀{κ:Ctx},HG c κ L' (i1 :: is)→∀{b1:Nat×Nat},VS P κ f fo xs0 [b1] (.box 0 c1 :: M) sv (fun x y=>.box 0 (a1 x y) :: Lr x y))
    (k:∀x,∀y:ex,W (G (.mk P T hT n c B0 N X Q) K' m' (dse d (sv x y) e') (NX L' (QN L' (i1 :: is)++Lr x y) [(i1,n1,o1,k1)] [a1 x y]) cf2) q (kf x)) (hn:∀x y,(aCR [(i1,n1,o1,k1)] [a1 x y] && ([a1 x y].all (HM.okC 0) && (QO (Lr x y) && HM 0 (sv x y))))=true:=by exact fun _ _=>rfl):W (G (.mk P T hT n c B0 N X Q) K m e L cf) q (fo.bind kf):=fun hF=>
  cw1 i1 n1 o1 k1 is hs hb hi hx hk hn (fun h _ _ hx=>hc h _ hx) hF fun x _ h y=>k x y h
theorem ZA{c1 c2:List SV}{a1 a2:α→ex→List SV}(i1 n1 o1 k1:Nat)(i2 n2 o2 k2:Nat)(is:List Nat)
    (hs:cpS (kR T n K cf m e L)=some (o,d,f,xs,cf1,cf2,K',m',e',L')) (hb:aLD L' [(i1,n1,o1,k1),(i2,n2,o2,k2)]=some [c1,c2]) (hi:bA (fun i=>L'[i]?) is=some M) (hx:bA (rnP [(i1,n1,o1,k1),(i2,n2,o2,k2)] 0) xs=some xs0)
    (hk:(QO M && ([c1,c2].all (HM.okC 0) && (dI (i1 :: i2 :: is) && (i1 :: i2 :: is).all fun j=>fU j cf1.z8)))=true)
    (hc:∀{κ:Ctx},HG c κ L' (i1 :: i2 :: is)→∀{b1 b2:Nat×Nat},VS P κ f fo xs0 [b1,b2] (.box 0 c1 :: .box 1 c2 :: M) sv (fun x y=>.box 0 (a1 x y) :: .box 1 (a2 x y) :: Lr x y))
    (k:∀x,∀y:ex,W (G (.mk P T hT n c B0 N X Q) K' m' (dse d (sv x y) e') (NX L' (QN L' (i1 :: i2 :: is)++Lr x y) [(i1,n1,o1,k1),(i2,n2,o2,k2)] [a1 x y,a2 x y]) cf2) q (kf x)) (hn:∀x y,(aCR [(i1,n1,o1,k1),(i2,n2,o2,k2)] [a1 x y,a2 x y] && ([a1 x y,a2 x y].all (HM.okC 0) && (QO (Lr x y) && HM 0 (sv x y))))=true:=by exact fun _ _=>rfl):W (G (.mk P T hT n c B0 N X Q) K m e L cf) q (fo.bind kf):=fun hF=>
  cw2 i1 n1 o1 k1 i2 n2 o2 k2 is hs hb hi hx hk hn (fun h _ _ _ hx=>hc h _ hx) hF fun x _ h y=>k x y h
end
theorem aFX{α β:Type}{iR:aK α}{C:K6 α}{sr:β→SV}{g:FuncId}{w:World}{p:α→Option β}(hc:∀args w,(callFunc g args).run P w=.ok (.enter g args) w)(hn:∀{κ:Ctx} {x y},C.sub κ.S0 κ.w0 x y→V0 P κ g (p x) [C.sv x y] sr):Fu1 P (cS w) C sr g [] p:=fu1 hc (by intro κ x y h q hq;exact hn h _ hq)
theorem aNB{α β:Type}{iR:aK α}{C:K6 α}{sr:β→SV}{g:FuncId}{w:World}{Bs:Bl}{cs:List (Nat×List SV)}{p:α→Option β}(hc:∀args w,(callFunc g args).run P w=.ok (.enter g args) w)(hB:∀w1,fL F0 w w1→mF (cS w1) w1 Bs (roL 0 cs))(hl:bA (fS Bs) (aTE 0 cs)=some (aCQ Bs))(hn:∀{w1 x y},fL F0 w w1→C.sub (O3 w1) w1 x y→VS P (cS w1) g (p x) (C.sv x y :: aTE 0 cs) Bs (roL 0 cs) (fun r (_:Unit)=>sr r) (fun _ _=>[]))(hz:∀q,HM 0 (sr q)=true:=by exact fun _=>rfl):Fu1 P (cS w) C sr g (aCQ Bs) p:=fk1 hc hB hl hz (by intro w1 x y h h' q hq;exact hn h h' _ hq)
noncomputable section
variable {α β:Type} {fo:Option α} {kf:α→Option β} {q:β} {d:Nat} {f g:FuncId} {xs:List SV} {sv:α→SV}
theorem aNC{n1:Nat}{c1:List SV}(is:List Nat)(hs:kR T n K cf m e L=.callp o (some d) f xs cf1 cf2 K' m' e' L')(hk:kl L' is=[.ro n1 c1])(ho:(aK8 [(n1,c1)] && okA xs.dropLast)=true)(hx:xs=xs.dropLast ++ [.f g [n1]])
    (hc:∀{w},HS c w L'→∀{b1:Nat×Nat},(∀w1,fL F0 w w1→mF (cS w1) w1 [b1] [.ro 0 c1])→V0 P (cS w) f fo (xs.dropLast ++ [.k (.func (.func g) #[] (aCQ [b1]).toArray)]) sv)
    (k:∀x,W (G (.mk P T hT n c B0 N X Q) K' m' ((d,sv x) :: e') L' cf2) q (kf x)):W (G (.mk P T hT n c B0 N X Q) K m e L cf) q (fo.bind kf):=fun hF=>
  a2D is hs hk ho hx (fun h _ h2 _ hx=>hc h h2 _ hx) hF fun x _ h=>k x h
end
end
end Go.Gv
end
noncomputable section
namespace Go.Gv
structure aG where
  Bytes:List Int
  Class:List Int
  deriving DecidableEq,Inhabited
instance:aK aG:=aK.via (fun d=>(d.Bytes,d.Class))
instance:Fits aG:=Fits.via (fun d=>(d.Bytes,d.Class))
theorem aWY{S:cK}{w:World}{cs:List Value}{d:aG}(h:aK.rd S w cs d):∃v0 v1:Value,cs=[v0,v1]∧aK.rd S w [v0] d.Bytes∧aK.rd S w [v1] d.Class:=by
  obtain⟨c0,r0,e0,h0,n0⟩:=h
  obtain⟨u0,q0⟩:=fT h0
  rw [q0] at h0
  obtain⟨u1,q1⟩:=fT n0
  rw [q1] at n0
  exact⟨u0,u1,by rw [e0,q0,q1];rfl,h0,n0⟩
structure aH where
  aL:List Int
  deriving DecidableEq,Inhabited
instance:aK aH:=aK.via (fun d=>(d.aL))
instance:Fits aH:=Fits.via (fun d=>(d.aL))
theorem aLM{S:cK}{w:World}{cs:List Value}{d:aH}(h:aK.rd S w cs d):∃v0:Value,cs=[v0]∧aK.rd S w [v0] d.aL:=by
  obtain⟨u0,q0⟩:=fT h
  rw [q0] at h
  exact⟨u0,q0,h⟩
theorem aLN(d:aH){v0:Value}:OP [v0] d [dB [v0] d.aL]:=(show OP (α:=(List Int)) _ (d.aL) _ from aMR)
theorem _root_.Go.Gv.St.aTX{c:Ctx}{L:List Chunk}{R:List Fact}{w:World}{s:Value}{l:List aH}{i:Nat}{x:aH}(h:St c w L R)(j:Nat)(hj:R[j]?=some (z6 [s] l))(hi:l[i]?=some x):∃v0:Value,bX w (QG s) (QA 1 i s) [v0]∧St c w L (R ++ [z6 [v0] x.aL]):=by
  obtain⟨S,hS,hk⟩:=h.aRS hj
  obtain⟨ec,h1,h2⟩:=aKS hS hi
  obtain⟨v0,q,q0⟩:=aLM h2
  rw [q] at h1
  exact⟨v0,h1,hk _ (by intro f hf;simp only [List.mem_cons,List.not_mem_nil,or_false] at hf;subst hf;exact q0)⟩
structure aA where
  Global:List aH
  bQ:List aH
  deriving DecidableEq,Inhabited
instance:aK aA:=aK.via (fun d=>(d.Global,d.bQ))
instance:Fits aA:=Fits.via (fun d=>(d.Global,d.bQ))
theorem aTY{S:cK}{w:World}{cs:List Value}{d:aA}(h:aK.rd S w cs d):∃v0 v1:Value,cs=[v0,v1]∧aK.rd S w [v0] d.Global∧aK.rd S w [v1] d.bQ:=by
  obtain⟨c0,r0,e0,h0,n0⟩:=h
  obtain⟨u0,q0⟩:=fT h0
  rw [q0] at h0
  obtain⟨u1,q1⟩:=fT n0
  rw [q1] at n0
  exact⟨u0,u1,by rw [e0,q0,q1];rfl,h0,n0⟩
structure Mem where
  aG:aG
  aA:aA
  deriving DecidableEq,Inhabited
instance:aK Mem:=aK.via (fun d=>(d.aG,d.aA))
instance:Fits Mem:=Fits.via (fun d=>(d.aG,d.aA))
theorem aZO{S:cK}{w:World}{cs:List Value}{d:Mem}(h:aK.rd S w cs d):∃v0 v1 v2 v3:Value,cs=[v0,v1,v2,v3]∧aK.rd S w [v0] d.aG.Bytes∧aK.rd S w [v1] d.aG.Class∧aK.rd S w [v2] d.aA.Global∧aK.rd S w [v3] d.aA.bQ:=by
  obtain⟨c0,r0,e0,h0,n0⟩:=h
  obtain⟨u0_0,u0_1,q0,hq0_0,hq0_1⟩:=aWY h0
  obtain⟨u1_0,u1_1,q1,hq1_0,hq1_1⟩:=aTY n0
  exact⟨u0_0,u0_1,u1_0,u1_1,by rw [e0,q0,q1];rfl,hq0_0,hq0_1,hq1_0,hq1_1⟩
structure fO where
  On:Bool
  aM:Int
  eI:Bool
  Seen:Int
  deriving DecidableEq,Inhabited
instance:aK fO:=aK.via (fun d=>(d.On,d.aM,d.eI,d.Seen))
instance:Fits fO:=Fits.via (fun d=>(d.On,d.aM,d.eI,d.Seen))
theorem aZP{S:cK}{w:World}{cs:List Value}{d:fO}(h:aK.rd S w cs d):cs=[.bool (d.On),.int .i64 (d.aM),.bool (d.eI),.int .i64 (d.Seen)]:=by
  obtain⟨c0,r0,e0,h0,n0⟩:=h
  have q0:c0=[_]:=h0
  obtain⟨c1,r1,e1,h1,n1⟩:=n0
  have q1:c1=[_]:=h1
  obtain⟨c2,r2,e2,h2,n2⟩:=n1
  have q2:c2=[_]:=h2
  have q3:r2=[_]:=n2
  exact by rw [e0,e1,e2,q0,q1,q2,q3];rfl
theorem aZQ{S:cK}{w:World}(d:fO):aK.rd S w [.bool (d.On),.int .i64 (d.aM),.bool (d.eI),.int .i64 (d.Seen)] d:=⟨[.bool (d.On)],[.int .i64 (d.aM),.bool (d.eI),.int .i64 (d.Seen)],rfl,rfl,⟨[.int .i64 (d.aM)],[.bool (d.eI),.int .i64 (d.Seen)],rfl,rfl,⟨[.bool (d.eI)],[.int .i64 (d.Seen)],rfl,rfl,rfl⟩⟩⟩
instance:Flat fO:=⟨fun h=>Flat.own_of (α:=Bool×Int×Bool×Int) h,fun h=>Flat.no (α:=Bool×Int×Bool×Int) h⟩
theorem aZR(d:fO):OP [.bool (d.On),.int .i64 (d.aM),.bool (d.eI),.int .i64 (d.Seen)] d []:=(show OP (α:=Bool×Int×Bool×Int) _ (d.On,d.aM,d.eI,d.Seen) _ from (jB (c1:=[.bool (d.On)]) (c2:=[.int .i64 (d.aM),.bool (d.eI),.int .i64 (d.Seen)]) (A:=[]) (B:=[]) (fM rfl) (jB (c1:=[.int .i64 (d.aM)]) (c2:=[.bool (d.eI),.int .i64 (d.Seen)]) (A:=[]) (B:=[]) (fM rfl) (jB (c1:=[.bool (d.eI)]) (c2:=[.int .i64 (d.Seen)]) (A:=[]) (B:=[]) (fM rfl) (fM rfl) rfl) rfl) rfl))
structure aJ where
  aM:Int
  bD:List fO
  deriving DecidableEq,Inhabited
instance:aK aJ:=aK.via (fun d=>(d.aM,d.bD))
instance:Fits aJ:=Fits.via (fun d=>(d.aM,d.bD))
theorem aTZ{S:cK}{w:World}{cs:List Value}{d:aJ}(h:aK.rd S w cs d):∃v0:Value,cs=[.int .i64 (d.aM),v0]∧aK.rd S w [v0] d.bD:=by
  obtain⟨c0,r0,e0,h0,n0⟩:=h
  have q0:c0=[_]:=h0
  obtain⟨u1,q1⟩:=fT n0
  rw [q1] at n0
  exact⟨u1,by rw [e0,q0,q1];rfl,n0⟩
structure bM where
  Handle:Int
  aM:Int
  deriving DecidableEq,Inhabited
instance:aK bM:=aK.via (fun d=>(d.Handle,d.aM))
instance:Fits bM:=Fits.via (fun d=>(d.Handle,d.aM))
theorem aPF{S:cK}{w:World}{cs:List Value}{d:bM}(h:aK.rd S w cs d):cs=[.int .i64 (d.Handle),.int .i64 (d.aM)]:=by
  obtain⟨c0,r0,e0,h0,n0⟩:=h
  have q0:c0=[_]:=h0
  have q1:r0=[_]:=n0
  exact by rw [e0,q0,q1];rfl
theorem aPG{S:cK}{w:World}(d:bM):aK.rd S w [.int .i64 (d.Handle),.int .i64 (d.aM)] d:=⟨[.int .i64 (d.Handle)],[.int .i64 (d.aM)],rfl,rfl,rfl⟩
instance:Flat bM:=⟨fun h=>Flat.own_of (α:=Int×Int) h,fun h=>Flat.no (α:=Int×Int) h⟩
theorem aWZ(d:bM):OP [.int .i64 (d.Handle),.int .i64 (d.aM)] d []:=(show OP (α:=Int×Int) _ (d.Handle,d.aM) _ from (jB (c1:=[.int .i64 (d.Handle)]) (c2:=[.int .i64 (d.aM)]) (A:=[]) (B:=[]) (fM rfl) (fM rfl) rfl))
theorem aW0{S:cK}{w:World}{s:Value}{l:List bM}{i:Nat}{x:bM}(h:aK.rd S w [s] l)(hi:l[i]?=some x):bX w (QG s) (QA 2 i s) [.int .i64 (x.Handle),.int .i64 (x.aM)]:=by
  obtain⟨ec,h1,h2⟩:=aKS h hi
  rw [aPF h2] at h1;exact h1
structure aO where
  Rows:List bM
  deriving DecidableEq,Inhabited
instance:aK aO:=aK.via (fun d=>(d.Rows))
instance:Fits aO:=Fits.via (fun d=>(d.Rows))
theorem aLO{S:cK}{w:World}{cs:List Value}{d:aO}(h:aK.rd S w cs d):∃v0:Value,cs=[v0]∧aK.rd S w [v0] d.Rows:=by
  obtain⟨u0,q0⟩:=fT h
  rw [q0] at h
  exact⟨u0,q0,h⟩
theorem aLP(d:aO){v0:Value}:OP [v0] d [dB [v0] d.Rows]:=(show OP (α:=(List bM)) _ (d.Rows) _ from aMR)
theorem _root_.Go.Gv.St.aLQ{c:Ctx}{L:List Chunk}{R:List Fact}{w:World}{s:Value}{l:List aO}{i:Nat}{x:aO}(h:St c w L R)(j:Nat)(hj:R[j]?=some (z6 [s] l))(hi:l[i]?=some x):∃v0:Value,bX w (QG s) (QA 1 i s) [v0]∧St c w L (R ++ [z6 [v0] x.Rows]):=by
  obtain⟨S,hS,hk⟩:=h.aRS hj
  obtain⟨ec,h1,h2⟩:=aKS hS hi
  obtain⟨v0,q,q0⟩:=aLO h2
  rw [q] at h1
  exact⟨v0,h1,hk _ (by intro f hf;simp only [List.mem_cons,List.not_mem_nil,or_false] at hf;subst hf;exact q0)⟩
structure aD where
  Mem:Mem
  aJ:aJ
  aX:List aO
  jQ:List Int
  deriving DecidableEq,Inhabited
instance:aK aD:=aK.via (fun d=>(d.Mem,d.aJ,d.aX,d.jQ))
instance:Fits aD:=Fits.via (fun d=>(d.Mem,d.aJ,d.aX,d.jQ))
theorem aW1{S:cK}{w:World}{cs:List Value}{d:aD}(h:aK.rd S w cs d):∃v0 v1 v2 v3 v4 v5 v6:Value,cs=[v0,v1,v2,v3,.int .i64 (d.aJ.aM),v4,v5,v6]∧aK.rd S w [v0] d.Mem.aG.Bytes∧aK.rd S w [v1] d.Mem.aG.Class∧aK.rd S w [v2] d.Mem.aA.Global∧aK.rd S w [v3] d.Mem.aA.bQ∧aK.rd S w [v4] d.aJ.bD∧aK.rd S w [v5] d.aX∧aK.rd S w [v6] d.jQ:=by
  obtain⟨c0,r0,e0,h0,n0⟩:=h
  obtain⟨u0_0,u0_1,u0_2,u0_3,q0,hq0_0,hq0_1,hq0_2,hq0_3⟩:=aZO h0
  obtain⟨c1,r1,e1,h1,n1⟩:=n0
  obtain⟨u1_0,q1,hq1_0⟩:=aTZ h1
  obtain⟨c2,r2,e2,h2,n2⟩:=n1
  obtain⟨u2,q2⟩:=fT h2
  rw [q2] at h2
  obtain⟨u3,q3⟩:=fT n2
  rw [q3] at n2
  exact⟨u0_0,u0_1,u0_2,u0_3,u1_0,u2,u3,by rw [e0,e1,e2,q0,q1,q2,q3];rfl,hq0_0,hq0_1,hq0_2,hq0_3,hq1_0,h2,n2⟩
structure dP where
  Kind:Int
  Cell:Int
  dQ:Int
  dN:Int
  deriving DecidableEq,Inhabited
instance:aK dP:=aK.via (fun d=>(d.Kind,d.Cell,d.dQ,d.dN))
instance:Fits dP:=Fits.via (fun d=>(d.Kind,d.Cell,d.dQ,d.dN))
theorem aT0{S:cK}{w:World}{cs:List Value}{d:dP}(h:aK.rd S w cs d):cs=[.int .i64 (d.Kind),.int .i64 (d.Cell),.int .i64 (d.dQ),.int .i64 (d.dN)]:=by
  obtain⟨c0,r0,e0,h0,n0⟩:=h
  have q0:c0=[_]:=h0
  obtain⟨c1,r1,e1,h1,n1⟩:=n0
  have q1:c1=[_]:=h1
  obtain⟨c2,r2,e2,h2,n2⟩:=n1
  have q2:c2=[_]:=h2
  have q3:r2=[_]:=n2
  exact by rw [e0,e1,e2,q0,q1,q2,q3];rfl
theorem aCW{S:cK}{w:World}(d:dP):aK.rd S w [.int .i64 (d.Kind),.int .i64 (d.Cell),.int .i64 (d.dQ),.int .i64 (d.dN)] d:=⟨[.int .i64 (d.Kind)],[.int .i64 (d.Cell),.int .i64 (d.dQ),.int .i64 (d.dN)],rfl,rfl,⟨[.int .i64 (d.Cell)],[.int .i64 (d.dQ),.int .i64 (d.dN)],rfl,rfl,⟨[.int .i64 (d.dQ)],[.int .i64 (d.dN)],rfl,rfl,rfl⟩⟩⟩
instance:Flat dP:=⟨fun h=>Flat.own_of (α:=Int×Int×Int×Int) h,fun h=>Flat.no (α:=Int×Int×Int×Int) h⟩
theorem aZS(d:dP):OP [.int .i64 (d.Kind),.int .i64 (d.Cell),.int .i64 (d.dQ),.int .i64 (d.dN)] d []:=(show OP (α:=Int×Int×Int×Int) _ (d.Kind,d.Cell,d.dQ,d.dN) _ from (jB (c1:=[.int .i64 (d.Kind)]) (c2:=[.int .i64 (d.Cell),.int .i64 (d.dQ),.int .i64 (d.dN)]) (A:=[]) (B:=[]) (fM rfl) (jB (c1:=[.int .i64 (d.Cell)]) (c2:=[.int .i64 (d.dQ),.int .i64 (d.dN)]) (A:=[]) (B:=[]) (fM rfl) (jB (c1:=[.int .i64 (d.dQ)]) (c2:=[.int .i64 (d.dN)]) (A:=[]) (B:=[]) (fM rfl) (fM rfl) rfl) rfl) rfl))
structure Sub where
  Kind:Int
  A:Int
  Pc:Int
  E:Int
  Row:Int
  B:Int
  H:Int
  Out:Int
  Code:Int
  cJ:Bool
  deriving DecidableEq,Inhabited
instance:aK Sub:=aK.via (fun d=>(d.Kind,d.A,d.Pc,d.E,d.Row,d.B,d.H,d.Out,d.Code,d.cJ))
instance:Fits Sub:=Fits.via (fun d=>(d.Kind,d.A,d.Pc,d.E,d.Row,d.B,d.H,d.Out,d.Code,d.cJ))
theorem aZT{S:cK}{w:World}{cs:List Value}{d:Sub}(h:aK.rd S w cs d):cs=[.int .i64 (d.Kind),.int .i64 (d.A),.int .i64 (d.Pc),.int .i64 (d.E),.int .i64 (d.Row),.int .i64 (d.B),.int .i64 (d.H),.int .i64 (d.Out),.int .i64 (d.Code),.bool (d.cJ)]:=by
  obtain⟨c0,r0,e0,h0,n0⟩:=h
  have q0:c0=[_]:=h0
  obtain⟨c1,r1,e1,h1,n1⟩:=n0
  have q1:c1=[_]:=h1
  obtain⟨c2,r2,e2,h2,n2⟩:=n1
  have q2:c2=[_]:=h2
  obtain⟨c3,r3,e3,h3,n3⟩:=n2
  have q3:c3=[_]:=h3
  obtain⟨c4,r4,e4,h4,n4⟩:=n3
  have q4:c4=[_]:=h4
  obtain⟨c5,r5,e5,h5,n5⟩:=n4
  have q5:c5=[_]:=h5
  obtain⟨c6,r6,e6,h6,n6⟩:=n5
  have q6:c6=[_]:=h6
  obtain⟨c7,r7,e7,h7,n7⟩:=n6
  have q7:c7=[_]:=h7
  obtain⟨c8,r8,e8,h8,n8⟩:=n7
  have q8:c8=[_]:=h8
  have q9:r8=[_]:=n8
  exact by rw [e0,e1,e2,e3,e4,e5,e6,e7,e8,q0,q1,q2,q3,q4,q5,q6,q7,q8,q9];rfl
theorem aT1{S:cK}{w:World}(d:Sub):aK.rd S w [.int .i64 (d.Kind),.int .i64 (d.A),.int .i64 (d.Pc),.int .i64 (d.E),.int .i64 (d.Row),.int .i64 (d.B),.int .i64 (d.H),.int .i64 (d.Out),.int .i64 (d.Code),.bool (d.cJ)] d:=⟨[.int .i64 (d.Kind)],[.int .i64 (d.A),.int .i64 (d.Pc),.int .i64 (d.E),.int .i64 (d.Row),.int .i64 (d.B),.int .i64 (d.H),.int .i64 (d.Out),.int .i64 (d.Code),.bool (d.cJ)],rfl,rfl,⟨[.int .i64 (d.A)],[.int .i64 (d.Pc),.int .i64 (d.E),.int .i64 (d.Row),.int .i64 (d.B),.int .i64 (d.H),.int .i64 (d.Out),.int .i64 (d.Code),.bool (d.cJ)],rfl,rfl,⟨[.int .i64 (d.Pc)],[.int .i64 (d.E),.int .i64 (d.Row),.int .i64 (d.B),.int .i64 (d.H),.int .i64 (d.Out),.int .i64 (d.Code),.bool (d.cJ)],rfl,rfl,⟨[.int .i64 (d.E)],[.int .i64 (d.Row),.int .i64 (d.B),.int .i64 (d.H),.int .i64 (d.Out),.int .i64 (d.Code),.bool (d.cJ)],rfl,rfl,⟨[.int .i64 (d.Row)],[.int .i64 (d.B),.int .i64 (d.H),.int .i64 (d.Out),.int .i64 (d.Code),.bool (d.cJ)],rfl,rfl,⟨[.int .i64 (d.B)],[.int .i64 (d.H),.int .i64 (d.Out),.int .i64 (d.Code),.bool (d.cJ)],rfl,rfl,⟨[.int .i64 (d.H)],[.int .i64 (d.Out),.int .i64 (d.Code),.bool (d.cJ)],rfl,rfl,⟨[.int .i64 (d.Out)],[.int .i64 (d.Code),.bool (d.cJ)],rfl,rfl,⟨[.int .i64 (d.Code)],[.bool (d.cJ)],rfl,rfl,rfl⟩⟩⟩⟩⟩⟩⟩⟩⟩
instance:Flat Sub:=⟨fun h=>Flat.own_of (α:=Int×Int×Int×Int×Int×Int×Int×Int×Int×Bool) h,fun h=>Flat.no (α:=Int×Int×Int×Int×Int×Int×Int×Int×Int×Bool) h⟩
structure bW where
  fP:Bool
  Op:dP
  aR:Int
  Pc:Int
  Sub:Sub
  H:Int
  Old:Int
  dN:Int
  Code:Int
  deriving DecidableEq,Inhabited
instance:aK bW:=aK.via (fun d=>(d.fP,d.Op,d.aR,d.Pc,d.Sub,d.H,d.Old,d.dN,d.Code))
instance:Fits bW:=Fits.via (fun d=>(d.fP,d.Op,d.aR,d.Pc,d.Sub,d.H,d.Old,d.dN,d.Code))
theorem aZU{S:cK}{w:World}{cs:List Value}{d:bW}(h:aK.rd S w cs d):cs=[.bool (d.fP),.int .i64 (d.Op.Kind),.int .i64 (d.Op.Cell),.int .i64 (d.Op.dQ),.int .i64 (d.Op.dN),.int .i64 (d.aR),.int .i64 (d.Pc),.int .i64 (d.Sub.Kind),.int .i64 (d.Sub.A),.int .i64 (d.Sub.Pc),.int .i64 (d.Sub.E),.int .i64 (d.Sub.Row),.int .i64 (d.Sub.B),.int .i64 (d.Sub.H),.int .i64 (d.Sub.Out),.int .i64 (d.Sub.Code),.bool (d.Sub.cJ),.int .i64 (d.H),.int .i64 (d.Old),.int .i64 (d.dN),.int .i64 (d.Code)]:=by
  obtain⟨c0,r0,e0,h0,n0⟩:=h
  have q0:c0=[_]:=h0
  obtain⟨c1,r1,e1,h1,n1⟩:=n0
  have q1:=aT0 h1
  obtain⟨c2,r2,e2,h2,n2⟩:=n1
  have q2:c2=[_]:=h2
  obtain⟨c3,r3,e3,h3,n3⟩:=n2
  have q3:c3=[_]:=h3
  obtain⟨c4,r4,e4,h4,n4⟩:=n3
  have q4:=aZT h4
  obtain⟨c5,r5,e5,h5,n5⟩:=n4
  have q5:c5=[_]:=h5
  obtain⟨c6,r6,e6,h6,n6⟩:=n5
  have q6:c6=[_]:=h6
  obtain⟨c7,r7,e7,h7,n7⟩:=n6
  have q7:c7=[_]:=h7
  have q8:r7=[_]:=n7
  exact by rw [e0,e1,e2,e3,e4,e5,e6,e7,q0,q1,q2,q3,q4,q5,q6,q7,q8];rfl
theorem aZV{S:cK}{w:World}(d:bW):aK.rd S w [.bool (d.fP),.int .i64 (d.Op.Kind),.int .i64 (d.Op.Cell),.int .i64 (d.Op.dQ),.int .i64 (d.Op.dN),.int .i64 (d.aR),.int .i64 (d.Pc),.int .i64 (d.Sub.Kind),.int .i64 (d.Sub.A),.int .i64 (d.Sub.Pc),.int .i64 (d.Sub.E),.int .i64 (d.Sub.Row),.int .i64 (d.Sub.B),.int .i64 (d.Sub.H),.int .i64 (d.Sub.Out),.int .i64 (d.Sub.Code),.bool (d.Sub.cJ),.int .i64 (d.H),.int .i64 (d.Old),.int .i64 (d.dN),.int .i64 (d.Code)] d:=⟨[.bool (d.fP)],[.int .i64 (d.Op.Kind),.int .i64 (d.Op.Cell),.int .i64 (d.Op.dQ),.int .i64 (d.Op.dN),.int .i64 (d.aR),.int .i64 (d.Pc),.int .i64 (d.Sub.Kind),.int .i64 (d.Sub.A),.int .i64 (d.Sub.Pc),.int .i64 (d.Sub.E),.int .i64 (d.Sub.Row),.int .i64 (d.Sub.B),.int .i64 (d.Sub.H),.int .i64 (d.Sub.Out),.int .i64 (d.Sub.Code),.bool (d.Sub.cJ),.int .i64 (d.H),.int .i64 (d.Old),.int .i64 (d.dN),.int .i64 (d.Code)],rfl,rfl,⟨[.int .i64 (d.Op.Kind),.int .i64 (d.Op.Cell),.int .i64 (d.Op.dQ),.int .i64 (d.Op.dN)],[.int .i64 (d.aR),.int .i64 (d.Pc),.int .i64 (d.Sub.Kind),.int .i64 (d.Sub.A),.int .i64 (d.Sub.Pc),.int .i64 (d.Sub.E),.int .i64 (d.Sub.Row),.int .i64 (d.Sub.B),.int .i64 (d.Sub.H),.int .i64 (d.Sub.Out),.int .i64 (d.Sub.Code),.bool (d.Sub.cJ),.int .i64 (d.H),.int .i64 (d.Old),.int .i64 (d.dN),.int .i64 (d.Code)],rfl,(aCW _),⟨[.int .i64 (d.aR)],[.int .i64 (d.Pc),.int .i64 (d.Sub.Kind),.int .i64 (d.Sub.A),.int .i64 (d.Sub.Pc),.int .i64 (d.Sub.E),.int .i64 (d.Sub.Row),.int .i64 (d.Sub.B),.int .i64 (d.Sub.H),.int .i64 (d.Sub.Out),.int .i64 (d.Sub.Code),.bool (d.Sub.cJ),.int .i64 (d.H),.int .i64 (d.Old),.int .i64 (d.dN),.int .i64 (d.Code)],rfl,rfl,⟨[.int .i64 (d.Pc)],[.int .i64 (d.Sub.Kind),.int .i64 (d.Sub.A),.int .i64 (d.Sub.Pc),.int .i64 (d.Sub.E),.int .i64 (d.Sub.Row),.int .i64 (d.Sub.B),.int .i64 (d.Sub.H),.int .i64 (d.Sub.Out),.int .i64 (d.Sub.Code),.bool (d.Sub.cJ),.int .i64 (d.H),.int .i64 (d.Old),.int .i64 (d.dN),.int .i64 (d.Code)],rfl,rfl,⟨[.int .i64 (d.Sub.Kind),.int .i64 (d.Sub.A),.int .i64 (d.Sub.Pc),.int .i64 (d.Sub.E),.int .i64 (d.Sub.Row),.int .i64 (d.Sub.B),.int .i64 (d.Sub.H),.int .i64 (d.Sub.Out),.int .i64 (d.Sub.Code),.bool (d.Sub.cJ)],[.int .i64 (d.H),.int .i64 (d.Old),.int .i64 (d.dN),.int .i64 (d.Code)],rfl,(aT1 _),⟨[.int .i64 (d.H)],[.int .i64 (d.Old),.int .i64 (d.dN),.int .i64 (d.Code)],rfl,rfl,⟨[.int .i64 (d.Old)],[.int .i64 (d.dN),.int .i64 (d.Code)],rfl,rfl,⟨[.int .i64 (d.dN)],[.int .i64 (d.Code)],rfl,rfl,rfl⟩⟩⟩⟩⟩⟩⟩⟩
instance:Flat bW:=⟨fun h=>Flat.own_of (α:=Bool×dP×Int×Int×Sub×Int×Int×Int×Int) h,fun h=>Flat.no (α:=Bool×dP×Int×Int×Sub×Int×Int×Int×Int) h⟩
theorem aZW(d:bW):OP [.bool (d.fP),.int .i64 (d.Op.Kind),.int .i64 (d.Op.Cell),.int .i64 (d.Op.dQ),.int .i64 (d.Op.dN),.int .i64 (d.aR),.int .i64 (d.Pc),.int .i64 (d.Sub.Kind),.int .i64 (d.Sub.A),.int .i64 (d.Sub.Pc),.int .i64 (d.Sub.E),.int .i64 (d.Sub.Row),.int .i64 (d.Sub.B),.int .i64 (d.Sub.H),.int .i64 (d.Sub.Out),.int .i64 (d.Sub.Code),.bool (d.Sub.cJ),.int .i64 (d.H),.int .i64 (d.Old),.int .i64 (d.dN),.int .i64 (d.Code)] d []:=(show OP (α:=Bool×dP×Int×Int×Sub×Int×Int×Int×Int) _ (d.fP,d.Op,d.aR,d.Pc,d.Sub,d.H,d.Old,d.dN,d.Code) _ from (jB (c1:=[.bool (d.fP)]) (c2:=[.int .i64 (d.Op.Kind),.int .i64 (d.Op.Cell),.int .i64 (d.Op.dQ),.int .i64 (d.Op.dN),.int .i64 (d.aR),.int .i64 (d.Pc),.int .i64 (d.Sub.Kind),.int .i64 (d.Sub.A),.int .i64 (d.Sub.Pc),.int .i64 (d.Sub.E),.int .i64 (d.Sub.Row),.int .i64 (d.Sub.B),.int .i64 (d.Sub.H),.int .i64 (d.Sub.Out),.int .i64 (d.Sub.Code),.bool (d.Sub.cJ),.int .i64 (d.H),.int .i64 (d.Old),.int .i64 (d.dN),.int .i64 (d.Code)]) (A:=[]) (B:=[]) (fM rfl) (jB (c1:=[.int .i64 (d.Op.Kind),.int .i64 (d.Op.Cell),.int .i64 (d.Op.dQ),.int .i64 (d.Op.dN)]) (c2:=[.int .i64 (d.aR),.int .i64 (d.Pc),.int .i64 (d.Sub.Kind),.int .i64 (d.Sub.A),.int .i64 (d.Sub.Pc),.int .i64 (d.Sub.E),.int .i64 (d.Sub.Row),.int .i64 (d.Sub.B),.int .i64 (d.Sub.H),.int .i64 (d.Sub.Out),.int .i64 (d.Sub.Code),.bool (d.Sub.cJ),.int .i64 (d.H),.int .i64 (d.Old),.int .i64 (d.dN),.int .i64 (d.Code)]) (A:=[]) (B:=[]) (fM (aCW _)) (jB (c1:=[.int .i64 (d.aR)]) (c2:=[.int .i64 (d.Pc),.int .i64 (d.Sub.Kind),.int .i64 (d.Sub.A),.int .i64 (d.Sub.Pc),.int .i64 (d.Sub.E),.int .i64 (d.Sub.Row),.int .i64 (d.Sub.B),.int .i64 (d.Sub.H),.int .i64 (d.Sub.Out),.int .i64 (d.Sub.Code),.bool (d.Sub.cJ),.int .i64 (d.H),.int .i64 (d.Old),.int .i64 (d.dN),.int .i64 (d.Code)]) (A:=[]) (B:=[]) (fM rfl) (jB (c1:=[.int .i64 (d.Pc)]) (c2:=[.int .i64 (d.Sub.Kind),.int .i64 (d.Sub.A),.int .i64 (d.Sub.Pc),.int .i64 (d.Sub.E),.int .i64 (d.Sub.Row),.int .i64 (d.Sub.B),.int .i64 (d.Sub.H),.int .i64 (d.Sub.Out),.int .i64 (d.Sub.Code),.bool (d.Sub.cJ),.int .i64 (d.H),.int .i64 (d.Old),.int .i64 (d.dN),.int .i64 (d.Code)]) (A:=[]) (B:=[]) (fM rfl) (jB (c1:=[.int .i64 (d.Sub.Kind),.int .i64 (d.Sub.A),.int .i64 (d.Sub.Pc),.int .i64 (d.Sub.E),.int .i64 (d.Sub.Row),.int .i64 (d.Sub.B),.int .i64 (d.Sub.H),.int .i64 (d.Sub.Out),.int .i64 (d.Sub.Code),.bool (d.Sub.cJ)]) (c2:=[.int .i64 (d.H),.int .i64 (d.Old),.int .i64 (d.dN),.int .i64 (d.Code)]) (A:=[]) (B:=[]) (fM (aT1 _)) (jB (c1:=[.int .i64 (d.H)]) (c2:=[.int .i64 (d.Old),.int .i64 (d.dN),.int .i64 (d.Code)]) (A:=[]) (B:=[]) (fM rfl) (jB (c1:=[.int .i64 (d.Old)]) (c2:=[.int .i64 (d.dN),.int .i64 (d.Code)]) (A:=[]) (B:=[]) (fM rfl) (jB (c1:=[.int .i64 (d.dN)]) (c2:=[.int .i64 (d.Code)]) (A:=[]) (B:=[]) (fM rfl) (fM rfl) rfl) rfl) rfl) rfl) rfl) rfl) rfl) rfl))
structure Queue where
  eZ:List dP
  deriving DecidableEq,Inhabited
instance:aK Queue:=aK.via (fun d=>(d.eZ))
instance:Fits Queue:=Fits.via (fun d=>(d.eZ))
theorem aT2{S:cK}{w:World}{cs:List Value}{d:Queue}(h:aK.rd S w cs d):∃v0:Value,cs=[v0]∧aK.rd S w [v0] d.eZ:=by
  obtain⟨u0,q0⟩:=fT h
  rw [q0] at h
  exact⟨u0,q0,h⟩
theorem aLR(d:Queue){v0:Value}:OP [v0] d [dB [v0] d.eZ]:=(show OP (α:=(List dP)) _ (d.eZ) _ from aMR)
structure Ev where
  Kind:Int
  Who:Int
  aR:Int
  Cell:Int
  Handle:Int
  dN:Int
  Code:Int
  deriving DecidableEq,Inhabited
instance:aK Ev:=aK.via (fun d=>(d.Kind,d.Who,d.aR,d.Cell,d.Handle,d.dN,d.Code))
instance:Fits Ev:=Fits.via (fun d=>(d.Kind,d.Who,d.aR,d.Cell,d.Handle,d.dN,d.Code))
theorem a1M{S:cK}{w:World}{cs:List Value}{d:Ev}(h:aK.rd S w cs d):cs=[.int .i64 (d.Kind),.int .i64 (d.Who),.int .i64 (d.aR),.int .i64 (d.Cell),.int .i64 (d.Handle),.int .i64 (d.dN),.int .i64 (d.Code)]:=by
  obtain⟨c0,r0,e0,h0,n0⟩:=h
  have q0:c0=[_]:=h0
  obtain⟨c1,r1,e1,h1,n1⟩:=n0
  have q1:c1=[_]:=h1
  obtain⟨c2,r2,e2,h2,n2⟩:=n1
  have q2:c2=[_]:=h2
  obtain⟨c3,r3,e3,h3,n3⟩:=n2
  have q3:c3=[_]:=h3
  obtain⟨c4,r4,e4,h4,n4⟩:=n3
  have q4:c4=[_]:=h4
  obtain⟨c5,r5,e5,h5,n5⟩:=n4
  have q5:c5=[_]:=h5
  have q6:r5=[_]:=n5
  exact by rw [e0,e1,e2,e3,e4,e5,q0,q1,q2,q3,q4,q5,q6];rfl
theorem a1N{S:cK}{w:World}(d:Ev):aK.rd S w [.int .i64 (d.Kind),.int .i64 (d.Who),.int .i64 (d.aR),.int .i64 (d.Cell),.int .i64 (d.Handle),.int .i64 (d.dN),.int .i64 (d.Code)] d:=⟨[.int .i64 (d.Kind)],[.int .i64 (d.Who),.int .i64 (d.aR),.int .i64 (d.Cell),.int .i64 (d.Handle),.int .i64 (d.dN),.int .i64 (d.Code)],rfl,rfl,⟨[.int .i64 (d.Who)],[.int .i64 (d.aR),.int .i64 (d.Cell),.int .i64 (d.Handle),.int .i64 (d.dN),.int .i64 (d.Code)],rfl,rfl,⟨[.int .i64 (d.aR)],[.int .i64 (d.Cell),.int .i64 (d.Handle),.int .i64 (d.dN),.int .i64 (d.Code)],rfl,rfl,⟨[.int .i64 (d.Cell)],[.int .i64 (d.Handle),.int .i64 (d.dN),.int .i64 (d.Code)],rfl,rfl,⟨[.int .i64 (d.Handle)],[.int .i64 (d.dN),.int .i64 (d.Code)],rfl,rfl,⟨[.int .i64 (d.dN)],[.int .i64 (d.Code)],rfl,rfl,rfl⟩⟩⟩⟩⟩⟩
instance:Flat Ev:=⟨fun h=>Flat.own_of (α:=Int×Int×Int×Int×Int×Int×Int) h,fun h=>Flat.no (α:=Int×Int×Int×Int×Int×Int×Int) h⟩
theorem a1O(d:Ev):OP [.int .i64 (d.Kind),.int .i64 (d.Who),.int .i64 (d.aR),.int .i64 (d.Cell),.int .i64 (d.Handle),.int .i64 (d.dN),.int .i64 (d.Code)] d []:=(show OP (α:=Int×Int×Int×Int×Int×Int×Int) _ (d.Kind,d.Who,d.aR,d.Cell,d.Handle,d.dN,d.Code) _ from (jB (c1:=[.int .i64 (d.Kind)]) (c2:=[.int .i64 (d.Who),.int .i64 (d.aR),.int .i64 (d.Cell),.int .i64 (d.Handle),.int .i64 (d.dN),.int .i64 (d.Code)]) (A:=[]) (B:=[]) (fM rfl) (jB (c1:=[.int .i64 (d.Who)]) (c2:=[.int .i64 (d.aR),.int .i64 (d.Cell),.int .i64 (d.Handle),.int .i64 (d.dN),.int .i64 (d.Code)]) (A:=[]) (B:=[]) (fM rfl) (jB (c1:=[.int .i64 (d.aR)]) (c2:=[.int .i64 (d.Cell),.int .i64 (d.Handle),.int .i64 (d.dN),.int .i64 (d.Code)]) (A:=[]) (B:=[]) (fM rfl) (jB (c1:=[.int .i64 (d.Cell)]) (c2:=[.int .i64 (d.Handle),.int .i64 (d.dN),.int .i64 (d.Code)]) (A:=[]) (B:=[]) (fM rfl) (jB (c1:=[.int .i64 (d.Handle)]) (c2:=[.int .i64 (d.dN),.int .i64 (d.Code)]) (A:=[]) (B:=[]) (fM rfl) (jB (c1:=[.int .i64 (d.dN)]) (c2:=[.int .i64 (d.Code)]) (A:=[]) (B:=[]) (fM rfl) (fM rfl) rfl) rfl) rfl) rfl) rfl) rfl))
structure aC where
  aD:aD
  Cells:List Int
  aW:List bW
  cG:List Queue
  Log:List Ev
  aR:Int
  deriving DecidableEq,Inhabited
instance:aK aC:=aK.via (fun d=>(d.aD,d.Cells,d.aW,d.cG,d.Log,d.aR))
instance:Fits aC:=Fits.via (fun d=>(d.aD,d.Cells,d.aW,d.cG,d.Log,d.aR))
theorem aT3{S:cK}{w:World}{cs:List Value}{d:aC}(h:aK.rd S w cs d):∃v0 v1 v2 v3 v4 v5 v6 v7 v8 v9 v10:Value,cs=[v0,v1,v2,v3,.int .i64 (d.aD.aJ.aM),v4,v5,v6,v7,v8,v9,v10,.int .i64 (d.aR)]∧aK.rd S w [v0] d.aD.Mem.aG.Bytes∧aK.rd S w [v1] d.aD.Mem.aG.Class∧aK.rd S w [v2] d.aD.Mem.aA.Global∧aK.rd S w [v3] d.aD.Mem.aA.bQ∧aK.rd S w [v4] d.aD.aJ.bD∧aK.rd S w [v5] d.aD.aX∧aK.rd S w [v6] d.aD.jQ∧aK.rd S w [v7] d.Cells∧aK.rd S w [v8] d.aW∧aK.rd S w [v9] d.cG∧aK.rd S w [v10] d.Log:=by
  obtain⟨c0,r0,e0,h0,n0⟩:=h
  obtain⟨u0_0,u0_1,u0_2,u0_3,u0_4,u0_5,u0_6,q0,hq0_0,hq0_1,hq0_2,hq0_3,hq0_4,hq0_5,hq0_6⟩:=aW1 h0
  obtain⟨c1,r1,e1,h1,n1⟩:=n0
  obtain⟨u1,q1⟩:=fT h1
  rw [q1] at h1
  obtain⟨c2,r2,e2,h2,n2⟩:=n1
  obtain⟨u2,q2⟩:=fT h2
  rw [q2] at h2
  obtain⟨c3,r3,e3,h3,n3⟩:=n2
  obtain⟨u3,q3⟩:=fT h3
  rw [q3] at h3
  obtain⟨c4,r4,e4,h4,n4⟩:=n3
  obtain⟨u4,q4⟩:=fT h4
  rw [q4] at h4
  have q5:r4=[_]:=n4
  exact⟨u0_0,u0_1,u0_2,u0_3,u0_4,u0_5,u0_6,u1,u2,u3,u4,by rw [e0,e1,e2,e3,e4,q0,q1,q2,q3,q4,q5];rfl,hq0_0,hq0_1,hq0_2,hq0_3,hq0_4,hq0_5,hq0_6,h1,h2,h3,h4⟩
structure Span where
  aT5:Int
  To:Int
  deriving DecidableEq,Inhabited
instance:aK Span:=aK.via (fun d=>(d.aT5,d.To))
instance:Fits Span:=Fits.via (fun d=>(d.aT5,d.To))
instance:Flat Span:=⟨fun h=>Flat.own_of (α:=Int×Int) h,fun h=>Flat.no (α:=Int×Int) h⟩
structure aYC where
  b:List UInt8
  i:Int
  h:Int
  deriving DecidableEq,Inhabited
instance:aK aYC:=aK.via (fun d=>(d.b,d.i,d.h))
instance:Fits aYC:=Fits.via (fun d=>(d.b,d.i,d.h))
structure aT4 where
  cG:List Queue
  aYD:List Int
  deriving DecidableEq,Inhabited
instance:aK aT4:=aK.via (fun d=>(d.cG,d.aYD))
instance:Fits aT4:=Fits.via (fun d=>(d.cG,d.aYD))
end Go.Gv
end
noncomputable section
namespace Go.Gv
noncomputable section
def pP(a_:List Int)(left:Int):Option Int:=
  (if decide ((aE (left - (a_.length:Int))) < 0) then some (-1) else some (aE (left - (a_.length:Int))))
def JU(a_:aG)(left:Int):Option Int:=
  (pP a_.Bytes left).bind fun x1=>(if decide (x1 < 0) then some (-1) else (pP a_.Class x1).bind fun x2=>(if decide (x2 < 0) then some (-1) else some x2))
def FK(a_:aH)(left:Int):Option Int:=
  (pP a_.aL left).bind fun x1=>(if decide (x1 < 0) then some (-1) else some x1)
def ME(x5:Int):Option Int:=
  some x5
def uE(a_:List aH):(Int×Int)→Option (Step (Int×Int) (Out Int Int))
  | (x3,x4)=>(if decide (x4 < (a_.length:Int)) then (idx a_ x4).bind fun x6=>(FK x6 x3).bind fun x7=>(if decide (x7 < 0) then some (.stop (Out.ret (-1))) else some (.next (x7,aE (x4+1)))) else some (.stop (Out.brk x3)))
def MF:(Out Int Int)→Option Int
  | .brk x5=>ME x5
  | .ret r=>some r
def wB(a_:List aH)(left:Int):Option Int:=
  (if decide ((aE (left - (a_.length:Int))) < 0) then some (-1) else (loop (uE a_) (aE (left - (a_.length:Int)),0)).bind (MF))
def FL(a_:aA)(left:Int):Option Int:=
  (wB a_.Global left).bind fun x1=>(if decide (x1 < 0) then some (-1) else (wB a_.bQ x1).bind fun x2=>(if decide (x2 < 0) then some (-1) else some x2))
def NY(a_:Mem)(left:Int):Option Int:=
  (JU a_.aG left).bind fun x1=>(if decide (x1 < 0) then some (-1) else (FL a_.aA x1).bind fun x2=>(if decide (x2 < 0) then some (-1) else some x2))
def JV(a_:List fO)(left:Int):Option Int:=
  (if decide ((aE (left - (a_.length:Int))) < 0) then some (-1) else some (aE (left - (a_.length:Int))))
def FM(a_:aJ)(left:Int):Option Int:=
  (JV a_.bD left).bind fun x1=>(if decide (x1 < 0) then some (-1) else some x1)
def FN(a_:List bM)(left:Int):Option Int:=
  (if decide ((aE (left - (a_.length:Int))) < 0) then some (-1) else some (aE (left - (a_.length:Int))))
def FO(a_:aO)(left:Int):Option Int:=
  (FN a_.Rows left).bind fun x1=>(if decide (x1 < 0) then some (-1) else some x1)
def MG(x5:Int):Option Int:=
  some x5
def uF(a_:List aO):(Int×Int)→Option (Step (Int×Int) (Out Int Int))
  | (x3,x4)=>(if decide (x4 < (a_.length:Int)) then (idx a_ x4).bind fun x6=>(FO x6 x3).bind fun x7=>(if decide (x7 < 0) then some (.stop (Out.ret (-1))) else some (.next (x7,aE (x4+1)))) else some (.stop (Out.brk x3)))
def MH:(Out Int Int)→Option Int
  | .brk x5=>MG x5
  | .ret r=>some r
def C9(a_:List aO)(left:Int):Option Int:=
  (if decide ((aE (left - (a_.length:Int))) < 0) then some (-1) else (loop (uF a_) (aE (left - (a_.length:Int)),0)).bind (MH))
def JW(a_:aD)(left:Int):Option Int:=
  (NY a_.Mem left).bind fun x1=>(if decide (x1 < 0) then some (-1) else (FM a_.aJ x1).bind fun x2=>(if decide (x2 < 0) then some (-1) else (C9 a_.aX x2).bind fun x3=>(if decide (x3 < 0) then some (-1) else (pP a_.jQ x3).bind fun x4=>(if decide (x4 < 0) then some (-1) else some x4))))
def JX(a_:List bW)(left:Int):Option Int:=
  (if decide ((aE (left - (a_.length:Int))) < 0) then some (-1) else some (aE (left - (a_.length:Int))))
def NZ(a_:List dP)(left:Int):Option Int:=
  (if decide ((aE (left - (a_.length:Int))) < 0) then some (-1) else some (aE (left - (a_.length:Int))))
def FP(a_:Queue)(left:Int):Option Int:=
  (NZ a_.eZ left).bind fun x1=>(if decide (x1 < 0) then some (-1) else some x1)
def MI(x5:Int):Option Int:=
  some x5
def uG(a_:List Queue):(Int×Int)→Option (Step (Int×Int) (Out Int Int))
  | (x3,x4)=>(if decide (x4 < (a_.length:Int)) then (idx a_ x4).bind fun x6=>(FP x6 x3).bind fun x7=>(if decide (x7 < 0) then some (.stop (Out.ret (-1))) else some (.next (x7,aE (x4+1)))) else some (.stop (Out.brk x3)))
def MJ:(Out Int Int)→Option Int
  | .brk x5=>MI x5
  | .ret r=>some r
def DA(a_:List Queue)(left:Int):Option Int:=
  (if decide ((aE (left - (a_.length:Int))) < 0) then some (-1) else (loop (uG a_) (aE (left - (a_.length:Int)),0)).bind (MJ))
def N0(a_:List Ev)(left:Int):Option Int:=
  (if decide ((aE (left - (a_.length:Int))) < 0) then some (-1) else some (aE (left - (a_.length:Int))))
def AA(a_:aC)(left:Int):Option Int:=
  (JW a_.aD left).bind fun x1=>(if decide (x1 < 0) then some (-1) else (pP a_.Cells x1).bind fun x2=>(if decide (x2 < 0) then some (-1) else (JX a_.aW x2).bind fun x3=>(if decide (x3 < 0) then some (-1) else (DA a_.cG x3).bind fun x4=>(if decide (x4 < 0) then some (-1) else (N0 a_.Log x4).bind fun x5=>(if decide (x5 < 0) then some (-1) else some x5)))))
def FQ(x1:Bool):Option Bool:=
  some x1
def bN(x low high:Int):Option Bool:=
  (if decide (low≤x) then FQ (decide (x≤high)) else FQ false)
def O5:Option Bool:=
  some true
def kA(x3:Int)(x5:Bool):Option (Step Int (Out Unit Bool)):=
  (if x5 then some (.stop (Out.ret false)) else some (.next (aE (x3+1))))
def qS(c:aJ):Int→Option (Step Int (Out Unit Bool))
  | x3=>(if decide (x3 < 3) then (idx c.bD x3).bind fun x4=>(if !x4.On then (if !(decide (x4=(⟨false,0,false,0⟩:fO))) then kA x3 true else (bN x4.aM 0 c.aM).bind fun x6=>(if !x6 then kA x3 true else (bN x4.Seen 0 2).bind fun x7=>kA x3 (!x7))) else (bN x4.aM 0 c.aM).bind fun x8=>(if !x8 then kA x3 true else (bN x4.Seen 0 2).bind fun x9=>kA x3 (!x9))) else some (.stop (Out.brk ())))
def EX:(Out Unit Bool)→Option Bool
  | .brk ()=>O5
  | .ret r=>some r
def mM(c:aJ)(x1:Bool):Option Bool:=
  (if x1 then some false else (loop (qS c) 0).bind (EX))
def m6(c:aJ):Option Bool:=
  (bN c.aM 0 100000).bind fun x10=>(if !x10 then mM c true else mM c ((c.bD.length:Int) != 3))
def O6(b:List Int):Option Bool:=
  some (decide ((b.length:Int)≤1000))
def mN(b:List Int):Int→Option (Step Int (Out Unit Bool))
  | x2=>(if decide (x2 < (b.length:Int)) then (idx b x2).bind fun x3=>(bN x3 0 255).bind fun x4=>(if !x4 then some (.stop (Out.ret false)) else some (.next (aE (x2+1)))) else some (.stop (Out.brk ())))
def EY(b:List Int):(Out Unit Bool)→Option Bool
  | .brk ()=>O6 b
  | .ret r=>some r
def FR(b:List Int):Option Bool:=
  (loop (mN b) 0).bind (EY b)
def ZB:Option Bool:=
  some true
def mO(h:aG):Int→Option (Step Int (Out Unit Bool))
  | x3=>(if decide (x3 < 6) then (idx h.Class x3).bind fun x4=>(bN x4 (-1) 2).bind fun x5=>(if !x5 then some (.stop (Out.ret false)) else some (.next (aE (x3+1)))) else some (.stop (Out.brk ())))
def ZC:(Out Unit Bool)→Option Bool
  | .brk ()=>ZB
  | .ret r=>some r
def qT(h:aG)(x1:Bool):Option Bool:=
  (if x1 then some false else (loop (mO h) 0).bind (ZC))
def FT(h:aG):Option Bool:=
  (if (h.Bytes.length:Int) != 384 then qT h true else (if (h.Class.length:Int) != 6 then qT h true else (FR h.Bytes).bind fun x6=>qT h (!x6)))
def aCX(x5:Int):Option Int:=
  some x5
def sO(b:List Int)(at_ width:Int):(Int×Int)→Option (Step (Int×Int) Int)
  | (x3,x4)=>(if decide (x4 < width) then (idx b (aE (at_+x4))).bind fun x6=>some (.next (aE ((aE (x3 * 256))+x6),aE (x4+1))) else some (.stop (x3)))
def aCY:Int→Option Int
  | x5=>aCX x5
def sP(b:List Int)(at_ width:Int):Option Int:=
  (loop (sO b at_ width) (0,0)).bind (aCY)
def m7(c:Int):Option Int:=
  (if c == 0 then some 8 else (if c == 1 then some 16 else (if c == 2 then some 40 else some 0)))
def wC(c:Int):Option Int:=
  (bN c 0 2).bind fun x1=>(if !x1 then some 0 else (m7 c).bind fun x2=>some (aE (4+x2)))
def kU(c:Int):Option Int:=
  (bN c 0 2).bind fun x1=>(if !x1 then some 0 else (wC c).bind fun x2=>need (x2≠0) (some (aE (Int.tdiv 56 x2))))
def zR(slot:Int):Option Int:=
  (bN slot 0 23).bind fun x1=>(if !x1 then some (-1) else some (aE (Int.tdiv slot 4)))
def uH(slot:Int):Option Int:=
  (bN slot 0 23).bind fun x1=>(if !x1 then some (-1) else some (Int.tmod slot 4))
def DB(slot c:Int)(x1:Bool):Option Int:=
  (if x1 then some (-1) else (zR slot).bind fun x2=>(uH slot).bind fun x3=>(wC c).bind fun x4=>some (aE ((aE ((aE (x2 * 64))+8))+(aE (x3 * x4)))))
def sQ(slot c:Int):Option Int:=
  (zR slot).bind fun x5=>(if decide (x5 < 0) then DB slot c true else (uH slot).bind fun x6=>(kU c).bind fun x7=>(bN x6 0 (aE (x7 - 1))).bind fun x8=>DB slot c (!x8))
def sS(page index:Int)(x1:Bool):Option Int:=
  (if x1 then some (-1) else some (aE ((aE (page * 4))+index)))
def pQ(page index:Int):Option Int:=
  (bN page 0 5).bind fun x2=>(if !x2 then sS page index true else (bN index 0 3).bind fun x3=>sS page index (!x3))
def aCZ:Option Bool:=
  some true
def oK(h:aG)(p:Int):Int→Option (Step Int (Out Unit Bool))
  | x3=>(if decide (x3 < (aE ((aE (p * 64))+64))) then (idx h.Bytes x3).bind fun x4=>(if x4 != 0 then some (.stop (Out.ret false)) else some (.next (aE (x3+1)))) else some (.stop (Out.brk ())))
def aC0:(Out Unit Bool)→Option Bool
  | .brk ()=>aCZ
  | .ret r=>some r
def aC1:Option Bool:=
  some true
def oL(h:aG)(p x1:Int):Int→Option (Step Int (Out Unit Bool))
  | x9=>(kU x1).bind fun x10=>(if decide (x9 < x10) then (pQ p x9).bind fun x11=>(sQ x11 x1).bind fun x12=>(sP h.Bytes x12 4).bind fun x13=>(bN x13 1 7).bind fun x14=>(if !x14 then some (.stop (Out.ret false)) else some (.next (aE (x9+1)))) else some (.stop (Out.brk ())))
def aC2:(Out Unit Bool)→Option Bool
  | .brk ()=>aC1
  | .ret r=>some r
def QP(h:aG)(p x1:Int):Option Bool:=
  (loop (oL h p x1) 0).bind (aC2)
def oN(h:aG)(p:Int):Int→Option (Step Int (Out Unit Bool))
  | x7=>(if decide (x7 < (aE ((aE (p * 64))+8))) then (idx h.Bytes x7).bind fun x15=>(if x15 != 0 then some (.stop (Out.ret false)) else some (.next (aE (x7+1)))) else some (.stop (Out.brk ())))
def QQ(h:aG)(p x1:Int):(Out Unit Bool)→Option Bool
  | .brk ()=>QP h p x1
  | .ret r=>some r
def jK(h:aG)(p x1:Int)(x5:Bool):Option Bool:=
  (if x5 then some false else (loop (oN h p) (aE ((aE (p * 64))+3))).bind (QQ h p x1))
def JY(h:aG)(p:Int):Option Bool:=
  (idx h.Class p).bind fun x1=>(if decide (x1 < 0) then (loop (oK h p) (aE (p * 64))).bind (aC0) else (idx h.Bytes (aE (p * 64))).bind fun x16=>(if x16 != 171 then jK h p x1 true else (idx h.Bytes (aE ((aE (p * 64))+1))).bind fun x17=>(if x17 != x1 then jK h p x1 true else (idx h.Bytes (aE ((aE (p * 64))+2))).bind fun x18=>(kU x1).bind fun x19=>jK h p x1 (x18 != x19))))
def aC3:Option Bool:=
  some true
def sT(h:aG):Int→Option (Step Int (Out Unit Bool))
  | x3=>(if decide (x3 < 6) then (JY h x3).bind fun x4=>(if !x4 then some (.stop (Out.ret false)) else some (.next (aE (x3+1)))) else some (.stop (Out.brk ())))
def aC4:(Out Unit Bool)→Option Bool
  | .brk ()=>aC3
  | .ret r=>some r
def JZ(h:aG):Option Bool:=
  (FT h).bind fun x1=>(if !x1 then some false else (loop (sT h) 0).bind (aC4))
def aFY:Option Bool:=
  some false
def rR(l:List Int)(x:Int):Int→Option (Step Int (Out Unit Bool))
  | x2=>(if decide (x2 < (l.length:Int)) then (idx l x2).bind fun x3=>(if x3 == x then some (.stop (Out.ret true)) else some (.next (aE (x2+1)))) else some (.stop (Out.brk ())))
def aFZ:(Out Unit Bool)→Option Bool
  | .brk ()=>aFY
  | .ret r=>some r
def CT(l:List Int)(x:Int):Option Bool:=
  (loop (rR l x) 0).bind (aFZ)
def aF0(x10:List Int):Option (List Int):=
  some x10
def wD(l:aA):((List Int)×Int)→Option (Step ((List Int)×Int) (List Int))
  | (x8,x9)=>(if decide (x9 < (l.bQ.length:Int)) then (idx l.bQ x9).bind fun x11=>need (x8.length+x11.aL.length≤1073741824) (some (.next (x8++x11.aL,aE (x9+1)))) else some (.stop (x8)))
def aF1:(List Int)→Option (List Int)
  | x10=>aF0 x10
def S3(l:aA)(x5:List Int):Option (List Int):=
  (loop (wD l) (x5,0)).bind (aF1)
def wE(l:aA):((List Int)×Int)→Option (Step ((List Int)×Int) (List Int))
  | (x3,x4)=>(if decide (x4 < (l.Global.length:Int)) then (idx l.Global x4).bind fun x12=>need (x3.length+x12.aL.length≤1073741824) (some (.next (x3++x12.aL,aE (x4+1)))) else some (.stop (x3)))
def S4(l:aA):(List Int)→Option (List Int)
  | x5=>S3 l x5
def H0(l:aA):Option (List Int):=
  (loop (wE l) (([]:List Int),0)).bind (S4 l)
def ZD:Option Bool:=
  some true
def xO(x6:Int)(x7:Bool):Option (Step Int (Out Unit Bool)):=
  (if x7 then some (.stop (Out.ret false)) else some (.next (aE (x6+1))))
def mP(x4:(List Int)):Int→Option (Step Int (Out Unit Bool))
  | x6=>(if decide (x6 < (x4.length:Int)) then (idx x4 x6).bind fun x8=>(bN x8 0 23).bind fun x9=>(if !x9 then xO x6 true else need (0≤(x6:Int)∧(x6:Int)≤(x4.length:Int)) ((idx x4 x6).bind fun x10=>(CT ((x4.take x6.toNat).drop 0) x10).bind fun x11=>xO x6 x11)) else some (.stop (Out.brk ())))
def ZE:(Out Unit Bool)→Option Bool
  | .brk ()=>ZD
  | .ret r=>some r
def O7(l:aA):Option Bool:=
  (H0 l).bind fun x4=>(loop (mP x4) 0).bind (ZE)
def mQ(l:aA):Int→Option (Step Int (Out Unit Bool))
  | x3=>(if decide (x3 < (l.bQ.length:Int)) then (idx l.bQ x3).bind fun x12=>(if decide (2 < (x12.aL.length:Int)) then some (.stop (Out.ret false)) else some (.next (aE (x3+1)))) else some (.stop (Out.brk ())))
def O8(l:aA):(Out Unit Bool)→Option Bool
  | .brk ()=>O7 l
  | .ret r=>some r
def xP(l:aA)(x1:Bool):Option Bool:=
  (if x1 then some false else (loop (mQ l) 0).bind (O8 l))
def FU(l:aA):Option Bool:=
  (if (l.Global.length:Int) != 3 then xP l true else xP l ((l.bQ.length:Int) != 9))
def qU(h:aG)(x1:Int)(x2:Bool):Option Int:=
  (if x2 then some (-1) else (idx h.Class x1).bind fun x3=>some x3)
def kV(h:aG)(slot:Int):Option Int:=
  (zR slot).bind fun x1=>(if decide (x1 < 0) then qU h x1 true else (idx h.Class x1).bind fun x4=>(if decide (x4 < 0) then qU h x1 true else (idx h.Class x1).bind fun x5=>(uH slot).bind fun x6=>(kU x5).bind fun x7=>qU h x1 (decide (x7≤x6))))
def sU(h:aG)(slot:Int):Option Int:=
  (kV h slot).bind fun x1=>(sQ slot x1).bind fun x2=>(sP h.Bytes x2 4).bind fun x3=>some x3
def XF:Option Bool:=
  some true
def uI(x2:Int)(x3:Bool):Option (Step Int (Out Unit Bool)):=
  (if x3 then some (.stop (Out.ret false)) else some (.next (aE (x2+1))))
def lL(h:aG)(l:List Int)(c:Int):Int→Option (Step Int (Out Unit Bool))
  | x2=>(if decide (x2 < (l.length:Int)) then (idx l x2).bind fun x4=>(kV h x4).bind fun x5=>(if x5 != c then uI x2 true else (idx l x2).bind fun x6=>(sU h x6).bind fun x7=>uI x2 (decide (6 < x7))) else some (.stop (Out.brk ())))
def XG:(Out Unit Bool)→Option Bool
  | .brk ()=>XF
  | .ret r=>some r
def wF(h:aG)(l:List Int)(c:Int):Option Bool:=
  (loop (lL h l c) 0).bind (XG)
def wG(w_ c:Int)(x1:Bool):Option Int:=
  (if x1 then some (-1) else some (aE ((aE (w_ * 3))+c)))
def sV(w_ c:Int):Option Int:=
  (bN w_ 0 2).bind fun x2=>(if !x2 then wG w_ c true else (bN c 0 2).bind fun x3=>wG w_ c (!x3))
def aF2:Option Bool:=
  some true
def S5(x3:Int):Option (Step Int (Out Unit Bool)):=
  some (.next (aE (x3+1)))
def wH(m:Mem)(x3:Int):Int→Option (Step Int (Out Unit Bool))
  | x7=>(if decide (x7 < 3) then (sV x7 x3).bind fun x8=>(idx m.aA.bQ x8).bind fun x9=>(wF m.aG x9.aL x3).bind fun x10=>(if !x10 then some (.stop (Out.ret false)) else some (.next (aE (x7+1)))) else some (.stop (Out.brk ())))
def S6(x3:Int):(Out Unit Bool)→Option (Step Int (Out Unit Bool))
  | .brk ()=>S5 x3
  | .ret r=>some (.stop (Out.ret r))
def wI(m:Mem):Int→Option (Step Int (Out Unit Bool))
  | x3=>(if decide (x3 < 3) then (idx m.aA.Global x3).bind fun x4=>(wF m.aG x4.aL x3).bind fun x5=>(if !x5 then some (.stop (Out.ret false)) else (loop (wH m x3) 0).bind (S6 x3)) else some (.stop (Out.brk ())))
def aF3:(Out Unit Bool)→Option Bool
  | .brk ()=>aF2
  | .ret r=>some r
def DC(m:Mem)(x1:Bool):Option Bool:=
  (if x1 then some false else (loop (wI m) 0).bind (aF3))
def H3(m:Mem):Option Bool:=
  (JZ m.aG).bind fun x11=>(if !x11 then DC m true else (FU m.aA).bind fun x12=>DC m (!x12))
def aC5(x5:List bM):Option (List bM):=
  some x5
def sW(l:List aO):((List bM)×Int)→Option (Step ((List bM)×Int) (List bM))
  | (x3,x4)=>(if decide (x4 < (l.length:Int)) then (idx l x4).bind fun x6=>need (x3.length+x6.Rows.length≤1073741824) (some (.next (x3++x6.Rows,aE (x4+1)))) else some (.stop (x3)))
def aC6:(List bM)→Option (List bM)
  | x5=>aC5 x5
def zT(l:List aO):Option (List bM):=
  (loop (sW l) (([]:List bM),0)).bind (aC6)
def uJ(x1:Bool):Option Bool:=
  some x1
def fY(h:Int):Option Bool:=
  (bN h 32 223).bind fun x2=>(if x2 then uJ (decide ((Int.tmod h 32) < 24)) else uJ false)
def eO(h:Int):Option Int:=
  (fY h).bind fun x1=>(if !x1 then some (-1) else some (Int.tmod h 32))
def ZF:Option Bool:=
  some true
def qV(x5:List Int)(x6 x8:Int)(x9:Bool):Option (Step ((List Int)×Int) (Out Unit Bool)):=
  (if x9 then some (.stop (Out.ret false)) else need (x5.length+([x8]).length≤1073741824) (some (.next (x5++([x8]),aE (x6+1)))))
def qW(x1:(List bM)):((List Int)×Int)→Option (Step ((List Int)×Int) (Out Unit Bool))
  | (x5,x6)=>(if decide (x6 < (x1.length:Int)) then (idx x1 x6).bind fun x7=>(eO x7.Handle).bind fun x8=>(if decide (x8 < 0) then qV x5 x6 x8 true else (bN x7.aM 0 100000).bind fun x10=>(if !x10 then qV x5 x6 x8 true else (CT x5 x8).bind fun x11=>qV x5 x6 x8 x11)) else some (.stop (Out.brk ())))
def ZG:(Out Unit Bool)→Option Bool
  | .brk ()=>ZF
  | .ret r=>some r
def xQ(x1:(List bM))(x2:Bool):Option Bool:=
  (if x2 then some false else (loop (qW x1) (([]:List Int),0)).bind (ZG))
def FV(l:List aO):Option Bool:=
  (zT l).bind fun x1=>(if (l.length:Int) != 3 then xQ x1 true else xQ x1 (decide (24 < (x1.length:Int))))
def S7(z:List Int):Option Bool:=
  some ((z.length:Int) == 3)
def DD(x2:Int)(x3:Bool):Option (Step Int (Out Unit Bool)):=
  (if x3 then some (.stop (Out.ret false)) else some (.next (aE (x2+1))))
def wJ(z:List Int):Int→Option (Step Int (Out Unit Bool))
  | x2=>(if decide (x2 < (z.length:Int)) then (idx z x2).bind fun x4=>(if x4 != 0 then (idx z x2).bind fun x5=>(fY x5).bind fun x6=>DD x2 (!x6) else DD x2 false) else some (.stop (Out.brk ())))
def S8(z:List Int):(Out Unit Bool)→Option Bool
  | .brk ()=>S7 z
  | .ret r=>some r
def CU(z:List Int):Option Bool:=
  (loop (wJ z) 0).bind (S8 z)
def J0(l:aA)(slot:Int):Option Bool:=
  (H0 l).bind fun x1=>(CT x1 slot).bind fun x2=>some x2
def FW(m:Mem)(slot:Int):Option Int:=
  (kV m.aG slot).bind fun x1=>(if decide (x1 < 0) then some 0 else (J0 m.aA slot).bind fun x2=>(if x2 then some 1 else (sU m.aG slot).bind fun x3=>(if decide (6 < x3) then some 2 else some 3)))
def AB(h:Int):Option Int:=
  (fY h).bind fun x1=>(if !x1 then some 0 else some (aE (Int.tdiv h 32)))
def qX(x1:Bool):Option Bool:=
  some x1
def uK(m:Mem)(h:Int):Option Bool:=
  (fY h).bind fun x2=>(if x2 then (eO h).bind fun x3=>(FW m x3).bind fun x4=>(if x4 == 3 then (eO h).bind fun x5=>(sU m.aG x5).bind fun x6=>(AB h).bind fun x7=>qX (x6 == x7) else qX false) else qX false)
def aC7:Option Bool:=
  some true
def AD(x4:Int)(x5:Bool):Option (Step Int (Out Unit Bool)):=
  (if x5 then some (.stop (Out.ret false)) else some (.next (aE (x4+1))))
def sY(b:aD)(x2:(List bM)):Int→Option (Step Int (Out Unit Bool))
  | x4=>(if decide (x4 < (x2.length:Int)) then (idx x2 x4).bind fun x6=>(uK b.Mem x6.Handle).bind fun x7=>(if !x7 then AD x4 true else AD x4 (decide (b.aJ.aM < x6.aM))) else some (.stop (Out.brk ())))
def aC8:(Out Unit Bool)→Option Bool
  | .brk ()=>aC7
  | .ret r=>some r
def oO(b:aD)(x1:Bool):Option Bool:=
  (if x1 then some false else (zT b.aX).bind fun x2=>(loop (sY b x2) 0).bind (aC8))
def J1(b:aD):Option Bool:=
  (H3 b.Mem).bind fun x8=>(if !x8 then oO b true else (m6 b.aJ).bind fun x9=>(if !x9 then oO b true else (FV b.aX).bind fun x10=>(if !x10 then oO b true else (CU b.jQ).bind fun x11=>oO b (!x11))))
def jV(x1:Bool):Option Bool:=
  some x1
def AE(kind:Int):Option Bool:=
  (if kind == 1 then jV true else (if kind == 2 then jV true else (if kind == 3 then jV true else jV (kind == 7))))
def FX(x3:Bool):Option Bool:=
  some x3
def FY(x4:Bool):Option Bool:=
  some x4
def AF(o_:dP)(x2:Bool):Option Bool:=
  (if x2 then some false else (if o_.Kind != 1 then (if o_.dQ == 0 then FX (o_.dN == 0) else FX false) else (bN o_.dQ 0 100).bind fun x5=>(if x5 then (bN o_.dN 0 65535).bind fun x6=>FY x6 else FY false)))
def HN(o_:dP):Option Bool:=
  (bN o_.Kind 1 7).bind fun x1=>(if !x1 then some false else (AE o_.Kind).bind fun x7=>(if !x7 then (if o_.Cell != 0 then AF o_ true else (bN o_.Cell 0 1).bind fun x8=>AF o_ (!x8)) else (bN o_.Cell 0 1).bind fun x9=>AF o_ (!x9)))
def O9(todo:List Queue):Option Bool:=
  some ((todo.length:Int) == 3)
def PA(x2:Int):Option (Step Int (Out Unit Bool)):=
  some (.next (aE (x2+1)))
def mR(todo:List Queue)(x2:Int):Int→Option (Step Int (Out Unit Bool))
  | x5=>(idx todo x2).bind fun x6=>(if decide (x5 < (x6.eZ.length:Int)) then (idx todo x2).bind fun x7=>(idx x7.eZ x5).bind fun x8=>(HN x8).bind fun x9=>(if !x9 then some (.stop (Out.ret false)) else some (.next (aE (x5+1)))) else some (.stop (Out.brk ())))
def PB(x2:Int):(Out Unit Bool)→Option (Step Int (Out Unit Bool))
  | .brk ()=>PA x2
  | .ret r=>some (.stop (Out.ret r))
def mS(todo:List Queue):Int→Option (Step Int (Out Unit Bool))
  | x2=>(if decide (x2 < (todo.length:Int)) then (idx todo x2).bind fun x3=>(if decide (12 < (x3.eZ.length:Int)) then some (.stop (Out.ret false)) else (loop (mR todo x2) 0).bind (PB x2)) else some (.stop (Out.brk ())))
def PC(todo:List Queue):(Out Unit Bool)→Option Bool
  | .brk ()=>O9 todo
  | .ret r=>some r
def FZ(todo:List Queue):Option Bool:=
  (loop (mS todo) 0).bind (PC todo)
def xR(x1:Bool):Option Bool:=
  some x1
def gX(h:Int):Option Bool:=
  (if h == 0 then xR true else (fY h).bind fun x2=>xR x2)
def ZH:Option Bool:=
  some true
def d6(x5:Int)(x7:Bool):Option (Step Int (Out Unit Bool)):=
  (if x7 then some (.stop (Out.ret false)) else some (.next (aE (x5+1))))
def mT(s:aC):Int→Option (Step Int (Out Unit Bool))
  | x5=>(if decide (x5 < 3) then (idx s.aW x5).bind fun x6=>(if !x6.fP then (if !(decide (x6=(⟨false,(⟨0,0,0,0⟩:dP),0,0,(⟨0,0,0,0,0,0,0,0,0,false⟩:Sub),0,0,0,0⟩:bW))) then d6 x5 true else (if x6.fP then (HN x6.Op).bind fun x8=>(if !x8 then d6 x5 true else (gX x6.H).bind fun x9=>(if !x9 then d6 x5 true else (gX x6.Old).bind fun x10=>d6 x5 (!x10))) else (gX x6.H).bind fun x11=>(if !x11 then d6 x5 true else (gX x6.Old).bind fun x12=>d6 x5 (!x12)))) else (if x6.fP then (HN x6.Op).bind fun x13=>(if !x13 then d6 x5 true else (gX x6.H).bind fun x14=>(if !x14 then d6 x5 true else (gX x6.Old).bind fun x15=>d6 x5 (!x15))) else (gX x6.H).bind fun x16=>(if !x16 then d6 x5 true else (gX x6.Old).bind fun x17=>d6 x5 (!x17)))) else some (.stop (Out.brk ())))
def ZI:(Out Unit Bool)→Option Bool
  | .brk ()=>ZH
  | .ret r=>some r
def PD(s:aC):Option Bool:=
  (loop (mT s) 0).bind (ZI)
def mU(s:aC):Int→Option (Step Int (Out Unit Bool))
  | x3=>(if decide (x3 < 2) then (idx s.Cells x3).bind fun x18=>(gX x18).bind fun x19=>(if !x19 then some (.stop (Out.ret false)) else some (.next (aE (x3+1)))) else some (.stop (Out.brk ())))
def PE(s:aC):(Out Unit Bool)→Option Bool
  | .brk ()=>PD s
  | .ret r=>some r
def kB(s:aC)(x1:Bool):Option Bool:=
  (if x1 then some false else (loop (mU s) 0).bind (PE s))
def uL(s:aC):Option Bool:=
  (J1 s.aD).bind fun x20=>(if !x20 then kB s true else (if (s.Cells.length:Int) != 2 then kB s true else (if (s.aW.length:Int) != 3 then kB s true else (FZ s.cG).bind fun x21=>(if !x21 then kB s true else (bN s.aR 0 1000000).bind fun x22=>kB s (!x22)))))
def aJC:Option Bool:=
  some true
def uM(s:aC):Int→Option (Step Int (Out Unit Bool))
  | x4=>(if decide (x4 < (s.cG.length:Int)) then (idx s.cG x4).bind fun x5=>(if decide (0 < (x5.eZ.length:Int)) then some (.stop (Out.ret false)) else some (.next (aE (x4+1)))) else some (.stop (Out.brk ())))
def aJD:(Out Unit Bool)→Option Bool
  | .brk ()=>aJC
  | .ret r=>some r
def VG(s:aC):Option Bool:=
  (loop (uM s) 0).bind (aJD)
def uN(s:aC):Int→Option (Step Int (Out Unit Bool))
  | x2=>(if decide (x2 < (s.aW.length:Int)) then (idx s.aW x2).bind fun x6=>(if x6.fP then some (.stop (Out.ret false)) else some (.next (aE (x2+1)))) else some (.stop (Out.brk ())))
def VH(s:aC):(Out Unit Bool)→Option Bool
  | .brk ()=>VG s
  | .ret r=>some r
def MK(s:aC):Option Bool:=
  (loop (uN s) 0).bind (VH s)
def lE(b:List Int):Option (List Int):=
  need (([]:List Int).length+b.length≤1073741824) (some (([]:List Int)++b))
def J2(h:aG):Option aG:=
  (lE h.Bytes).bind fun x1=>(lE h.Class).bind fun x2=>some (⟨x1,x2⟩:aG)
def aC9(x5:List aH):Option (List aH):=
  some x5
def H4(l:List aH):((List aH)×Int)→Option (Step ((List aH)×Int) (List aH))
  | (x3,x4)=>(if decide (x4 < (l.length:Int)) then (idx l x4).bind fun x6=>(lE x6.aL).bind fun x7=>need (x3.length+([(⟨x7⟩:aH)]).length≤1073741824) (some (.next (x3++([(⟨x7⟩:aH)]),aE (x4+1)))) else some (.stop (x3)))
def aDA:(List aH)→Option (List aH)
  | x5=>aC9 x5
def EJ(l:List aH):Option (List aH):=
  (loop (H4 l) (([]:List aH),0)).bind (aDA)
def J3(l:aA):Option aA:=
  (EJ l.Global).bind fun x1=>(EJ l.bQ).bind fun x2=>some (⟨x1,x2⟩:aA)
def EK(m:Mem):Option Mem:=
  (J2 m.aG).bind fun x1=>(J3 m.aA).bind fun x2=>some (⟨x1,x2⟩:Mem)
def m8(c:aJ):Option aJ:=
  need (([]:List fO).length+c.bD.length≤1073741824) (some (⟨c.aM,([]:List fO)++c.bD⟩:aJ))
def ZJ(x5:List aO):Option (List aO):=
  some x5
def EZ(l:List aO):((List aO)×Int)→Option (Step ((List aO)×Int) (List aO))
  | (x3,x4)=>(if decide (x4 < (l.length:Int)) then (idx l x4).bind fun x6=>need (([]:List bM).length+x6.Rows.length≤1073741824) (need (x3.length+([(⟨([]:List bM)++x6.Rows⟩:aO)]).length≤1073741824) (some (.next (x3++([(⟨([]:List bM)++x6.Rows⟩:aO)]),aE (x4+1))))) else some (.stop (x3)))
def ZK:(List aO)→Option (List aO)
  | x5=>ZJ x5
def F5(l:List aO):Option (List aO):=
  (loop (EZ l) (([]:List aO),0)).bind (ZK)
def F6(b:aD):Option aD:=
  (EK b.Mem).bind fun x1=>(m8 b.aJ).bind fun x2=>(F5 b.aX).bind fun x3=>(lE b.jQ).bind fun x4=>some (⟨x1,x2,x3,x4⟩:aD)
def VI(x5:List Queue):Option (List Queue):=
  some x5
def AG(l:List Queue):((List Queue)×Int)→Option (Step ((List Queue)×Int) (List Queue))
  | (x3,x4)=>(if decide (x4 < (l.length:Int)) then (idx l x4).bind fun x6=>need (([]:List dP).length+x6.eZ.length≤1073741824) (need (x3.length+([(⟨([]:List dP)++x6.eZ⟩:Queue)]).length≤1073741824) (some (.next (x3++([(⟨([]:List dP)++x6.eZ⟩:Queue)]),aE (x4+1))))) else some (.stop (x3)))
def VJ:(List Queue)→Option (List Queue)
  | x5=>VI x5
def AH(l:List Queue):Option (List Queue):=
  (loop (AG l) (([]:List Queue),0)).bind (VJ)
def E0(x1:aC):Option aC:=
  some x1
def AI(s:aC):Option aC:=
  (F6 s.aD).bind fun x2=>(lE s.Cells).bind fun x3=>need (([]:List bW).length+s.aW.length≤1073741824)<|(AH s.cG).bind fun x4=>need (([]:List Ev).length+s.Log.length≤1073741824)<|E0 (⟨x2,x3,([]:List bW)++s.aW,x4,([]:List Ev)++s.Log,s.aR⟩:aC)
def jL(kind a_:Int):Option Sub:=
  some (⟨kind,a_,0,0,0,0,0,0,0,false⟩:Sub)
def eS(s:aC)(w_:Int)(x2:Queue)(x3:dP)(x4:bW):Option aC:=
  (idx s.aW w_).bind fun x5=>need (s.Log.length+([(⟨1,w_,aE (s.aR+1),x3.Cell,0,0,0⟩:Ev)]).length≤1073741824) (some (⟨s.aD,s.Cells,s.aW.set w_.toNat x4,s.cG.set w_.toNat (⟨(x2.eZ.take x2.eZ.length).drop ((1:Int).toNat)⟩:Queue),s.Log++([(⟨1,w_,aE (s.aR+1),x3.Cell,0,0,0⟩:Ev)]),aE (s.aR+1)⟩:aC))
def lM(s:aC)(w_:Int)(x2:Queue)(x3:dP)(x7:Bool):Option aC:=
  (if x7 then (jL 5 0).bind fun x8=>(idx s.aD.aJ.bD w_).bind fun x9=>(if x9.On then eS s w_ x2 x3 (⟨true,x3,aE (s.aR+1),9,x8,0,0,0,1⟩:bW) else eS s w_ x2 x3 (⟨true,x3,aE (s.aR+1),0,x8,0,0,0,0⟩:bW)) else (if x3.Kind == 4 then (jL 3 0).bind fun x10=>eS s w_ x2 x3 (⟨true,x3,aE (s.aR+1),0,x10,0,0,0,0⟩:bW) else eS s w_ x2 x3 (⟨true,x3,aE (s.aR+1),0,(⟨0,0,0,0,0,0,0,0,0,false⟩:Sub),0,0,0,0⟩:bW)))
def uO(s:aC)(w_:Int)(x1:Bool):Option aC:=
  (if x1 then some s else (idx s.cG w_).bind fun x2=>(idx x2.eZ 0).bind fun x3=>need (0≤(1:Int)∧(1:Int)≤(x2.eZ.length:Int)) ((if x3.Kind == 1 then (jL 1 x3.dQ).bind fun x6=>eS s w_ x2 x3 (⟨true,x3,aE (s.aR+1),0,x6,0,0,0,0⟩:bW) else (if x3.Kind == 2 then lM s w_ x2 x3 true else lM s w_ x2 x3 (x3.Kind == 5)))))
def DE(s:aC)(w_:Int):Option aC:=
  (idx s.cG w_).bind fun x11=>(if (x11.eZ.length:Int) == 0 then uO s w_ true else uO s w_ (s.aR == 1000000))
def ZL:Option Int:=
  some (-1)
def iQ(size:Int):Int→Option (Step Int (Out Unit Int))
  | x2=>(if decide (x2 < 3) then (m7 x2).bind fun x3=>(bN size 1 x3).bind fun x4=>(if x4 then some (.stop (Out.ret x2)) else some (.next (aE (x2+1)))) else some (.stop (Out.brk ())))
def ZM:(Out Unit Int)→Option Int
  | .brk ()=>ZL
  | .ret r=>some r
def F7(size:Int):Option Int:=
  (loop (iQ size) 0).bind (ZM)
def ZN(x7:List Int):Option (List Int):=
  some x7
def xS(at_:Int):((List Int)×Int×Int)→Option (Step ((List Int)×Int×Int) (List Int))
  | (x4,x5,x6)=>(if decide (0≤x6) then (idx x4 (aE (at_+x6))).bind fun x8=>some (.next (x4.set ((aE (at_+x6)).toNat) (Int.tmod x5 256),aE (Int.tdiv x5 256),aE (x6 - 1))) else some (.stop (x4)))
def ZO:(List Int)→Option (List Int)
  | x7=>ZN x7
def pV(b:List Int)(at_ width n:Int):Option (List Int):=
  (loop (xS at_) (b,n,aE (width - 1))).bind (ZO)
def ZP(h:aG):Option (aG×(List Int)):=
  some (h,([]:List Int))
def E1(x2:Int):Option (Step Int (Out Unit (aG×(List Int)))):=
  some (.next (aE (x2+1)))
def ZQ(h:aG)(c x2:Int)(x14 x15:List Int):Option (Step Int (Out Unit (aG×(List Int)))):=
  some (.stop (Out.ret ((⟨x15,h.Class.set x2.toNat c⟩:aG),x14)))
def E2(x2:Int)(x11:List Int)(x12:Int)(x17:List Int):Option (Step ((List Int)×Int×(List Int)) ((List Int)×(List Int))):=
  (pQ x2 x12).bind fun x18=>need (x11.length+([x18]).length≤1073741824) (some (.next (x11++([x18]),aE (x12+1),x17)))
def xT(c x2:Int):((List Int)×Int×(List Int))→Option (Step ((List Int)×Int×(List Int)) ((List Int)×(List Int)))
  | (x11,x12,x13)=>(kU c).bind fun x16=>(if decide (x12 < x16) then (pQ x2 x12).bind fun x19=>(sQ x19 c).bind fun x20=>(pV x13 x20 4 1).bind fun x21=>E2 x2 x11 x12 x21 else some (.stop ((x11,x13))))
def ZR(h:aG)(c x2:Int):((List Int)×(List Int))→Option (Step Int (Out Unit (aG×(List Int))))
  | (x14,x15)=>ZQ h c x2 x14 x15
def kC(h:aG)(c:Int):Int→Option (Step Int (Out Unit (aG×(List Int))))
  | x2=>(if decide (x2 < 6) then (idx h.Class x2).bind fun x3=>(if x3 != (-1) then E1 x2 else (idx h.Bytes (aE (x2 * 64))).bind fun x4=>(idx (h.Bytes.set ((aE (x2 * 64)).toNat) 171) (aE ((aE (x2 * 64))+1))).bind fun x5=>(kU c).bind fun x6=>(idx ((h.Bytes.set ((aE (x2 * 64)).toNat) 171).set ((aE ((aE (x2 * 64))+1)).toNat) c) (aE ((aE (x2 * 64))+2))).bind fun x7=>(loop (xT c x2) (([]:List Int),0,((h.Bytes.set ((aE (x2 * 64)).toNat) 171).set ((aE ((aE (x2 * 64))+1)).toNat) c).set ((aE ((aE (x2 * 64))+2)).toNat) x6)).bind (ZR h c x2)) else some (.stop (Out.brk ())))
def ZS(h:aG):(Out Unit (aG×(List Int)))→Option (aG×(List Int))
  | .brk ()=>ZP h
  | .ret r=>some r
def uP(h:aG)(c:Int):Option (aG×(List Int)):=
  (loop (kC h c) 0).bind (ZS h)
def E3(m:Mem)(c:Int)(x1:aG×(List Int))(x2:aH)(x3:Int):Option (Mem×Int):=
  some ((⟨x1.1,(⟨m.aA.Global.set c.toNat (⟨x2.aL++((x1.2.take x1.2.length).drop ((1:Int).toNat))⟩:aH),m.aA.bQ⟩:aA)⟩:Mem),x3)
def F8(m:Mem)(c:Int):Option (Mem×Int):=
  (uP m.aG c).bind fun x1=>(if (x1.2.length:Int) == 0 then some ((⟨x1.1,m.aA⟩:Mem),(-1)) else (idx m.aA.Global c).bind fun x2=>need (0≤(1:Int)∧(1:Int)≤(x1.2.length:Int)) (need (x2.aL.length+((x1.2.take x1.2.length).drop ((1:Int).toNat)).length≤1073741824) ((idx x1.2 0).bind fun x4=>E3 m c x1 x2 x4)))
def K7(s:aH)(x1:Int):Option (aH×Int):=
  some ((⟨(s.aL.take ((aE ((s.aL.length:Int) - 1)).toNat)).drop 0⟩:aH),x1)
def y8(s:aH):Option (aH×Int):=
  (if (s.aL.length:Int) == 0 then some (s,(-1)) else need (0≤(aE ((s.aL.length:Int) - 1):Int)∧(aE ((s.aL.length:Int) - 1):Int)≤(s.aL.length:Int)) ((idx s.aL (aE ((s.aL.length:Int) - 1))).bind fun x2=>K7 s x2))
def b7(s:Sub)(code:Int):Option Sub:=
  some ({s with Code:=code,cJ:=true}:Sub)
def uQ(slot gen:Int)(x1:Bool):Option Int:=
  (if x1 then some 0 else some (aE ((aE (gen * 32))+slot)))
def K8(slot gen:Int):Option Int:=
  (bN slot 0 23).bind fun x2=>(if !x2 then uQ slot gen true else (bN gen 1 6).bind fun x3=>uQ slot gen (!x3))
def DF(m:Mem)(slot:Int):Option Int:=
  (sU m.aG slot).bind fun x1=>(K8 slot x1).bind fun x2=>some x2
def N2(b:aD)(s:Sub)(slot pc:Int):Option Sub:=
  (if decide (0≤slot) then (DF b.Mem slot).bind fun x1=>(b7 ({s with Out:=x1}:Sub) 0).bind fun x2=>some x2 else some ({s with Pc:=pc}:Sub))
def uR(s:Sub)(x3:Int)(x5:Bool)(x6:aD):Option (aD×Sub):=
  (if x5 then (b7 s 3).bind fun x7=>some (x6,x7) else (N2 x6 s x3 (aE (s.Pc+1))).bind fun x8=>some (x6,x8))
def lN(s:Sub)(x3:Int)(x4:aD):Option (aD×Sub):=
  (if decide (x3 < 0) then uR s x3 (s.Pc == 3) x4 else uR s x3 false x4)
def uS(b:aD)(s:Sub)(x1:Int)(x12:Bool):Option (aD×Sub):=
  (if x12 then (idx b.Mem.aA.Global x1).bind fun x13=>(y8 x13).bind fun x14=>lN s x14.2 ({b with Mem:=(⟨b.Mem.aG,(⟨b.Mem.aA.Global.set x1.toNat x14.1,b.Mem.aA.bQ⟩:aA)⟩:Mem)}:aD) else (if s.Pc == 2 then (F8 b.Mem x1).bind fun x15=>lN s x15.2 ({b with Mem:=x15.1}:aD) else (b7 s 1).bind fun x16=>some (b,x16)))
def DG(b:aD)(w_:Int)(s:Sub):Option (aD×Sub):=
  (F7 s.A).bind fun x1=>(if decide (x1 < 0) then (b7 s 2).bind fun x2=>some (b,x2) else (if s.Pc == 0 then (sV w_ x1).bind fun x9=>(idx b.Mem.aA.bQ x9).bind fun x10=>(y8 x10).bind fun x11=>lN s x11.2 ({b with Mem:=(⟨b.Mem.aG,(⟨b.Mem.aA.Global,b.Mem.aA.bQ.set x9.toNat x11.1⟩:aA)⟩:Mem)}:aD) else (if s.Pc == 1 then uS b s x1 true else uS b s x1 (s.Pc == 3))))
def ZT:Option Bool:=
  some false
def qY(x3:Int)(x4:Bool):Option (Step Int (Out Unit Bool)):=
  (if x4 then some (.stop (Out.ret true)) else some (.next (aE (x3+1))))
def mV(slot:Int)(x1:(List bM)):Int→Option (Step Int (Out Unit Bool))
  | x3=>(if decide (x3 < (x1.length:Int)) then (idx x1 x3).bind fun x5=>(fY x5.Handle).bind fun x6=>(if x6 then (eO x5.Handle).bind fun x7=>qY x3 (x7 == slot) else qY x3 false) else some (.stop (Out.brk ())))
def ZU:(Out Unit Bool)→Option Bool
  | .brk ()=>ZT
  | .ret r=>some r
def F9(l:List aO)(slot:Int):Option Bool:=
  (zT l).bind fun x1=>(loop (mV slot x1) 0).bind (ZU)
def AJ(b:aD)(s:Sub)(x5:List aO):Option (aD×Sub):=
  (b7 s 0).bind fun x6=>some (({b with aX:=x5}:aD),x6)
def sE(b:aD)(w_:Int)(s:Sub)(x3:Bool):Option (aD×Sub):=
  (if x3 then (b7 s 4).bind fun x4=>some (b,x4) else (idx b.aX w_).bind fun x7=>need (x7.Rows.length+([(⟨s.A,s.E⟩:bM)]).length≤1073741824)<|AJ b s (b.aX.set w_.toNat (⟨x7.Rows++([(⟨s.A,s.E⟩:bM)])⟩:aO)))
def AK(b:aD)(w_:Int)(s:Sub):Option (aD×Sub):=
  (if s.Pc == 0 then some (b,({s with Pc:=1,E:=b.aJ.aM}:Sub)) else (if s.Pc == 1 then (bN s.E 0 b.aJ.aM).bind fun x1=>(if !x1 then (b7 s 1).bind fun x2=>some (b,x2) else (uK b.Mem s.A).bind fun x8=>(if !x8 then sE b w_ s true else (eO s.A).bind fun x9=>(F9 b.aX x9).bind fun x10=>sE b w_ s x10)) else (b7 s 1).bind fun x11=>some (b,x11)))
def oP(w_:Int)(x1:aJ)(x3:fO)(x4:Bool):Option (aJ×Bool):=
  (if x4 then some (x1,true) else (if x3.Seen == 2 then (idx x1.bD w_).bind fun x5=>some ((⟨x1.aM,x1.bD.set w_.toNat ({x5 with eI:=true,Seen:=0}:fO)⟩:aJ),true) else (idx x1.bD w_).bind fun x6=>some ((⟨x1.aM,x1.bD.set w_.toNat ({x6 with Seen:=aE (x3.Seen+1)}:fO)⟩:aJ),false)))
def AL(c:aJ)(w_ e_:Int)(x1:aJ)(x2:Bool):Option (aJ×Bool):=
  (if x2 then some (x1,false) else (idx c.bD w_).bind fun x3=>(if !x3.On then oP w_ x1 x3 true else (if x3.eI then oP w_ x1 x3 true else oP w_ x1 x3 (x3.aM == e_))))
def J4(c:aJ)(w_ e_:Int):Option (aJ×Bool):=
  (m8 c).bind fun x1=>(m6 c).bind fun x7=>(if !x7 then AL c w_ e_ x1 true else (bN w_ 0 2).bind fun x8=>AL c w_ e_ x1 (!x8))
def AM(e_:Int)(x1:aJ)(x2:Bool):Option (aJ×Bool):=
  (if x2 then some (x1,false) else some ((⟨aE (e_+1),x1.bD⟩:aJ),true))
def SK(c:aJ)(e_:Int):Option (aJ×Bool):=
  (m8 c).bind fun x1=>(m6 c).bind fun x3=>(if !x3 then AM e_ x1 true else (if c.aM != e_ then AM e_ x1 true else AM e_ x1 (e_ == 100000)))
def pW(b:aD)(s:Sub)(x3:aJ×Bool)(x5:Int):Option (aD×Sub):=
  some (({b with aJ:=x3.1}:aD),({s with Pc:=x5,B:=aE (s.B+1)}:Sub))
def pX(b:aD)(s:Sub)(x6:aJ×Bool)(x7:Int):Option (aD×Sub):=
  (b7 ({s with Out:=x7}:Sub) 0).bind fun x8=>some (({b with aJ:=x6.1}:aD),x8)
def xU(b:aD)(s:Sub):Option (aD×Sub):=
  (if s.Pc == 0 then some (b,({s with Pc:=1,E:=b.aJ.aM,B:=0}:Sub)) else (if s.Pc == 1 then (bN s.B 0 2).bind fun x1=>(if !x1 then (b7 s 1).bind fun x2=>some (b,x2) else (J4 b.aJ s.B s.E).bind fun x3=>(if !x3.2 then (b7 s 8).bind fun x4=>some (({b with aJ:=x3.1}:aD),x4) else (if (aE (s.B+1)) == 3 then pW b s x3 2 else pW b s x3 s.Pc))) else (if s.Pc == 2 then (SK b.aJ s.E).bind fun x6=>(if x6.2 then pX b s x6 1 else pX b s x6 s.Out) else (b7 s 1).bind fun x9=>some (b,x9))))
def GA(x1:Bool):Option Bool:=
  some x1
def ML(r_:bM)(e_:Int):Option Bool:=
  (if decide (2≤e_) then GA (decide (r_.aM≤(aE (e_ - 2)))) else GA false)
def ZV:Option Int:=
  some (-1)
def gY(l:List bM)(e_:Int):Int→Option (Step Int (Out Unit Int))
  | x2=>(if decide (x2 < (l.length:Int)) then (idx l x2).bind fun x3=>(ML x3 e_).bind fun x4=>(if x4 then some (.stop (Out.ret x2)) else some (.next (aE (x2+1)))) else some (.stop (Out.brk ())))
def ZW:(Out Unit Int)→Option Int
  | .brk ()=>ZV
  | .ret r=>some r
def AN(l:List bM)(from_ e_:Int):Option Int:=
  (loop (gY l e_) (if 0 < from_ then from_ else 0)).bind (ZW)
def H5(x2 x3:List aH):Option aA:=
  some (⟨x2,x3⟩:aA)
def QT(x:aA)(slot x1:Int)(x4:aH):Option aA:=
  H5 x.Global (x.bQ.set x1.toNat (⟨x4.aL++([slot])⟩:aH))
def QU(x:aA)(x5:List aH):Option aA:=
  H5 x5 x.bQ
def QV(x:aA)(w_ c slot:Int):Option aA:=
  (sV w_ c).bind fun x1=>(idx x.bQ x1).bind fun x4=>(if decide ((x4.aL.length:Int) < 2) then need (x4.aL.length+([slot]).length≤1073741824)<|QT x slot x1 x4 else (idx x.Global c).bind fun x6=>need (x6.aL.length+([slot]).length≤1073741824)<|QU x (x.Global.set c.toNat (⟨x6.aL++([slot])⟩:aH)))
def H6(x:Mem)(x3:List Int)(x4 x5:List aH):Option Mem:=
  some (⟨(⟨x3,x.aG.Class⟩:aG),(⟨x4,x5⟩:aA)⟩:Mem)
def H7(x:Mem)(w_ slot x1 x2:Int)(x3:List Int):Option Mem:=
  (if decide ((aE (x2+1))≤6) then (QV x.aA w_ x1 slot).bind fun x6=>H6 x x3 x6.Global x6.bQ else H6 x x3 x.aA.Global x.aA.bQ)
def J5(x:Mem)(w_ slot:Int):Option Mem:=
  (kV x.aG slot).bind fun x1=>(sU x.aG slot).bind fun x2=>(sQ slot x1).bind fun x7=>(pV x.aG.Bytes x7 4 (aE (x2+1))).bind fun x8=>H7 x w_ slot x1 x2 x8
def pY(b:aD)(s:Sub)(x8:Int):Option (aD×Sub):=
  some (b,({s with Pc:=x8,B:=aE (s.B+1)}:Sub))
def eG(b:aD)(s:Sub)(x5:Bool):Option (aD×Sub):=
  (if x5 then (b7 s 1).bind fun x6=>some (b,x6) else (idx b.jQ s.B).bind fun x7=>(if x7 == s.H then some (b,({s with Pc:=1,Row:=aE (s.Row+1)}:Sub)) else (if (aE (s.B+1)) == 3 then pY b s 3 else pY b s s.Pc)))
def y9(s:Sub)(x14:aD):Option (aD×Sub):=
  some (x14,({s with Pc:=1,Out:=aE (s.Out+1)}:Sub))
def eH(b:aD)(w_:Int)(s:Sub)(x1:aO)(x12:Bool):Option (aD×Sub):=
  (if x12 then (b7 s 1).bind fun x13=>some (b,x13) else need (0≤(s.Row:Int)∧(s.Row:Int)≤(x1.Rows.length:Int)) (need (0≤(aE (s.Row+1):Int)∧(aE (s.Row+1):Int)≤(x1.Rows.length:Int)) (need (s.Row.toNat≤(aE (s.Row+1)).toNat) ((eO s.H).bind fun x15=>(J5 b.Mem w_ x15).bind fun x16=>y9 s ({b with Mem:=x16,aX:=b.aX.set w_.toNat (⟨((cT x1.Rows s.Row.toNat (x1.Rows.drop ((aE (s.Row+1)).toNat))).take (s.Row.toNat+(x1.Rows.length - ((aE (s.Row+1)).toNat)))).drop 0⟩:aO)}:aD)))))
def xV(b:aD)(w_:Int)(s:Sub):Option (aD×Sub):=
  (idx b.aX w_).bind fun x1=>(if s.Pc == 0 then some (b,({s with Pc:=1,E:=b.aJ.aM,Row:=0}:Sub)) else (if s.Pc == 1 then (AN x1.Rows s.Row s.E).bind fun x2=>(if decide (x2 < 0) then (b7 s 0).bind fun x3=>some (b,x3) else (idx x1.Rows x2).bind fun x4=>some (b,({s with Pc:=2,Row:=x2,B:=0,H:=x4.Handle}:Sub))) else (if s.Pc == 2 then (bN s.B 0 2).bind fun x9=>(if !x9 then eG b s true else (bN s.Row 0 (aE ((x1.Rows.length:Int) - 1))).bind fun x10=>(if !x10 then eG b s true else (idx x1.Rows s.Row).bind fun x11=>eG b s (x11.Handle != s.H))) else (if s.Pc == 3 then (bN s.Row 0 (aE ((x1.Rows.length:Int) - 1))).bind fun x17=>(if !x17 then eH b w_ s x1 true else (idx x1.Rows s.Row).bind fun x18=>(if x18.Handle != s.H then eH b w_ s x1 true else (ML x18 s.E).bind fun x19=>eH b w_ s x1 (!x19))) else (b7 s 1).bind fun x20=>some (b,x20)))))
def wK(w_ e_:Int)(x1:aJ)(x2:Bool):Option (aJ×Bool):=
  (if x2 then some (x1,false) else (idx x1.bD w_).bind fun x3=>some ((⟨x1.aM,x1.bD.set w_.toNat (⟨true,e_,false,0⟩:fO)⟩:aJ),true))
def N3(c:aJ)(w_ e_:Int):Option (aJ×Bool):=
  (m8 c).bind fun x1=>(m6 c).bind fun x4=>(if !x4 then wK w_ e_ x1 true else (bN w_ 0 2).bind fun x5=>(if !x5 then wK w_ e_ x1 true else (bN e_ 0 c.aM).bind fun x6=>wK w_ e_ x1 (!x6)))
def J6(b:aD)(w_:Int)(s:Sub):Option (aD×Sub):=
  (if s.Pc == 0 then some (b,({s with Pc:=1,E:=b.aJ.aM}:Sub)) else (if s.Pc == 1 then (N3 b.aJ w_ s.E).bind fun x1=>(if !x1.2 then (b7 s 1).bind fun x2=>some (({b with aJ:=x1.1}:aD),x2) else some (({b with aJ:=x1.1}:aD),({s with Pc:=2}:Sub))) else (if s.Pc == 2 then (if b.aJ.aM == s.E then (b7 s 0).bind fun x3=>some (b,x3) else some (b,({s with Pc:=0}:Sub))) else (b7 s 1).bind fun x4=>some (b,x4))))
def zA(b:aD)(w_:Int)(s:Sub):Option (aD×Sub):=
  (if s.cJ then some (b,s) else (if s.Kind == 1 then (DG b w_ s).bind fun x1=>some (x1.1,x1.2) else (if s.Kind == 2 then (AK b w_ s).bind fun x2=>some (x2.1,x2.2) else (if s.Kind == 3 then (xU b s).bind fun x3=>some (x3.1,x3.2) else (if s.Kind == 4 then (xV b w_ s).bind fun x4=>some (x4.1,x4.2) else (if s.Kind == 5 then (J6 b w_ s).bind fun x5=>some (x5.1,x5.2) else (b7 s 1).bind fun x6=>some (b,x6)))))))
def bK(j:bW)(pc code:Int):Option bW:=
  some ({j with Pc:=pc,Code:=code}:bW)
def AO(slot c:Int):Option Int:=
  (sQ slot c).bind fun x1=>(if decide (x1 < 0) then some (-1) else some (aE (x1+4)))
def AP(at_ x3 x4:Int)(x5:Bool):Option (Int×Int):=
  (if x5 then some (0,2) else (AO x3 x4).bind fun x6=>some (aE (x6+at_),0))
def AQ(m:Mem)(h at_ width:Int)(x1:Bool):Option (Int×Int):=
  (if x1 then some (0,1) else (uK m h).bind fun x2=>(if !x2 then some (0,4) else (eO h).bind fun x3=>(kV m.aG x3).bind fun x4=>(m7 x4).bind fun x7=>(bN at_ 0 (aE (x7 - 1))).bind fun x8=>(if !x8 then AP at_ x3 x4 true else (m7 x4).bind fun x9=>AP at_ x3 x4 (decide ((aE (x9 - at_)) < width)))))
def QW(m:Mem)(h at_ width:Int):Option (Int×Int):=
  (H3 m).bind fun x10=>(if !x10 then AQ m h at_ width true else (bN width 1 7).bind fun x11=>AQ m h at_ width (!x11))
def S9(x8:Int)(x9:List UInt8):Option (List UInt8):=
  (if decide (0 < x8) then some ([]) else some x9)
def DH(width:Int):(Int×(List UInt8)×Int)→Option (Step (Int×(List UInt8)×Int) (Int×(List UInt8)))
  | (x5,x6,x7)=>(if decide (x7 < width) then need (([u8 (Int.tmod x5 256)]).length+x6.length≤9223372036854775807) (some (.next (aE (Int.tdiv x5 256),([u8 (Int.tmod x5 256)])++x6,aE (x7+1)))) else some (.stop ((x5,x6))))
def TA:(Int×(List UInt8))→Option (List UInt8)
  | (x8,x9)=>S9 x8 x9
def DI(n width:Int)(x1:Bool):Option (List UInt8):=
  (if x1 then some ([]) else (loop (DH width) (n,[],0)).bind (TA))
def H8(n width:Int):Option (List UInt8):=
  (bN width 1 7).bind fun x10=>(if !x10 then DI n width true else DI n width (decide (n < 0)))
def GB(m:Mem)(h at_ width n:Int):Option (Mem×Int):=
  (EK m).bind fun x1=>(QW m h at_ width).bind fun x2=>(if x2.2 != 0 then some (x1,x2.2) else (H8 n width).bind fun x3=>(if x3 == ([]) then some (x1,1) else (pV x1.aG.Bytes x2.1 width n).bind fun x4=>some ((⟨(⟨x4,x1.aG.Class⟩:aG),x1.aA⟩:Mem),0)))
def J7(s:aC)(w_:Int)(j:bW):Option (aC×bW):=
  (if j.Pc == 0 then (zA s.aD w_ j.Sub).bind fun x1=>(if !x1.2.cJ then some (({s with aD:=x1.1}:aC),({j with Sub:=x1.2}:bW)) else (if x1.2.Code != 0 then (bK ({j with Sub:=x1.2}:bW) 9 x1.2.Code).bind fun x2=>some (({s with aD:=x1.1}:aC),x2) else (fY x1.2.Out).bind fun x3=>(if !x3 then (bK ({j with Sub:=x1.2}:bW) 9 1).bind fun x4=>some (({s with aD:=x1.1}:aC),x4) else (bK ({j with Sub:=x1.2,H:=x1.2.Out}:bW) 1 0).bind fun x5=>some (({s with aD:=x1.1}:aC),x5)))) else (if j.Pc == 1 then (GB s.aD.Mem j.H 0 4 j.Op.dN).bind fun x6=>(if x6.2 != 0 then (bK j 9 x6.2).bind fun x7=>some (({s with aD:=(⟨x6.1,s.aD.aJ,s.aD.aX,s.aD.jQ⟩:aD)}:aC),x7) else (bK j 2 0).bind fun x8=>some (({s with aD:=(⟨x6.1,s.aD.aJ,s.aD.aX,s.aD.jQ⟩:aD)}:aC),x8)) else (if j.Pc == 2 then (idx s.Cells j.Op.Cell).bind fun x9=>need (s.Log.length+([(⟨2,w_,j.aR,j.Op.Cell,j.H,j.Op.dN,0⟩:Ev)]).length≤1073741824) ((if x9 == 0 then (bK ({j with Old:=x9}:bW) 9 0).bind fun x10=>some (({s with Cells:=s.Cells.set j.Op.Cell.toNat j.H,Log:=s.Log++([(⟨2,w_,j.aR,j.Op.Cell,j.H,j.Op.dN,0⟩:Ev)])}:aC),x10) else (jL 2 x9).bind fun x11=>(bK ({j with Sub:=x11,Old:=x9}:bW) 3 0).bind fun x12=>some (({s with Cells:=s.Cells.set j.Op.Cell.toNat j.H,Log:=s.Log++([(⟨2,w_,j.aR,j.Op.Cell,j.H,j.Op.dN,0⟩:Ev)])}:aC),x12))) else (if j.Pc == 3 then (zA s.aD w_ j.Sub).bind fun x13=>(if !x13.2.cJ then some (({s with aD:=x13.1}:aC),({j with Sub:=x13.2}:bW)) else (bK ({j with Sub:=x13.2}:bW) 9 x13.2.Code).bind fun x14=>some (({s with aD:=x13.1}:aC),x14)) else (bK j 9 1).bind fun x15=>some (s,x15)))))
def kW(s:aC)(w_:Int)(j:bW):Option aC:=
  need (s.Log.length+([(⟨3,w_,j.aR,j.Op.Cell,j.H,0,0⟩:Ev)]).length≤1073741824) (some ({s with Log:=s.Log++([(⟨3,w_,j.aR,j.Op.Cell,j.H,0,0⟩:Ev)])}:aC))
def oQ(h:aG)(x at_ width x3:Int)(x4:Bool):Option (Int×Bool):=
  (if x4 then some (0,false) else (eO x).bind fun x5=>(AO x5 x3).bind fun x6=>(sP h.Bytes (aE (x6+at_)) width).bind fun x7=>some (x7,true))
def AR(h:aG)(x at_ width:Int)(x1:Bool):Option (Int×Bool):=
  (if x1 then some (0,false) else (eO x).bind fun x2=>(kV h x2).bind fun x3=>(if decide (x3 < 0) then oQ h x at_ width x3 true else (m7 x3).bind fun x8=>(bN at_ 0 (aE (x8 - 1))).bind fun x9=>(if !x9 then oQ h x at_ width x3 true else (m7 x3).bind fun x10=>oQ h x at_ width x3 (decide ((aE (x10 - at_)) < width)))))
def J8(h:aG)(x at_ width:Int):Option (Int×Bool):=
  (fY x).bind fun x11=>(if !x11 then AR h x at_ width true else (bN width 1 7).bind fun x12=>AR h x at_ width (!x12))
def pZ(s:aC)(j:bW):Option Int:=
  (J8 s.aD.Mem.aG j.H 0 4).bind fun x1=>some x1.1
def oR(j:bW)(pc:Int)(x2:Bool):Option bW:=
  (if x2 then (bK j pc 0).bind fun x3=>some x3 else (bK ({j with dN:=0}:bW) pc 6).bind fun x4=>some x4)
def wL(s:aC)(w_:Int)(j:bW)(pc:Int):Option bW:=
  (idx s.aD.aJ.bD w_).bind fun x1=>(if x1.On then oR j pc (!x1.eI) else oR j pc false)
def wM(w_:Int)(x1:aJ)(x2:Bool):Option (aJ×Bool):=
  (if x2 then some (x1,false) else (idx x1.bD w_).bind fun x3=>some ((⟨x1.aM,x1.bD.set w_.toNat (⟨false,0,false,0⟩:fO)⟩:aJ),true))
def H9(c:aJ)(w_:Int):Option (aJ×Bool):=
  (m8 c).bind fun x1=>(m6 c).bind fun x4=>(if !x4 then wM w_ x1 true else (bN w_ 0 2).bind fun x5=>(if !x5 then wM w_ x1 true else (idx c.bD w_).bind fun x6=>wM w_ x1 (!x6.On)))
def J9(s:aC)(w_:Int)(j:bW):Option (aC×bW):=
  (if j.Pc == 0 then (zA s.aD w_ j.Sub).bind fun x1=>(if !x1.2.cJ then some (({s with aD:=x1.1}:aC),({j with Sub:=x1.2}:bW)) else (bK ({j with Sub:=x1.2}:bW) 1 0).bind fun x2=>some (({s with aD:=x1.1}:aC),x2)) else (if j.Pc == 1 then (idx s.Cells j.Op.Cell).bind fun x3=>(kW s w_ ({j with H:=x3}:bW)).bind fun x4=>(if x3 == 0 then (bK ({j with H:=x3}:bW) 4 8).bind fun x5=>some (x4,x5) else (bK ({j with H:=x3}:bW) 2 0).bind fun x6=>some (x4,x6)) else (if j.Pc == 2 then (pZ s j).bind fun x7=>(bK ({j with dN:=x7}:bW) 3 0).bind fun x8=>some (s,x8) else (if j.Pc == 3 then (wL s w_ j 4).bind fun x9=>some (s,x9) else (if j.Pc == 4 then (H9 s.aD.aJ w_).bind fun x10=>(bK j 9 j.Code).bind fun x11=>some (({s with aD:=(⟨s.aD.Mem,x10.1,s.aD.aX,s.aD.jQ⟩:aD)}:aC),x11) else (bK j 9 1).bind fun x12=>some (s,x12))))))
def qZ(w_ h:Int)(x1:(List Int))(x2:Bool):Option ((List Int)×Bool):=
  (if x2 then some (x1,false) else (idx x1 w_).bind fun x3=>some (x1.set w_.toNat h,true))
def GC(z:List Int)(w_ h:Int):Option ((List Int)×Bool):=
  (lE z).bind fun x1=>(CU z).bind fun x4=>(if !x4 then qZ w_ h x1 true else (bN w_ 0 2).bind fun x5=>(if !x5 then qZ w_ h x1 true else (fY h).bind fun x6=>qZ w_ h x1 (!x6)))
def wN(w_:Int)(x1:(List Int))(x2:Bool):Option ((List Int)×Bool):=
  (if x2 then some (x1,false) else (idx x1 w_).bind fun x3=>some (x1.set w_.toNat 0,true))
def N4(z:List Int)(w_:Int):Option ((List Int)×Bool):=
  (lE z).bind fun x1=>(CU z).bind fun x4=>(if !x4 then wN w_ x1 true else (bN w_ 0 2).bind fun x5=>(if !x5 then wN w_ x1 true else (idx z w_).bind fun x6=>wN w_ x1 (x6 == 0)))
def KA(s:aC)(w_:Int)(j:bW):Option (aC×bW):=
  (if j.Pc == 0 then (idx s.Cells j.Op.Cell).bind fun x1=>(if x1 == 0 then (kW s w_ ({j with H:=x1}:bW)).bind fun x2=>(bK ({j with H:=x1}:bW) 4 8).bind fun x3=>some (x2,x3) else (bK ({j with H:=x1}:bW) 1 0).bind fun x4=>some (s,x4)) else (if j.Pc == 1 then (GC s.aD.jQ w_ j.H).bind fun x5=>(bK j 2 0).bind fun x6=>some (({s with aD:=(⟨s.aD.Mem,s.aD.aJ,s.aD.aX,x5.1⟩:aD)}:aC),x6) else (if j.Pc == 2 then (idx s.Cells j.Op.Cell).bind fun x7=>(if x7 != j.H then (bK j 0 0).bind fun x8=>some (s,x8) else (kW s w_ j).bind fun x9=>(bK j 3 0).bind fun x10=>some (x9,x10)) else (if j.Pc == 3 then (pZ s j).bind fun x11=>(bK ({j with dN:=x11}:bW) 4 0).bind fun x12=>some (s,x12) else (if j.Pc == 4 then (N4 s.aD.jQ w_).bind fun x13=>(bK j 9 j.Code).bind fun x14=>some (({s with aD:=(⟨s.aD.Mem,s.aD.aJ,s.aD.aX,x13.1⟩:aD)}:aC),x14) else (bK j 9 1).bind fun x15=>some (s,x15))))))
def GD(s:aC)(w_:Int)(j:bW):Option (aC×bW):=
  (idx s.aD.aJ.bD w_).bind fun x1=>(if j.Pc == 0 then (if !x1.On then (bK j 9 5).bind fun x2=>some (s,x2) else (if x1.eI then (bK j 9 6).bind fun x3=>some (s,x3) else (idx s.Cells j.Op.Cell).bind fun x4=>(kW s w_ ({j with H:=x4}:bW)).bind fun x5=>(if x4 == 0 then (bK ({j with H:=x4}:bW) 9 8).bind fun x6=>some (x5,x6) else (bK ({j with H:=x4}:bW) 1 0).bind fun x7=>some (x5,x7)))) else (if j.Pc == 1 then (pZ s j).bind fun x8=>(bK ({j with dN:=x8}:bW) 2 0).bind fun x9=>some (s,x9) else (if j.Pc == 2 then (wL s w_ j 9).bind fun x10=>some (s,x10) else (bK j 9 1).bind fun x11=>some (s,x11))))
def lO(s:aC)(w_:Int)(j:bW)(x5:Bool):Option (aC×bW):=
  (if x5 then (bK j 9 1).bind fun x6=>some (s,x6) else (zA s.aD w_ j.Sub).bind fun x7=>(if !x7.2.cJ then some (({s with aD:=x7.1}:aC),({j with Sub:=x7.2}:bW)) else (if j.Op.Kind == 5 then (bK ({j with Sub:=x7.2}:bW) 9 x7.2.Code).bind fun x8=>some (({s with aD:=x7.1}:aC),x8) else (if j.Pc == 0 then (jL 4 0).bind fun x9=>(bK ({j with Sub:=x9}:bW) 1 0).bind fun x10=>some (({s with aD:=x7.1}:aC),x10) else (bK ({j with Sub:=x7.2,dN:=x7.2.Out}:bW) 9 x7.2.Code).bind fun x11=>some (({s with aD:=x7.1}:aC),x11)))))
def uT(s:aC)(w_:Int)(j:bW)(x1:Bool):Option (aC×bW):=
  (if x1 then (H9 s.aD.aJ w_).bind fun x2=>(if !x2.2 then (bK j 9 5).bind fun x3=>some (({s with aD:=(⟨s.aD.Mem,x2.1,s.aD.aX,s.aD.jQ⟩:aD)}:aC),x3) else (bK j 9 0).bind fun x4=>some (({s with aD:=(⟨s.aD.Mem,x2.1,s.aD.aX,s.aD.jQ⟩:aD)}:aC),x4)) else (if j.Op.Kind == 6 then lO s w_ j true else (if j.Pc != 0 then (if j.Pc != 1 then lO s w_ j true else lO s w_ j (j.Op.Kind == 5)) else lO s w_ j false)))
def DJ(s:aC)(w_:Int)(j:bW):Option (aC×bW):=
  (if j.Op.Kind == 6 then uT s w_ j (j.Pc == 0) else uT s w_ j false)
def dX(w_:Int)(x3:aC)(x4:bW):Option aC:=
  (idx x3.aW w_).bind fun x5=>some ({x3 with aW:=x3.aW.set w_.toNat x4}:aC)
def N5(s:aC)(w_:Int):Option aC:=
  (idx s.aW w_).bind fun x1=>(if !x1.fP then (DE s w_).bind fun x2=>some x2 else (if x1.Pc == 9 then need (s.Log.length+([(⟨4,w_,x1.aR,x1.Op.Cell,x1.H,x1.dN,x1.Code⟩:Ev)]).length≤1073741824) (some ({s with aW:=s.aW.set w_.toNat (⟨false,(⟨0,0,0,0⟩:dP),0,0,(⟨0,0,0,0,0,0,0,0,0,false⟩:Sub),0,0,0,0⟩:bW),Log:=s.Log++([(⟨4,w_,x1.aR,x1.Op.Cell,x1.H,x1.dN,x1.Code⟩:Ev)])}:aC)) else (if x1.Op.Kind == 1 then (J7 s w_ x1).bind fun x6=>dX w_ x6.1 x6.2 else (if x1.Op.Kind == 2 then (J9 s w_ x1).bind fun x7=>dX w_ x7.1 x7.2 else (if x1.Op.Kind == 3 then (KA s w_ x1).bind fun x8=>dX w_ x8.1 x8.2 else (if x1.Op.Kind == 7 then (GD s w_ x1).bind fun x9=>dX w_ x9.1 x9.2 else (DJ s w_ x1).bind fun x10=>dX w_ x10.1 x10.2))))))
def aDB(x7:aC):Option aC:=
  some x7
def oT(x5:Int)(x8:Bool)(x9:aC):Option (Step (Int×aC) aC):=
  (if x8 then (N5 x9 (Int.tmod x5 3)).bind fun x10=>some (.next (aE (x5+1),x10)) else some (.stop (x9)))
def oV:(Int×aC)→Option (Step (Int×aC) aC)
  | (x5,x6)=>(MK x6).bind fun x11=>(if !x11 then oT x5 (decide (x5 < 3000)) x6 else oT x5 false x6)
def aDC:aC→Option aC
  | x7=>aDB x7
def KB(s:aC):Option aC:=
  (AI s).bind fun x1=>(uL s).bind fun x2=>(if !x2 then some x1 else (loop (oV) (0,x1)).bind (aDC))
def IA(x8:aC):Option aC:=
  some x8
def IB(x6:Int)(x13:aC):Option (Step (Int×aC) aC):=
  some (.next (aE (x6+1),x13))
def zC(x11:Int)(x14:aC):Option (Step (Int×aC) aC):=
  some (.next (aE (x11+1),x14))
def lX(n x6:Int):(Int×aC)→Option (Step (Int×aC) aC)
  | (x11,x12)=>(if decide (x11 < n) then (idx x12.cG x6).bind fun x15=>need (x15.eZ.length+([(⟨4,0,0,0⟩:dP)]).length≤1073741824)<|zC x11 ({x12 with cG:=x12.cG.set x6.toNat (⟨x15.eZ++([(⟨4,0,0,0⟩:dP)])⟩:Queue)}:aC) else some (.stop (x12)))
def IC(x6:Int):aC→Option (Step (Int×aC) aC)
  | x13=>IB x6 x13
def lY(n:Int):(Int×aC)→Option (Step (Int×aC) aC)
  | (x6,x7)=>(if decide (x6 < 3) then (loop (lX n x6) (0,x7)).bind (IC x6) else some (.stop (x7)))
def ID:aC→Option aC
  | x8=>IA x8
def lZ(n:Int)(x2:Bool)(x3:aC):Option aC:=
  (if x2 then some x3 else (loop (lY n) (0,x3)).bind (ID))
def xW(s:aC)(n:Int):Option aC:=
  (AI s).bind fun x1=>(uL s).bind fun x16=>(if !x16 then lZ n true x1 else (MK s).bind fun x17=>(if !x17 then lZ n true x1 else (bN n 0 12).bind fun x18=>lZ n (!x18) x1))
def IE(s:aC)(n:Int):Option aC:=
  (xW s n).bind fun x1=>(KB x1).bind fun x2=>some x2
def QX(x5:List Int):Option (List Int):=
  some x5
def IF(a_:List Int):((List Int)×Int)→Option (Step ((List Int)×Int) (List Int))
  | (x3,x4)=>(if decide (x4 < (a_.length:Int)) then (idx a_ x4).bind fun x6=>(idx x3 x4).bind fun x7=>some (.next (x3.set x4.toNat x6,aE (x4+1))) else some (.stop (x3)))
def QY:(List Int)→Option (List Int)
  | x5=>QX x5
def pR(a_:List Int):Option (List Int):=
  need (0≤((a_.length:Int):Int)∧((a_.length:Int):Int)≤4294967296) ((loop (IF a_) (List.replicate ((a_.length:Int).toNat) 0,0)).bind (QY))
def KC(a_:aG):Option aG:=
  (pR a_.Bytes).bind fun x1=>(pR a_.Class).bind fun x2=>some (⟨x1,x2⟩:aG)
def GF(a_:aH):Option aH:=
  (pR a_.aL).bind fun x1=>some (⟨x1⟩:aH)
def MM(x5:List aH):Option (List aH):=
  some x5
def CV(a_:List aH):((List aH)×Int)→Option (Step ((List aH)×Int) (List aH))
  | (x3,x4)=>(if decide (x4 < (a_.length:Int)) then (idx a_ x4).bind fun x6=>(GF x6).bind fun x7=>(idx x3 x4).bind fun x8=>some (.next (x3.set x4.toNat x7,aE (x4+1))) else some (.stop (x3)))
def MN:(List aH)→Option (List aH)
  | x5=>MM x5
def wO(a_:List aH):Option (List aH):=
  need (0≤((a_.length:Int):Int)∧((a_.length:Int):Int)≤4294967296) ((loop (CV a_) (List.replicate ((a_.length:Int).toNat) (⟨[]⟩:aH),0)).bind (MN))
def GG(a_:aA):Option aA:=
  (wO a_.Global).bind fun x1=>(wO a_.bQ).bind fun x2=>some (⟨x1,x2⟩:aA)
def N6(a_:Mem):Option Mem:=
  (KC a_.aG).bind fun x1=>(GG a_.aA).bind fun x2=>some (⟨x1,x2⟩:Mem)
def UI(a_:fO):Option fO:=
  some a_
def QZ(x5:List fO):Option (List fO):=
  some x5
def IG(a_:List fO):((List fO)×Int)→Option (Step ((List fO)×Int) (List fO))
  | (x3,x4)=>(if decide (x4 < (a_.length:Int)) then (idx a_ x4).bind fun x6=>(UI x6).bind fun x7=>(idx x3 x4).bind fun x8=>some (.next (x3.set x4.toNat x7,aE (x4+1))) else some (.stop (x3)))
def Q0:(List fO)→Option (List fO)
  | x5=>QZ x5
def KD(a_:List fO):Option (List fO):=
  need (0≤((a_.length:Int):Int)∧((a_.length:Int):Int)≤4294967296) ((loop (IG a_) (List.replicate ((a_.length:Int).toNat) (⟨false,0,false,0⟩:fO),0)).bind (Q0))
def GH(a_:aJ):Option aJ:=
  (KD a_.bD).bind fun x1=>some (⟨a_.aM,x1⟩:aJ)
def Q1(a_:bM):Option bM:=
  some a_
def PF(x5:List bM):Option (List bM):=
  some x5
def E4(a_:List bM):((List bM)×Int)→Option (Step ((List bM)×Int) (List bM))
  | (x3,x4)=>(if decide (x4 < (a_.length:Int)) then (idx a_ x4).bind fun x6=>(Q1 x6).bind fun x7=>(idx x3 x4).bind fun x8=>some (.next (x3.set x4.toNat x7,aE (x4+1))) else some (.stop (x3)))
def PG:(List bM)→Option (List bM)
  | x5=>PF x5
def GI(a_:List bM):Option (List bM):=
  need (0≤((a_.length:Int):Int)∧((a_.length:Int):Int)≤4294967296) ((loop (E4 a_) (List.replicate ((a_.length:Int).toNat) (⟨0,0⟩:bM),0)).bind (PG))
def GJ(a_:aO):Option aO:=
  (GI a_.Rows).bind fun x1=>some (⟨x1⟩:aO)
def MO(x5:List aO):Option (List aO):=
  some x5
def CX(a_:List aO):((List aO)×Int)→Option (Step ((List aO)×Int) (List aO))
  | (x3,x4)=>(if decide (x4 < (a_.length:Int)) then (idx a_ x4).bind fun x6=>(GJ x6).bind fun x7=>(idx x3 x4).bind fun x8=>some (.next (x3.set x4.toNat x7,aE (x4+1))) else some (.stop (x3)))
def MP:(List aO)→Option (List aO)
  | x5=>MO x5
def DK(a_:List aO):Option (List aO):=
  need (0≤((a_.length:Int):Int)∧((a_.length:Int):Int)≤4294967296) ((loop (CX a_) (List.replicate ((a_.length:Int).toNat) (⟨[]⟩:aO),0)).bind (MP))
def KE(a_:aD):Option aD:=
  (N6 a_.Mem).bind fun x1=>(GH a_.aJ).bind fun x2=>(DK a_.aX).bind fun x3=>(pR a_.jQ).bind fun x4=>some (⟨x1,x2,x3,x4⟩:aD)
def SL(a_:dP):Option dP:=
  some a_
def aDD(a_:Sub):Option Sub:=
  some a_
def UJ(a_:bW):Option bW:=
  (SL a_.Op).bind fun x1=>(aDD a_.Sub).bind fun x2=>some ({a_ with Op:=x1,Sub:=x2}:bW)
def Q2(x5:List bW):Option (List bW):=
  some x5
def IH(a_:List bW):((List bW)×Int)→Option (Step ((List bW)×Int) (List bW))
  | (x3,x4)=>(if decide (x4 < (a_.length:Int)) then (idx a_ x4).bind fun x6=>(UJ x6).bind fun x7=>(idx x3 x4).bind fun x8=>some (.next (x3.set x4.toNat x7,aE (x4+1))) else some (.stop (x3)))
def Q3:(List bW)→Option (List bW)
  | x5=>Q2 x5
def KF(a_:List bW):Option (List bW):=
  need (0≤((a_.length:Int):Int)∧((a_.length:Int):Int)≤4294967296) ((loop (IH a_) (List.replicate ((a_.length:Int).toNat) (⟨false,(⟨0,0,0,0⟩:dP),0,0,(⟨0,0,0,0,0,0,0,0,0,false⟩:Sub),0,0,0,0⟩:bW),0)).bind (Q3))
def TB(x5:List dP):Option (List dP):=
  some x5
def K9(a_:List dP):((List dP)×Int)→Option (Step ((List dP)×Int) (List dP))
  | (x3,x4)=>(if decide (x4 < (a_.length:Int)) then (idx a_ x4).bind fun x6=>(SL x6).bind fun x7=>(idx x3 x4).bind fun x8=>some (.next (x3.set x4.toNat x7,aE (x4+1))) else some (.stop (x3)))
def TC:(List dP)→Option (List dP)
  | x5=>TB x5
def N7(a_:List dP):Option (List dP):=
  need (0≤((a_.length:Int):Int)∧((a_.length:Int):Int)≤4294967296) ((loop (K9 a_) (List.replicate ((a_.length:Int).toNat) (⟨0,0,0,0⟩:dP),0)).bind (TC))
def GK(a_:Queue):Option Queue:=
  (N7 a_.eZ).bind fun x1=>some (⟨x1⟩:Queue)
def MQ(x5:List Queue):Option (List Queue):=
  some x5
def CY(a_:List Queue):((List Queue)×Int)→Option (Step ((List Queue)×Int) (List Queue))
  | (x3,x4)=>(if decide (x4 < (a_.length:Int)) then (idx a_ x4).bind fun x6=>(GK x6).bind fun x7=>(idx x3 x4).bind fun x8=>some (.next (x3.set x4.toNat x7,aE (x4+1))) else some (.stop (x3)))
def MR:(List Queue)→Option (List Queue)
  | x5=>MQ x5
def DL(a_:List Queue):Option (List Queue):=
  need (0≤((a_.length:Int):Int)∧((a_.length:Int):Int)≤4294967296) ((loop (CY a_) (List.replicate ((a_.length:Int).toNat) (⟨[]⟩:Queue),0)).bind (MR))
def XH(a_:Ev):Option Ev:=
  some a_
def TD(x5:List Ev):Option (List Ev):=
  some x5
def LA(a_:List Ev):((List Ev)×Int)→Option (Step ((List Ev)×Int) (List Ev))
  | (x3,x4)=>(if decide (x4 < (a_.length:Int)) then (idx a_ x4).bind fun x6=>(XH x6).bind fun x7=>(idx x3 x4).bind fun x8=>some (.next (x3.set x4.toNat x7,aE (x4+1))) else some (.stop (x3)))
def TE:(List Ev)→Option (List Ev)
  | x5=>TD x5
def N8(a_:List Ev):Option (List Ev):=
  need (0≤((a_.length:Int):Int)∧((a_.length:Int):Int)≤4294967296) ((loop (LA a_) (List.replicate ((a_.length:Int).toNat) (⟨0,0,0,0,0,0,0⟩:Ev),0)).bind (TE))
def gZ(a_:aC):Option aC:=
  (KE a_.aD).bind fun x1=>(pR a_.Cells).bind fun x2=>(KF a_.aW).bind fun x3=>(DL a_.cG).bind fun x4=>(N8 a_.Log).bind fun x5=>some (⟨x1,x2,x3,x4,x5,a_.aR⟩:aC)
def zU:Option Int:=
  some (-1)
def jW(s:List bW)(f:(bW→Option Bool)):Int→Option (Step Int (Out Unit Int))
  | x2=>(if decide (x2 < (s.length:Int)) then (idx s x2).bind fun x3=>(f x3).bind fun x4=>(if x4 then some (.stop (Out.ret x2)) else some (.next (aE (x2+1)))) else some (.stop (Out.brk ())))
def oW:(Out Unit Int)→Option Int
  | .brk ()=>zU
  | .ret r=>some r
def sZ(s:List bW)(f:(bW→Option Bool)):Option Int:=
  (loop (jW s f) 0).bind (oW)
def hY(s:List bW)(f:(bW→Option Bool)):Option Bool:=
  (sZ s f).bind fun x1=>some (decide (0≤x1))
def Q4(j:bW):Option Bool:=
  some j.fP
def vQ:Option Int:=
  some (-1)
def iX(s:List Queue)(f:(Queue→Option Bool)):Int→Option (Step Int (Out Unit Int))
  | x2=>(if decide (x2 < (s.length:Int)) then (idx s x2).bind fun x3=>(f x3).bind fun x4=>(if x4 then some (.stop (Out.ret x2)) else some (.next (aE (x2+1)))) else some (.stop (Out.brk ())))
def mH:(Out Unit Int)→Option Int
  | .brk ()=>vQ
  | .ret r=>some r
def p5(s:List Queue)(f:(Queue→Option Bool)):Option Int:=
  (loop (iX s f) 0).bind (mH)
def gC(s:List Queue)(f:(Queue→Option Bool)):Option Bool:=
  (p5 s f).bind fun x1=>some (decide (0≤x1))
def Q5(q:Queue):Option Bool:=
  some (decide (0 < (q.eZ.length:Int)))
def GL(x1:Bool):Option Bool:=
  some x1
def MS(s:aC):Option Bool:=
  (hY s.aW (fun y0=>Q4 y0)).bind fun x2=>(if !x2 then (gC s.cG (fun y0=>Q5 y0)).bind fun x3=>GL (!x3) else GL false)
def eT(s:List Int):Option (List Int):=
  need (([]:List Int).length+s.length≤1073741824) (some (([]:List Int)++s))
def rS(h:aG):Option aG:=
  (eT h.Bytes).bind fun x1=>(eT h.Class).bind fun x2=>some (⟨x1,x2⟩:aG)
def VK(x5 x10:List aH):Option aA:=
  some (⟨x5,x10⟩:aA)
def AS(x8:Int)(x12:List aH):Option (Step (Int×(List aH)) (List aH)):=
  some (.next (aE (x8+1),x12))
def AT(l:aA):(Int×(List aH))→Option (Step (Int×(List aH)) (List aH))
  | (x8,x9)=>(if decide (x8 < (l.bQ.length:Int)) then (idx l.bQ x8).bind fun x11=>(eT x11.aL).bind fun x13=>need (x9.length+([(⟨x13⟩:aH)]).length≤1073741824)<|AS x8 (x9++([(⟨x13⟩:aH)])) else some (.stop (x9)))
def VL(x5:List aH):(List aH)→Option aA
  | x10=>VK x5 x10
def KG(l:aA)(x5:List aH):Option aA:=
  (loop (AT l) (0,[])).bind (VL x5)
def AU(x3:Int)(x15:List aH):Option (Step (Int×(List aH)) (List aH)):=
  some (.next (aE (x3+1),x15))
def AV(l:aA):(Int×(List aH))→Option (Step (Int×(List aH)) (List aH))
  | (x3,x4)=>(if decide (x3 < (l.Global.length:Int)) then (idx l.Global x3).bind fun x14=>(eT x14.aL).bind fun x16=>need (x4.length+([(⟨x16⟩:aH)]).length≤1073741824)<|AU x3 (x4++([(⟨x16⟩:aH)])) else some (.stop (x4)))
def KH(l:aA):(List aH)→Option aA
  | x5=>KG l x5
def gR(l:aA):Option aA:=
  (loop (AV l) (0,[])).bind (KH l)
def AW(m:Mem):Option Mem:=
  (rS m.aG).bind fun x1=>(gR m.aA).bind fun x2=>some (⟨x1,x2⟩:Mem)
def uU(s:List fO):Option (List fO):=
  need (([]:List fO).length+s.length≤1073741824) (some (([]:List fO)++s))
def jM(c:aJ):Option aJ:=
  (uU c.bD).bind fun x1=>some (⟨c.aM,x1⟩:aJ)
def sG(s:List bM):Option (List bM):=
  need (([]:List bM).length+s.length≤1073741824) (some (([]:List bM)++s))
def VM(x5:List aO):Option (List aO):=
  some x5
def AX(l:List aO):((List aO)×Int)→Option (Step ((List aO)×Int) (List aO))
  | (x3,x4)=>(if decide (x4 < (l.length:Int)) then (idx l x4).bind fun x6=>(sG x6.Rows).bind fun x7=>need (x3.length+([(⟨x7⟩:aO)]).length≤1073741824) (some (.next (x3++([(⟨x7⟩:aO)]),aE (x4+1)))) else some (.stop (x3)))
def VN:(List aO)→Option (List aO)
  | x5=>VM x5
def jN(l:List aO):Option (List aO):=
  (loop (AX l) (([]:List aO),0)).bind (VN)
def DM(b:aD):Option aD:=
  (AW b.Mem).bind fun x1=>(jM b.aJ).bind fun x2=>(jN b.aX).bind fun x3=>(eT b.jQ).bind fun x4=>some (⟨x1,x2,x3,x4⟩:aD)
def CZ(s:List bW):Option (List bW):=
  need (([]:List bW).length+s.length≤1073741824) (some (([]:List bW)++s))
def E5(s:List dP):Option (List dP):=
  need (([]:List dP).length+s.length≤1073741824) (some (([]:List dP)++s))
def XI(x5:List Queue):Option (List Queue):=
  some x5
def C0(todo:List Queue):((List Queue)×Int)→Option (Step ((List Queue)×Int) (List Queue))
  | (x3,x4)=>(if decide (x4 < (todo.length:Int)) then (idx todo x4).bind fun x6=>(E5 x6.eZ).bind fun x7=>need (x3.length+([(⟨x7⟩:Queue)]).length≤1073741824) (some (.next (x3++([(⟨x7⟩:Queue)]),aE (x4+1)))) else some (.stop (x3)))
def XJ:(List Queue)→Option (List Queue)
  | x5=>XI x5
def DN(todo:List Queue):Option (List Queue):=
  (loop (C0 todo) (([]:List Queue),0)).bind (XJ)
def E6(s:List Ev):Option (List Ev):=
  need (([]:List Ev).length+s.length≤1073741824) (some (([]:List Ev)++s))
def tA(s:aC):Option aC:=
  (DM s.aD).bind fun x1=>(eT s.Cells).bind fun x2=>(CZ s.aW).bind fun x3=>(DN s.cG).bind fun x4=>(E6 s.Log).bind fun x5=>some (⟨x1,x2,x3,x4,x5,s.aR⟩:aC)
def oX(x1:Bool):Option Bool:=
  some x1
def cD(n low high:Int):Option Bool:=
  (if decide (low≤n) then oX (decide (n≤high)) else oX false)
def zV:Option Int:=
  some (-1)
def iA(s:List fO)(f:(fO→Option Bool)):Int→Option (Step Int (Out Unit Int))
  | x2=>(if decide (x2 < (s.length:Int)) then (idx s x2).bind fun x3=>(f x3).bind fun x4=>(if x4 then some (.stop (Out.ret x2)) else some (.next (aE (x2+1)))) else some (.stop (Out.brk ())))
def oY:(Out Unit Int)→Option Int
  | .brk ()=>zV
  | .ret r=>some r
def tB(s:List fO)(f:(fO→Option Bool)):Option Int:=
  (loop (iA s f) 0).bind (oY)
def jX(s:List fO)(f:(fO→Option Bool)):Option Bool:=
  (tB s f).bind fun x1=>some (decide (0≤x1))
def jY(x1:Bool):Option Bool:=
  some x1
def tC(p:fO)(k0:aJ):Option Bool:=
  (cD p.aM 0 k0.aM).bind fun x2=>(if !x2 then jY true else (cD p.Seen 0 2).bind fun x3=>(if !x3 then jY true else (if !p.On then jY (!(decide (p=(⟨false,0,false,0⟩:fO)))) else jY false)))
def rA(x1:Bool):Option Bool:=
  some x1
def m9(c:aJ):Option Bool:=
  (cD c.aM 0 100000).bind fun x2=>(if x2 then (if (c.bD.length:Int) == 3 then (jX c.bD (fun y0=>tC y0 c)).bind fun x3=>rA (!x3) else rA false) else rA false)
def lF(slot:Int):Option Bool:=
  (cD slot 0 23).bind fun x1=>some x1
def p7(x10:List Raw):Option (List Raw):=
  some x10
def f9(slices:List (List Raw)):((List Raw)×Int)→Option (Step ((List Raw)×Int) (List Raw))
  | (x8,x9)=>(if decide (x9 < (slices.length:Int)) then (idx slices x9).bind fun x11=>need (x8.length+x11.length≤1073741824) (some (.next (x8++x11,aE (x9+1)))) else some (.stop (x8)))
def N9:(List Raw)→Option (List Raw)
  | x10=>p7 x10
def kX(slices:List (List Raw))(x5:Int):Option (List Raw):=
  need (0≤x5∧x5≤1073741824) ((loop (f9 slices) ([],0)).bind (N9))
def fA(slices:List (List Raw)):(Int×Int)→Option (Step (Int×Int) Int)
  | (x3,x4)=>(if decide (x4 < (slices.length:Int)) then (idx slices x4).bind fun x12=>(if decide ((aE (x3+(x12.length:Int))) < 0) then none else some (.next (aE (x3+(x12.length:Int)),aE (x4+1)))) else some (.stop (x3)))
def AY(slices:List (List Raw)):Int→Option (List Raw)
  | x5=>kX slices x5
def nT(slices:List (List Raw)):Option (List Raw):=
  (loop (fA slices) (0,0)).bind (AY slices)
theorem JG{u1 u2:List Raw}(h:u1.length+u2.length≤1073741824):loop (fA [u1,u2]) (0,0)=some ((u1.length+u2.length:Nat):Int):=by
  have e1:aE (u1.length:Int)=u1.length:=HW (by omega)
  have e2:aE ((u1.length:Int)+(u2.length:Int))=((u1.length+u2.length:Nat):Int):=by rw [HW (by omega)];rfl
  have e3:aE (0+1)=1:=HW (by omega)
  have e4:aE 2=2:=HW (by omega)
  have n1:¬(u1.length:Int) < 0:=by omega
  have n2:¬((u1.length+u2.length:Nat):Int) < 0:=by omega
  rw [cH (s':=((u1.length:Int),1)) ?_,cH (s':=(((u1.length+u2.length:Nat):Int),2)) ?_,bZ (r:=((u1.length+u2.length:Nat):Int)) ?_]
  · simp [fA]
  · simp [fA,idx,e2,e4]
    omega
  · simp [fA,idx,e1,n1]
    exact e3
theorem MT{u1 u2:List Raw}{n1 n2:Nat}(hl:u1.length=n1∧u2.length=n2)(h:n1+n2≤1073741824):nT [u1,u2]=some (u1++u2):=by
  obtain⟨rfl,rfl⟩:=hl
  have e3:aE (0+1)=1:=HW (by omega)
  have e4:aE 2=2:=HW (by omega)
  unfold nT
  rw [JG h]
  simp only [aI,AY,kX]
  rw [aP (by omega),cH (s':=(u1,1)) ?_,cH (s':=(u1++u2,2)) ?_,bZ (r:=u1++u2) ?_]
  · rfl
  · simp [f9]
  · simp [f9,idx,e4,aP h]
  · have h1:u1.length≤1073741824:=by omega
    simp [f9,idx,aP h1]
    exact e3
def E7:Option Bool:=
  some true
def xX(x4:Int)(x12:List Bool):Option (Step (Int×(List Bool)) (Out Unit Bool)):=
  some (.next (aE (x4+1),x12))
def mW(x10:Int)(x11:List Bool)(x13:Int)(x14:Bool):Option (Step (Int×(List Bool)) (Out (List Bool) Bool)):=
  (if x14 then some (.stop (Out.ret false)) else need (0≤(x13:Int)∧(x13:Int) < 24) ((idx (x11:List Bool) x13).bind fun x15=>some (.next (aE (x10+1),x11.set (x13.toNat) true))))
def kD(x6:aH):(Int×(List Bool))→Option (Step (Int×(List Bool)) (Out (List Bool) Bool))
  | (x10,x11)=>(if decide (x10 < (x6.aL.length:Int)) then (idx x6.aL x10).bind fun x13=>(lF x13).bind fun x16=>(if !x16 then mW x10 x11 x13 true else need (0≤(x13:Int)∧(x13:Int) < 24) ((idx (x11:List Bool) x13).bind fun x17=>mW x10 x11 x13 x17)) else some (.stop (Out.brk x11)))
def PH(x4:Int):(Out (List Bool) Bool)→Option (Step (Int×(List Bool)) (Out Unit Bool))
  | .brk x12=>xX x4 x12
  | .ret r=>some (.stop (Out.ret r))
def kE(x4:Int)(x5:List Bool)(x6:aH)(x7:Bool):Option (Step (Int×(List Bool)) (Out Unit Bool)):=
  (if x7 then some (.stop (Out.ret false)) else (loop (kD x6) (0,x5)).bind (PH x4))
def kG(l:aA):(Int×(List Bool))→Option (Step (Int×(List Bool)) (Out Unit Bool))
  | (x4,x5)=>(if decide (x4 < ((l.bQ++l.Global).length:Int)) then (idx (l.bQ++l.Global) x4).bind fun x6=>(if decide (x4 < (l.bQ.length:Int)) then kE x4 x5 x6 (decide (2 < (x6.aL.length:Int))) else kE x4 x5 x6 false) else some (.stop (Out.brk ())))
def ZX:(Out Unit Bool)→Option Bool
  | .brk ()=>E7
  | .ret r=>some r
def rB(l:aA)(x1:Bool):Option Bool:=
  (if x1 then some false else need (l.bQ.length+l.Global.length≤1073741824) ((loop (kG l) (0,[false,false,false,false,false,false,false,false,false,false,false,false,false,false,false,false,false,false,false,false,false,false,false,false])).bind (ZX)))
def jD(l:aA):Option Bool:=
  (if (l.Global.length:Int) != 3 then rB l true else rB l ((l.bQ.length:Int) != 9))
def zW:Option Int:=
  some (-1)
def iB(s:List Int)(f:(Int→Option Bool)):Int→Option (Step Int (Out Unit Int))
  | x2=>(if decide (x2 < (s.length:Int)) then (idx s x2).bind fun x3=>(f x3).bind fun x4=>(if x4 then some (.stop (Out.ret x2)) else some (.next (aE (x2+1)))) else some (.stop (Out.brk ())))
def oZ:(Out Unit Int)→Option Int
  | .brk ()=>zW
  | .ret r=>some r
def tD(s:List Int)(f:(Int→Option Bool)):Option Int:=
  (loop (iB s f) 0).bind (oZ)
def dT(s:List Int)(f:(Int→Option Bool)):Option Bool:=
  (tD s f).bind fun x1=>some (decide (0≤x1))
def Q6(x:Int):Option Bool:=
  (cD x 0 255).bind fun x1=>some x1
def AZ(x:Int):Option Bool:=
  (Q6 x).bind fun x1=>some (!x1)
def xY(x1:Bool):Option Bool:=
  some x1
def GM(b:List Int):Option Bool:=
  (if decide ((b.length:Int)≤1000) then (dT b (fun y0=>AZ y0)).bind fun x2=>xY (!x2) else xY false)
def DO(c:Int):Option Bool:=
  (cD c (-1) 2).bind fun x1=>some (!x1)
def o4(x1:Bool):Option Bool:=
  some x1
def EL(h:aG):Option Bool:=
  (if (h.Bytes.length:Int) == 384 then (GM h.Bytes).bind fun x2=>(if x2 then (if (h.Class.length:Int) == 6 then (dT h.Class (fun y0=>DO y0)).bind fun x3=>o4 (!x3) else o4 false) else o4 false) else o4 false)
def jE(c:Int):Option Bool:=
  (cD c 0 2).bind fun x1=>some x1
def zX(c:Int):Option Int:=
  (jE c).bind fun x1=>(if !x1 then some 0 else (idx ([8,16,40]:List Int) c).bind fun x2=>some x2)
def rT(c:Int):Option Int:=
  (jE c).bind fun x1=>(if !x1 then some 0 else (zX c).bind fun x2=>some (aE (4+x2)))
def nA(c:Int):Option Int:=
  (jE c).bind fun x1=>(if !x1 then some 0 else (rT c).bind fun x2=>need (x2≠0) (some (aE (Int.tdiv 56 x2))))
def ZY(x5:Int):Option Int:=
  some x5
def rC(b:List Int)(at_ width:Int):(Int×Int)→Option (Step (Int×Int) Int)
  | (x3,x4)=>(if decide (x4 < (((b.take ((aE (at_+width)).toNat)).drop at_.toNat).length:Int)) then (idx ((b.take ((aE (at_+width)).toNat)).drop at_.toNat) x4).bind fun x6=>some (.next (aE ((aE (256 * x3))+x6),aE (x4+1))) else some (.stop (x3)))
def ZZ:Int→Option Int
  | x5=>ZY x5
def kY(b:List Int)(at_ width:Int):Option Int:=
  need (0≤(at_:Int)∧(at_:Int)≤(aE (at_+width):Int)∧(aE (at_+width):Int)≤(b.length:Int)) ((loop (rC b at_ width) (0,0)).bind (ZZ))
def DP(x:Int):Option Bool:=
  some (x != 0)
def EM(b:List Int):Option Bool:=
  (dT b (fun y0=>DP y0)).bind fun x1=>some (!x1)
def aDE:Option Bool:=
  some true
def o5(h:aG)(page x1 x4:Int):Int→Option (Step Int (Out Unit Bool))
  | x6=>(if decide (x6 < x4) then (rT x1).bind fun x7=>(kY ((h.Bytes.take ((aE ((aE (page+1)) * 64)).toNat)).drop ((aE (page * 64)).toNat)) (aE (8+(aE (x6 * x7)))) 4).bind fun x8=>(cD x8 1 7).bind fun x9=>(if !x9 then some (.stop (Out.ret false)) else some (.next (aE (x6+1)))) else some (.stop (Out.brk ())))
def aDF:(Out Unit Bool)→Option Bool
  | .brk ()=>aDE
  | .ret r=>some r
def iI(h:aG)(page x1:Int)(x3:Bool):Option Bool:=
  (if x3 then some false else (nA x1).bind fun x4=>(loop (o5 h page x1 x4) 0).bind (aDF))
def KI(h:aG)(page:Int):Option Bool:=
  (idx h.Class page).bind fun x1=>need (0≤(aE (page * 64):Int)∧(aE (page * 64):Int)≤(aE ((aE (page+1)) * 64):Int)∧(aE ((aE (page+1)) * 64):Int)≤(h.Bytes.length:Int)) ((if decide (x1 < 0) then (EM ((h.Bytes.take ((aE ((aE (page+1)) * 64)).toNat)).drop ((aE (page * 64)).toNat))).bind fun x2=>some x2 else (idx ((h.Bytes.take ((aE ((aE (page+1)) * 64)).toNat)).drop ((aE (page * 64)).toNat)) 0).bind fun x10=>(if x10 != 171 then iI h page x1 true else (idx ((h.Bytes.take ((aE ((aE (page+1)) * 64)).toNat)).drop ((aE (page * 64)).toNat)) 1).bind fun x11=>(if x11 != x1 then iI h page x1 true else (idx ((h.Bytes.take ((aE ((aE (page+1)) * 64)).toNat)).drop ((aE (page * 64)).toNat)) 2).bind fun x12=>(nA x1).bind fun x13=>(if x12 != x13 then iI h page x1 true else need (0≤(3:Int)∧(3:Int)≤(8:Int)∧(8:Int)≤(((h.Bytes.take ((aE ((aE (page+1)) * 64)).toNat)).drop ((aE (page * 64)).toNat)).length:Int)) ((EM ((((h.Bytes.take ((aE ((aE (page+1)) * 64)).toNat)).drop ((aE (page * 64)).toNat)).take ((8:Int).toNat)).drop ((3:Int).toNat))).bind fun x14=>iI h page x1 (!x14)))))))
def aDG:Option Bool:=
  some true
def tE(h:aG):Int→Option (Step Int (Out Unit Bool))
  | x3=>(if decide (x3 < 6) then (KI h x3).bind fun x4=>(if !x4 then some (.stop (Out.ret false)) else some (.next (aE (x3+1)))) else some (.stop (Out.brk ())))
def aDH:(Out Unit Bool)→Option Bool
  | .brk ()=>aDG
  | .ret r=>some r
def EN(h:aG):Option Bool:=
  (EL h).bind fun x1=>(if !x1 then some false else (loop (tE h) 0).bind (aDH))
def wP(slot c:Int)(x1:Bool):Option Int:=
  (if x1 then some (-1) else (rT c).bind fun x2=>some (aE ((aE ((aE ((aE (Int.tdiv slot 4)) * 64))+8))+(aE ((Int.tmod slot 4) * x2)))))
def tF(slot c:Int):Option Int:=
  (lF slot).bind fun x3=>(if !x3 then wP slot c true else (jE c).bind fun x4=>(if !x4 then wP slot c true else (nA c).bind fun x5=>wP slot c (decide (x5≤(Int.tmod slot 4)))))
def xZ(h:aG)(slot:Int)(x1:Bool):Option Int:=
  (if x1 then some (-1) else (idx h.Class (aE (Int.tdiv slot 4))).bind fun x2=>some x2)
def nB(h:aG)(slot:Int):Option Int:=
  (lF slot).bind fun x3=>(if !x3 then xZ h slot true else (idx h.Class (aE (Int.tdiv slot 4))).bind fun x4=>(tF slot x4).bind fun x5=>xZ h slot (decide (x5 < 0)))
def p8(h:aG)(slot:Int):Option Int:=
  (EL h).bind fun x1=>(if !x1 then some (-1) else (nB h slot).bind fun x2=>some x2)
def zD(h:aG)(slot:Int):Option Int:=
  (p8 h slot).bind fun x1=>(if decide (x1 < 0) then some 0 else (tF slot x1).bind fun x2=>(kY h.Bytes x2 4).bind fun x3=>some x3)
def XL:Option Bool:=
  some true
def uV(x2:Int)(x4:Bool):Option (Step Int (Out Unit Bool)):=
  (if x4 then some (.stop (Out.ret false)) else some (.next (aE (x2+1))))
def lP(h:aG)(s:aH)(c:Int):Int→Option (Step Int (Out Unit Bool))
  | x2=>(if decide (x2 < (s.aL.length:Int)) then (idx s.aL x2).bind fun x3=>(nB h x3).bind fun x5=>(if x5 != c then uV x2 true else (zD h x3).bind fun x6=>uV x2 (decide (6 < x6))) else some (.stop (Out.brk ())))
def XM:(Out Unit Bool)→Option Bool
  | .brk ()=>XL
  | .ret r=>some r
def wQ(h:aG)(s:aH)(c:Int):Option Bool:=
  (loop (lP h s c) 0).bind (XM)
def aF4:Option Bool:=
  some true
def rU(m:Mem):Int→Option (Step Int (Out Unit Bool))
  | x5=>(if decide (x5 < (m.aA.bQ.length:Int)) then (idx m.aA.bQ x5).bind fun x6=>(wQ m.aG x6 (Int.tmod x5 3)).bind fun x7=>(if !x7 then some (.stop (Out.ret false)) else some (.next (aE (x5+1)))) else some (.stop (Out.brk ())))
def aF5:(Out Unit Bool)→Option Bool
  | .brk ()=>aF4
  | .ret r=>some r
def TF(m:Mem):Option Bool:=
  (loop (rU m) 0).bind (aF5)
def rV(m:Mem):Int→Option (Step Int (Out Unit Bool))
  | x3=>(if decide (x3 < (m.aA.Global.length:Int)) then (idx m.aA.Global x3).bind fun x8=>(wQ m.aG x8 x3).bind fun x9=>(if !x9 then some (.stop (Out.ret false)) else some (.next (aE (x3+1)))) else some (.stop (Out.brk ())))
def TG(m:Mem):(Out Unit Bool)→Option Bool
  | .brk ()=>TF m
  | .ret r=>some r
def DQ(m:Mem)(x1:Bool):Option Bool:=
  (if x1 then some false else (loop (rV m) 0).bind (TG m))
def II(m:Mem):Option Bool:=
  (EN m.aG).bind fun x10=>(if !x10 then DQ m true else (jD m.aA).bind fun x11=>DQ m (!x11))
def A0(x5:Int):Option Int:=
  some x5
def iJ(l:List aO):(Int×Int)→Option (Step (Int×Int) Int)
  | (x3,x4)=>(if decide (x4 < (l.length:Int)) then (idx l x4).bind fun x6=>some (.next (aE (x3+(x6.Rows.length:Int)),aE (x4+1))) else some (.stop (x3)))
def VO:Int→Option Int
  | x5=>A0 x5
def tG(l:List aO):Option Int:=
  (loop (iJ l) (0,0)).bind (VO)
def lQ(x1:Bool):Option Bool:=
  some x1
def fZ(h:Int):Option Bool:=
  (cD h 32 223).bind fun x2=>(if x2 then lQ (decide ((Int.tmod h 32) < 24)) else lQ false)
def yA(l:List aO):Option Bool:=
  (tG l).bind fun x5=>some (decide (x5≤24))
def yC(x3:Int)(x11:List Bool):Option (Step (Int×(List Bool)) (Out Unit Bool)):=
  some (.next (aE (x3+1),x11))
def iS(x9:Int)(x10:List Bool)(x12:bM)(x13:Bool):Option (Step (Int×(List Bool)) (Out (List Bool) Bool)):=
  (if x13 then some (.stop (Out.ret false)) else need (0≤(Int.tmod x12.Handle 32:Int)∧(Int.tmod x12.Handle 32:Int) < 24) ((idx (x10:List Bool) (Int.tmod x12.Handle 32)).bind fun x14=>some (.next (aE (x9+1),x10.set ((Int.tmod x12.Handle 32).toNat) true))))
def kH(x6:aO):(Int×(List Bool))→Option (Step (Int×(List Bool)) (Out (List Bool) Bool))
  | (x9,x10)=>(if decide (x9 < (x6.Rows.length:Int)) then (idx x6.Rows x9).bind fun x12=>(fZ x12.Handle).bind fun x15=>(if !x15 then iS x9 x10 x12 true else (cD x12.aM 0 100000).bind fun x16=>(if !x16 then iS x9 x10 x12 true else need (0≤(Int.tmod x12.Handle 32:Int)∧(Int.tmod x12.Handle 32:Int) < 24) ((idx (x10:List Bool) (Int.tmod x12.Handle 32)).bind fun x17=>iS x9 x10 x12 x17))) else some (.stop (Out.brk x10)))
def PI(x3:Int):(Out (List Bool) Bool)→Option (Step (Int×(List Bool)) (Out Unit Bool))
  | .brk x11=>yC x3 x11
  | .ret r=>some (.stop (Out.ret r))
def kI(l:List aO):(Int×(List Bool))→Option (Step (Int×(List Bool)) (Out Unit Bool))
  | (x3,x4)=>(if decide (x3 < (l.length:Int)) then (idx l x3).bind fun x6=>(loop (kH x6) (0,x4)).bind (PI x3) else some (.stop (Out.brk ())))
def PJ(l:List aO):(Out Unit Bool)→Option Bool
  | .brk ()=>yA l
  | .ret r=>some r
def kZ(l:List aO):Option Bool:=
  (if (l.length:Int) != 3 then some false else (loop (kI l) (0,[false,false,false,false,false,false,false,false,false,false,false,false,false,false,false,false,false,false,false,false,false,false,false,false])).bind (PJ l))
def tH(x1:Bool):Option Bool:=
  some x1
def pS(h:Int):Option Bool:=
  (if h == 0 then tH true else (fZ h).bind fun x2=>tH x2)
def GN(h:Int):Option Bool:=
  (pS h).bind fun x1=>some (!x1)
def DR(x1:Bool):Option Bool:=
  some x1
def C1(z:List Int):Option Bool:=
  (if (z.length:Int) == 3 then (dT z (fun y0=>GN y0)).bind fun x2=>DR (!x2) else DR false)
def vR:Option Int:=
  some (-1)
def iY(s:List aO)(f:(aO→Option Bool)):Int→Option (Step Int (Out Unit Int))
  | x2=>(if decide (x2 < (s.length:Int)) then (idx s x2).bind fun x3=>(f x3).bind fun x4=>(if x4 then some (.stop (Out.ret x2)) else some (.next (aE (x2+1)))) else some (.stop (Out.brk ())))
def mI:(Out Unit Int)→Option Int
  | .brk ()=>vR
  | .ret r=>some r
def qA(s:List aO)(f:(aO→Option Bool)):Option Int:=
  (loop (iY s f) 0).bind (mI)
def gD(s:List aO)(f:(aO→Option Bool)):Option Bool:=
  (qA s f).bind fun x1=>some (decide (0≤x1))
def wR:Option Int:=
  some (-1)
def jF(s:List bM)(f:(bM→Option Bool)):Int→Option (Step Int (Out Unit Int))
  | x2=>(if decide (x2 < (s.length:Int)) then (idx s x2).bind fun x3=>(f x3).bind fun x4=>(if x4 then some (.stop (Out.ret x2)) else some (.next (aE (x2+1)))) else some (.stop (Out.brk ())))
def nM:(Out Unit Int)→Option Int
  | .brk ()=>wR
  | .ret r=>some r
def rZ(s:List bM)(f:(bM→Option Bool)):Option Int:=
  (loop (jF s f) 0).bind (nM)
def gT(s:List bM)(f:(bM→Option Bool)):Option Bool:=
  (rZ s f).bind fun x1=>some (decide (0≤x1))
def FH:Option Int:=
  some (-1)
def dY(s:List Int)(v:Int):Int→Option (Step Int (Out Unit Int))
  | x2=>(if decide (x2 < (s.length:Int)) then (idx s x2).bind fun x3=>(if v == x3 then some (.stop (Out.ret x2)) else some (.next (aE (x2+1)))) else some (.stop (Out.brk ())))
def nU:(Out Unit Int)→Option Int
  | .brk ()=>FH
  | .ret r=>some r
def lR(s:List Int)(v:Int):Option Int:=
  (loop (dY s v) 0).bind (nU)
def nV(s:List Int)(v:Int):Option Bool:=
  (lR s v).bind fun x1=>some (decide (0≤x1))
def nN(s:aH)(k0:Int):Option Bool:=
  (nV s.aL k0).bind fun x1=>some x1
def vS:Option Int:=
  some (-1)
def iZ(s:List aH)(f:(aH→Option Bool)):Int→Option (Step Int (Out Unit Int))
  | x2=>(if decide (x2 < (s.length:Int)) then (idx s x2).bind fun x3=>(f x3).bind fun x4=>(if x4 then some (.stop (Out.ret x2)) else some (.next (aE (x2+1)))) else some (.stop (Out.brk ())))
def mJ:(Out Unit Int)→Option Int
  | .brk ()=>vS
  | .ret r=>some r
def qB(s:List aH)(f:(aH→Option Bool)):Option Int:=
  (loop (iZ s f) 0).bind (mJ)
def gE(s:List aH)(f:(aH→Option Bool)):Option Bool:=
  (qB s f).bind fun x1=>some (decide (0≤x1))
def A1(x1:Bool):Option Bool:=
  some x1
def EO(l:aA)(slot:Int):Option Bool:=
  (gE l.Global (fun y0=>nN y0 slot)).bind fun x2=>(if x2 then A1 true else (gE l.bQ (fun y0=>nN y0 slot)).bind fun x3=>A1 x3)
def GO(m:Mem)(slot:Int):Option Int:=
  (nB m.aG slot).bind fun x1=>(if decide (x1 < 0) then some 0 else (EO m.aA slot).bind fun x2=>(if x2 then some 1 else (zD m.aG slot).bind fun x3=>(if decide (6 < x3) then some 2 else some 3)))
def tI(x1:Bool):Option Bool:=
  some x1
def zY(m:Mem)(h:Int):Option Bool:=
  (fZ h).bind fun x2=>(if x2 then (GO m (Int.tmod h 32)).bind fun x3=>(if x3 == 3 then (zD m.aG (Int.tmod h 32)).bind fun x4=>tI (x4 == (aE (Int.tdiv h 32))) else tI false) else tI false)
def qC(x1:Bool):Option Bool:=
  some x1
def yD(r_:bM)(k0:aD):Option Bool:=
  (zY k0.Mem r_.Handle).bind fun x2=>(if !x2 then qC true else qC (decide (k0.aJ.aM < r_.aM)))
def DS(l:aO)(k0:aD):Option Bool:=
  (gT l.Rows (fun y0=>yD y0 k0)).bind fun x1=>some x1
def o6(b:aD)(x1:Bool):Option Bool:=
  (if x1 then some false else (gD b.aX (fun y0=>DS y0 b)).bind fun x2=>some (!x2))
def KJ(b:aD):Option Bool:=
  (II b.Mem).bind fun x3=>(if !x3 then o6 b true else (m9 b.aJ).bind fun x4=>(if !x4 then o6 b true else (kZ b.aX).bind fun x5=>(if !x5 then o6 b true else (C1 b.jQ).bind fun x6=>o6 b (!x6))))
def A2:Option Int:=
  some (-1)
def k9(s:List dP)(f:(dP→Option Bool)):Int→Option (Step Int (Out Unit Int))
  | x2=>(if decide (x2 < (s.length:Int)) then (idx s x2).bind fun x3=>(f x3).bind fun x4=>(if x4 then some (.stop (Out.ret x2)) else some (.next (aE (x2+1)))) else some (.stop (Out.brk ())))
def qD:(Out Unit Int)→Option Int
  | .brk ()=>A2
  | .ret r=>some r
def vX(s:List dP)(f:(dP→Option Bool)):Option Int:=
  (loop (k9 s f) 0).bind (qD)
def lA(s:List dP)(f:(dP→Option Bool)):Option Bool:=
  (vX s f).bind fun x1=>some (decide (0≤x1))
def GP(x4:Bool):Option Bool:=
  some x4
def GQ(x7:Bool):Option Bool:=
  some x7
def A3(o_:dP)(x3:Bool):Option Bool:=
  (if x3 then some false else (if o_.Kind == 1 then (cD o_.dQ 0 100).bind fun x5=>(if x5 then (cD o_.dN 0 65535).bind fun x6=>GP x6 else GP false) else (if o_.dQ == 0 then GQ (o_.dN == 0) else GQ false)))
def nC(o_:dP)(x1:Bool):Option Bool:=
  (cD o_.Kind 1 7).bind fun x2=>(if !x2 then some false else (if x1 then (cD o_.Cell 0 1).bind fun x8=>(if !x8 then A3 o_ true else A3 o_ false) else A3 o_ (o_.Cell != 0)))
def HO(o_:dP):Option Bool:=
  (if o_.Kind == 1 then nC o_ true else (if o_.Kind == 2 then nC o_ true else (if o_.Kind == 3 then nC o_ true else nC o_ (o_.Kind == 7))))
def yE(o_:dP):Option Bool:=
  (HO o_).bind fun x1=>some (!x1)
def uW(x1:Bool):Option Bool:=
  some x1
def DT(q:Queue):Option Bool:=
  (if decide (12 < (q.eZ.length:Int)) then uW true else (lA q.eZ (fun y0=>yE y0)).bind fun x2=>uW x2)
def A4(x1:Bool):Option Bool:=
  some x1
def KK(todo:List Queue):Option Bool:=
  (if (todo.length:Int) == 3 then (gC todo (fun y0=>DT y0)).bind fun x2=>A4 (!x2) else A4 false)
def tJ(h:Int):Option Bool:=
  (pS h).bind fun x1=>some (!x1)
def wS(x1:Bool):Option Bool:=
  some x1
def OA(j:bW):Option Bool:=
  (if !j.fP then some (decide (j=(⟨false,(⟨0,0,0,0⟩:dP),0,0,(⟨0,0,0,0,0,0,0,0,0,false⟩:Sub),0,0,0,0⟩:bW))) else (HO j.Op).bind fun x2=>(if x2 then (pS j.H).bind fun x3=>(if x3 then (pS j.Old).bind fun x4=>wS x4 else wS false) else wS false))
def A5(j:bW):Option Bool:=
  (OA j).bind fun x1=>some (!x1)
def g7(x1:Bool):Option Bool:=
  some x1
def uX(s:aC):Option Bool:=
  (KJ s.aD).bind fun x2=>(if x2 then (if (s.Cells.length:Int) == 2 then (if (s.aW.length:Int) == 3 then (KK s.cG).bind fun x3=>(if x3 then (cD s.aR 0 1000000).bind fun x4=>(if x4 then (dT s.Cells (fun y0=>tJ y0)).bind fun x5=>(if !x5 then (hY s.aW (fun y0=>A5 y0)).bind fun x6=>g7 (!x6) else g7 false) else g7 false) else g7 false) else g7 false) else g7 false) else g7 false)
def PK(x y:Int):Option (Int×Int):=
  some (IntKind.u64.wrap ((IntKind.u64.wrap ((IntKind.u64.wrap ((HQ .u64 x 32) * (HQ .u64 y 32)))+(HQ .u64 (IntKind.u64.wrap ((IntKind.u64.wrap ((HQ .u64 x 32) * (oG .and .u64 y 4294967295)))+(HQ .u64 (IntKind.u64.wrap ((oG .and .u64 x 4294967295) * (oG .and .u64 y 4294967295))) 32))) 32)))+(HQ .u64 (IntKind.u64.wrap ((oG .and .u64 (IntKind.u64.wrap ((IntKind.u64.wrap ((HQ .u64 x 32) * (oG .and .u64 y 4294967295)))+(HQ .u64 (IntKind.u64.wrap ((oG .and .u64 x 4294967295) * (oG .and .u64 y 4294967295))) 32))) 4294967295)+(IntKind.u64.wrap ((oG .and .u64 x 4294967295) * (HQ .u64 y 32))))) 32)),IntKind.u64.wrap (x * y))
def DU(x y:Int):Option (Int×Int):=
  (PK x y).bind fun x1=>some (x1.1,x1.2)
def SS(x7:List dP):Option (List dP):=
  some x7
def kP:((List dP)×Int)→Option (Step ((List dP)×Int) (List dP))
  | (x5,x6)=>(if decide (x6 < (x5.length:Int)) then need (0≤(x6:Int)∧(x6:Int)≤(x5.length:Int)) (need (0≤(x6:Int)∧(x6:Int)≤(x5.length:Int)) (some (.next (cT x5 x6.toNat ((x5.take x6.toNat).drop 0),aE (x6+((min ((x5.take x6.toNat).drop 0).length (x5.length - x6.toNat):Nat):Int)))))) else some (.stop (x5)))
def SU:(List dP)→Option (List dP)
  | x7=>SS x7
def nW(x:List dP)(x1:Int×Int)(x2:Bool):Option (List dP):=
  (if x2 then none else need (0≤(IntKind.i64.wrap x1.2:Int)∧(IntKind.i64.wrap x1.2:Int)≤4294967296) ((loop (kP) (cT (List.replicate ((IntKind.i64.wrap x1.2).toNat) (⟨0,0,0,0⟩:dP)) 0 x,((min x.length ((List.replicate ((IntKind.i64.wrap x1.2).toNat) (⟨0,0,0,0⟩:dP):List dP).length - 0):Nat):Int))).bind (SU)))
def uY(x:List dP)(count:Int):Option (List dP):=
  (if decide (count < 0) then none else (DU (IntKind.u64.wrap (x.length:Int)) (IntKind.u64.wrap count)).bind fun x1=>(if decide (0 < x1.1) then nW x x1 true else nW x x1 (decide (9223372036854775807 < x1.2))))
def IJ(x8:aC):Option aC:=
  some x8
def zE(x6:Int)(x9:aC):Option (Step (Int×aC) aC):=
  some (.next (aE (x6+1),x9))
def l4(n:Int)(x3:aC):(Int×aC)→Option (Step (Int×aC) aC)
  | (x6,x7)=>(if decide (x6 < (x3.cG.length:Int)) then (idx x7.cG x6).bind fun x10=>(uY ([(⟨4,0,0,0⟩:dP)]) n).bind fun x11=>need (x10.eZ.length+x11.length≤1073741824)<|zE x6 ({x7 with cG:=x7.cG.set x6.toNat (⟨x10.eZ++x11⟩:Queue)}:aC) else some (.stop (x7)))
def IK:aC→Option aC
  | x8=>IJ x8
def l5(n:Int)(x2:Bool)(x3:aC):Option aC:=
  (if x2 then some x3 else (loop (l4 n x3) (0,x3)).bind (IK))
def yF(s:aC)(n:Int):Option aC:=
  (tA s).bind fun x1=>(uX s).bind fun x12=>(if !x12 then l5 n true x1 else (MS s).bind fun x13=>(if !x13 then l5 n true x1 else (cD n 0 12).bind fun x14=>l5 n (!x14) x1))
def iT(kind a_:Int):Option Sub:=
  some (⟨kind,a_,0,0,0,0,0,0,0,false⟩:Sub)
def dC(s:aC)(kind w_ handle val code:Int)(x1:bW):Option aC:=
  some ({s with Log:=s.Log++([(⟨kind,w_,x1.aR,x1.Op.Cell,handle,val,code⟩:Ev)])}:aC)
def cR(s:aC)(kind w_ handle val code:Int):Option aC:=
  (idx s.aW w_).bind fun x1=>need (s.Log.length+([(⟨kind,w_,x1.aR,x1.Op.Cell,handle,val,code⟩:Ev)]).length≤1073741824)<|dC s kind w_ handle val code x1
def uZ(s:List dP)(i j:Int):Option (List dP):=
  need (0≤(i:Int)∧(i:Int)≤(j:Int)∧(j:Int)≤((s.length:Int):Int)∧((s.length:Int):Int)≤(s.length:Int)) ((if i == j then some s else need (0≤(i:Int)∧(i:Int)≤(s.length:Int)) (need (0≤(j:Int)∧(j:Int)≤(s.length:Int)) (need (i.toNat≤j.toNat) (need (0≤(((((cT s i.toNat (s.drop j.toNat)).take (i.toNat+(s.length - j.toNat))).drop 0).length:Int):Int)∧(((((cT s i.toNat (s.drop j.toNat)).take (i.toNat+(s.length - j.toNat))).drop 0).length:Int):Int)≤((s.length:Int):Int)∧((s.length:Int):Int)≤((cT s i.toNat (s.drop j.toNat)).length:Int)) (some (((cT s i.toNat (s.drop j.toNat)).take (i.toNat+(s.length - j.toNat))).drop 0)))))))
def bJ(j:bW)(code:Int):Option bW:=
  some ({j with Pc:=9,Code:=code}:bW)
def dK(s:aC)(w_:Int)(x4:(List dP))(x5:bW):Option aC:=
  (idx s.aW w_).bind fun x6=>(cR ({s with aW:=s.aW.set w_.toNat x5,cG:=s.cG.set w_.toNat (⟨x4⟩:Queue),aR:=aE (s.aR+1)}:aC) 1 w_ 0 0 0).bind fun x7=>some x7
def iO(s:aC)(w_:Int)(x3:dP)(x4:(List dP))(x9:Bool):Option aC:=
  (if x9 then (iT 5 0).bind fun x10=>(idx s.aD.aJ.bD w_).bind fun x11=>(if x11.On then (bJ (⟨true,x3,aE (s.aR+1),0,x10,0,0,0,0⟩:bW) 1).bind fun x12=>dK s w_ x4 x12 else dK s w_ x4 (⟨true,x3,aE (s.aR+1),0,x10,0,0,0,0⟩:bW)) else (if x3.Kind == 4 then (iT 3 0).bind fun x13=>dK s w_ x4 (⟨true,x3,aE (s.aR+1),0,x13,0,0,0,0⟩:bW) else dK s w_ x4 (⟨true,x3,aE (s.aR+1),0,(⟨0,0,0,0,0,0,0,0,0,false⟩:Sub),0,0,0,0⟩:bW)))
def nX(s:aC)(w_:Int)(x1:Bool):Option aC:=
  (if x1 then some s else (idx s.cG w_).bind fun x2=>(idx x2.eZ 0).bind fun x3=>(uZ x2.eZ 0 1).bind fun x4=>(if x3.Kind == 1 then (iT 1 x3.dQ).bind fun x8=>dK s w_ x4 (⟨true,x3,aE (s.aR+1),0,x8,0,0,0,0⟩:bW) else (if x3.Kind == 2 then iO s w_ x3 x4 true else iO s w_ x3 x4 (x3.Kind == 5))))
def vA(s:aC)(w_:Int):Option aC:=
  (idx s.cG w_).bind fun x14=>(if (x14.eZ.length:Int) == 0 then nX s w_ true else nX s w_ (s.aR == 1000000))
def bC(s:Sub)(code:Int):Option Sub:=
  some ({s with Code:=code,cJ:=true}:Sub)
def Z0:Option Int:=
  some (-1)
def yG(x2:Int)(x3:Bool):Option (Step Int (Out Unit Int)):=
  (if x3 then some (.stop (Out.ret x2)) else some (.next (aE (x2+1))))
def iU(size:Int):Int→Option (Step Int (Out Unit Int))
  | x2=>(if decide (x2 < 3) then (if decide (1≤size) then (zX x2).bind fun x4=>yG x2 (decide (size≤x4)) else yG x2 false) else some (.stop (Out.brk ())))
def Z1:(Out Unit Int)→Option Int
  | .brk ()=>Z0
  | .ret r=>some r
def GR(size:Int):Option Int:=
  (loop (iU size) 0).bind (Z1)
def fD(w_:Int):Option Bool:=
  (cD w_ 0 2).bind fun x1=>some x1
def DV(w_ c:Int)(x1:Bool):Option Int:=
  (if x1 then some (-1) else some (aE ((aE (w_ * 3))+c)))
def IL(w_ c:Int):Option Int:=
  (fD w_).bind fun x2=>(if !x2 then DV w_ c true else (jE c).bind fun x3=>DV w_ c (!x3))
def tK(s:aH):Option (Int×aH):=
  (if decide ((aE ((s.aL.length:Int) - 1)) < 0) then some ((-1),s) else (idx s.aL (aE ((s.aL.length:Int) - 1))).bind fun x1=>need (0≤(aE ((s.aL.length:Int) - 1):Int)∧(aE ((s.aL.length:Int) - 1):Int)≤(aE ((s.aL.length:Int) - 1):Int)∧(aE ((s.aL.length:Int) - 1):Int)≤(s.aL.length:Int)) (some (x1,(⟨(s.aL.take ((aE ((s.aL.length:Int) - 1)).toNat)).drop 0⟩:aH))))
def yH(x1:aA)(x2:Int)(x3:Bool):Option (aA×Int):=
  (if x3 then some (x1,(-1)) else (idx x1.bQ x2).bind fun x4=>(tK x4).bind fun x5=>some ((⟨x1.Global,x1.bQ.set x2.toNat x5.2⟩:aA),x5.1))
def GS(l:aA)(w_ c:Int):Option (aA×Int):=
  (gR l).bind fun x1=>(IL w_ c).bind fun x2=>(jD l).bind fun x6=>(if !x6 then yH x1 x2 true else yH x1 x2 (decide (x2 < 0)))
def qE(c:Int)(x1:aA)(x2:Bool):Option (aA×Int):=
  (if x2 then some (x1,(-1)) else (idx x1.Global c).bind fun x3=>(tK x3).bind fun x4=>some ((⟨x1.Global.set c.toNat x4.2,x1.bQ⟩:aA),x4.1))
def yI(l:aA)(c:Int):Option (aA×Int):=
  (gR l).bind fun x1=>(jD l).bind fun x5=>(if !x5 then qE c x1 true else (jE c).bind fun x6=>qE c x1 (!x6))
def jG(width:Int):Option Bool:=
  (cD width 1 7).bind fun x1=>some x1
def aF6(x8:List UInt8):Option (List UInt8):=
  some x8
def DW:(Int×(List UInt8)×Int)→Option (Step (Int×(List UInt8)×Int) (List UInt8))
  | (x5,x6,x7)=>(if decide (0≤x7) then (idx x6 x7).bind fun x9=>some (.next (HQ .i64 x5 8,x6.set x7.toNat (u8 x5),aE (x7 - 1))) else some (.stop (x6)))
def aF7:(List UInt8)→Option (List UInt8)
  | x8=>aF6 x8
def wT(n width:Int)(x1:Bool):Option (List UInt8):=
  (if x1 then some ([]) else need (0≤(width:Int)∧(width:Int)≤4294967296) ((loop (DW) (n,List.replicate (width.toNat) 0,aE (width - 1))).bind (aF7)))
def zF(n width:Int):Option (List UInt8):=
  (jG width).bind fun x10=>(if !x10 then wT n width true else (if decide (n < 0) then wT n width true else need (0≤(IntKind.u64.wrap (aE (8 * width)):Int)) (wT n width (decide ((aHO .i64 1 (IntKind.u64.wrap (aE (8 * width))))≤n)))))
def Q7(b x5:List Int):Option (List Int):=
  need (x5.length=b.length) (some x5)
def A6(b:List Int)(at_:Int)(text:List UInt8):((List Int)×Int)→Option (Step ((List Int)×Int) (List Int))
  | (x3,x4)=>need (x3.length=b.length) ((if decide (x4 < (text.length:Int)) then (idx text x4).bind fun x6=>(idx x3 (aE (at_+x4))).bind fun x7=>some (.next (x3.set ((aE (at_+x4)).toNat) (x6.toNat:Int),aE (x4+1))) else some (.stop (x3))))
def Q8(b:List Int):(List Int)→Option (List Int)
  | x5=>Q7 b x5
def tL(b:List Int)(at_:Int)(text:List UInt8):Option (List Int):=
  (loop (A6 b at_ text) (b,0)).bind (Q8 b)
def A7(page index:Int)(x1:Bool):Option Int:=
  (if x1 then some (-1) else some (aE ((aE (page * 4))+index)))
def KL(page index:Int):Option Int:=
  (cD page 0 5).bind fun x2=>(if !x2 then A7 page index true else (cD index 0 3).bind fun x3=>A7 page index (!x3))
def aF8(c:Int)(x1:aG)(x2:Int)(x13 x14:List Int):Option (aG×(List Int)):=
  some ((⟨x14,x1.Class.set x2.toNat c⟩:aG),x13)
def LB(x10:List Int)(x11 x15:Int)(x16:List Int):Option (Step ((List Int)×Int×(List Int)) ((List Int)×(List Int))):=
  need (x10.length+([x15]).length≤1073741824) (some (.next (x10++([x15]),aE (x11+1),x16)))
def DX(c x2 x6:Int):((List Int)×Int×(List Int))→Option (Step ((List Int)×Int×(List Int)) ((List Int)×(List Int)))
  | (x10,x11,x12)=>(if decide (x11 < x6) then (KL x2 x11).bind fun x15=>(tF x15 c).bind fun x17=>(zF 1 4).bind fun x18=>(tL x12 x17 x18).bind fun x19=>LB x10 x11 x15 x19 else some (.stop ((x10,x12))))
def aF9(c:Int)(x1:aG)(x2:Int):((List Int)×(List Int))→Option (aG×(List Int))
  | (x13,x14)=>aF8 c x1 x2 x13 x14
def LC(c:Int)(x1:aG)(x2:Int)(x5:List Int):Option (aG×(List Int)):=
  (nA c).bind fun x6=>(loop (DX c x2 x6) (([]:List Int),0,x5)).bind (aF9 c x1 x2)
def wU(c:Int)(x1:aG)(x2:Int)(x3:Bool):Option (aG×(List Int)):=
  (if x3 then some (x1,([]:List Int)) else (idx x1.Class x2).bind fun x4=>need (0≤(aE (x2 * 64):Int)∧(aE (x2 * 64):Int)≤(x1.Bytes.length:Int))<|(nA c).bind fun x20=>LC c x1 x2 (cT x1.Bytes ((aE (x2 * 64)).toNat) ([171,c,x20]:List Int)))
def C2(h:aG)(c:Int):Option (aG×(List Int)):=
  (rS h).bind fun x1=>(lR h.Class (-1)).bind fun x2=>(EN h).bind fun x21=>(if !x21 then wU c x1 x2 true else (jE c).bind fun x22=>(if !x22 then wU c x1 x2 true else wU c x1 x2 (decide (x2 < 0))))
def E8(x4:Int)(x5:Mem):Option (Mem×Int):=
  some (x5,x4)
def E9(c:Int)(x1:aG×(List Int))(x2:Mem):Option (Mem×Int):=
  (if (x1.2.length:Int) == 0 then some (x2,(-1)) else (idx x2.aA.Global c).bind fun x3=>need (0≤(1:Int)∧(1:Int)≤(x1.2.length:Int)) (need (x3.aL.length+((x1.2.take x1.2.length).drop ((1:Int).toNat)).length≤1073741824) ((idx x1.2 0).bind fun x6=>E8 x6 (⟨x2.aG,(⟨x2.aA.Global.set c.toNat (⟨x3.aL++((x1.2.take x1.2.length).drop ((1:Int).toNat))⟩:aH),x2.aA.bQ⟩:aA)⟩:Mem))))
def GU(m:Mem)(c:Int):Option (Mem×Int):=
  (C2 m.aG c).bind fun x1=>(gR m.aA).bind fun x7=>E9 c x1 (⟨x1.1,x7⟩:Mem)
def vB(slot gen:Int)(x1:Bool):Option Int:=
  (if x1 then some 0 else some (aE ((aE (gen * 32))+slot)))
def LD(slot gen:Int):Option Int:=
  (lF slot).bind fun x2=>(if !x2 then vB slot gen true else (cD gen 1 6).bind fun x3=>vB slot gen (!x3))
def DY(m:Mem)(slot:Int):Option Int:=
  (zD m.aG slot).bind fun x1=>(LD slot x1).bind fun x2=>some x2
def gP(s:Sub)(x3:Int)(x4:aD):Option (Sub×aD):=
  (if decide (0≤x3) then (DY x4.Mem x3).bind fun x5=>(bC ({s with Out:=x5}:Sub) 0).bind fun x6=>some (x6,x4) else (if s.Pc == 3 then (bC s 3).bind fun x7=>some (x7,x4) else some (({s with Pc:=aE (s.Pc+1)}:Sub),x4)))
def mE(s:Sub)(b:aD)(x1:Int)(x9:Bool):Option (Sub×aD):=
  (if x9 then (yI b.Mem.aA x1).bind fun x10=>gP s x10.2 ({b with Mem:=(⟨b.Mem.aG,x10.1⟩:Mem)}:aD) else (if s.Pc == 2 then (GU b.Mem x1).bind fun x11=>gP s x11.2 ({b with Mem:=x11.1}:aD) else (bC s 1).bind fun x12=>some (x12,b)))
def qF(s:Sub)(b:aD)(w_:Int):Option (Sub×aD):=
  (GR s.A).bind fun x1=>(if decide (x1 < 0) then (bC s 2).bind fun x2=>some (x2,b) else (if s.Pc == 0 then (GS b.Mem.aA w_ x1).bind fun x8=>gP s x8.2 ({b with Mem:=(⟨b.Mem.aG,x8.1⟩:Mem)}:aD) else (if s.Pc == 1 then mE s b x1 true else mE s b x1 (s.Pc == 3))))
def nY(x1:Bool):Option Bool:=
  some x1
def o7(r_:bM)(k0:Int):Option Bool:=
  (fZ r_.Handle).bind fun x2=>(if x2 then nY ((Int.tmod r_.Handle 32) == k0) else nY false)
def A8(own:aO)(k0:Int):Option Bool:=
  (gT own.Rows (fun y0=>o7 y0 k0)).bind fun x1=>some x1
def GV(l:List aO)(slot:Int):Option Bool:=
  (gD l (fun y0=>A8 y0 slot)).bind fun x1=>some x1
def vC(l:List aO)(w_ h e_:Int)(x1:Bool):Option ((List aO)×Bool):=
  (if x1 then (jN l).bind fun x2=>some (x2,false) else (jN l).bind fun x3=>(idx x3 w_).bind fun x4=>need (x4.Rows.length+([(⟨h,e_⟩:bM)]).length≤1073741824) ((kZ (x3.set w_.toNat (⟨x4.Rows++([(⟨h,e_⟩:bM)])⟩:aO))).bind fun x5=>(if !x5 then (jN l).bind fun x6=>some (x6,false) else some (x3.set w_.toNat (⟨x4.Rows++([(⟨h,e_⟩:bM)])⟩:aO),true))))
def DZ(l:List aO)(w_ h e_:Int):Option ((List aO)×Bool):=
  (kZ l).bind fun x7=>(if !x7 then vC l w_ h e_ true else (fD w_).bind fun x8=>vC l w_ h e_ (!x8))
def lB(s:Sub)(b:aD)(w_:Int)(x3:Bool):Option (Sub×aD):=
  (if x3 then (bC s 4).bind fun x4=>some (x4,b) else (DZ b.aX w_ s.A s.E).bind fun x5=>(bC s 0).bind fun x6=>some (x6,({b with aX:=x5.1}:aD)))
def lC(s:Sub)(b:aD)(w_:Int)(x1:Bool):Option (Sub×aD):=
  (if x1 then (bC s 1).bind fun x2=>some (x2,b) else (zY b.Mem s.A).bind fun x7=>(if !x7 then lB s b w_ true else (GV b.aX (Int.tmod s.A 32)).bind fun x8=>lB s b w_ x8))
def nZ(s:Sub)(b:aD)(w_:Int):Option (Sub×aD):=
  (if s.Pc == 0 then some (({s with Pc:=1,E:=b.aJ.aM}:Sub),b) else (if s.Pc != 1 then lC s b w_ true else (cD s.E 0 b.aJ.aM).bind fun x9=>lC s b w_ (!x9)))
def o8(w_:Int)(x1:aJ)(x4:Bool):Option (aJ×Bool):=
  (if x4 then some (x1,true) else (idx x1.bD w_).bind fun x5=>(if decide (x5.Seen < 2) then some ((⟨x1.aM,x1.bD.set w_.toNat ({x5 with Seen:=aE (x5.Seen+1)}:fO)⟩:aJ),false) else some ((⟨x1.aM,x1.bD.set w_.toNat ({x5 with eI:=true,Seen:=0}:fO)⟩:aJ),true)))
def A9(w_ e_:Int)(x1:aJ)(x2:Bool):Option (aJ×Bool):=
  (if x2 then some (x1,false) else (idx x1.bD w_).bind fun x3=>(if !x3.On then o8 w_ x1 true else (if x3.eI then o8 w_ x1 true else o8 w_ x1 (x3.aM == e_))))
def KM(c:aJ)(w_ e_:Int):Option (aJ×Bool):=
  (jM c).bind fun x1=>(m9 c).bind fun x6=>(if !x6 then A9 w_ e_ x1 true else (fD w_).bind fun x7=>A9 w_ e_ x1 (!x7))
def BA(x1:aJ)(x2:Bool):Option (aJ×Bool):=
  (if x2 then some (x1,false) else some ((⟨aE (x1.aM+1),x1.bD⟩:aJ),true))
def SM(c:aJ)(e_:Int):Option (aJ×Bool):=
  (jM c).bind fun x1=>(m9 c).bind fun x3=>(if !x3 then BA x1 true else (if c.aM != e_ then BA x1 true else BA x1 (c.aM == 100000)))
def jZ(s:Sub)(b:aD)(x4:aJ×Bool)(x5:Int):Option (Sub×aD):=
  (bC ({s with Out:=x5}:Sub) 0).bind fun x6=>some (x6,({b with aJ:=x4.1}:aD))
def j4(s:Sub)(b:aD)(x1:Bool):Option (Sub×aD):=
  (if x1 then (KM b.aJ s.B s.E).bind fun x2=>(if !x2.2 then (bC s 8).bind fun x3=>some (x3,({b with aJ:=x2.1}:aD)) else (if (aE (s.B+1)) == 3 then some (({s with Pc:=2,B:=aE (s.B+1)}:Sub),({b with aJ:=x2.1}:aD)) else some (({s with B:=aE (s.B+1)}:Sub),({b with aJ:=x2.1}:aD)))) else (if s.Pc == 2 then (SM b.aJ s.E).bind fun x4=>(if x4.2 then jZ s b x4 1 else jZ s b x4 s.Out) else (bC s 1).bind fun x7=>some (x7,b)))
def nD(s:Sub)(b:aD):Option (Sub×aD):=
  (if s.Pc == 0 then some (({s with Pc:=1,E:=b.aJ.aM,B:=0}:Sub),b) else (if s.Pc == 1 then (fD s.B).bind fun x8=>j4 s b x8 else j4 s b false))
def BC(x1:Bool):Option Bool:=
  some x1
def EP(l:List aO)(w_ i:Int):Option Bool:=
  (fD w_).bind fun x2=>(if x2 then (idx l w_).bind fun x3=>(cD i 0 (aE ((x3.Rows.length:Int) - 1))).bind fun x4=>BC x4 else BC false)
def GW(x1:Bool):Option Bool:=
  some x1
def MU(r_:bM)(e_:Int):Option Bool:=
  (if decide (2≤e_) then GW (decide (r_.aM≤(aE (e_ - 2)))) else GW false)
def ER(s:Sub)(b:aD):Option (Sub×aD):=
  (bC s 0).bind fun x3=>some (x3,b)
def eA(s:Sub)(b:aD)(w_:Int):Int→Option (Step Int (Out Unit (Sub×aD)))
  | x2=>(idx b.aX w_).bind fun x4=>(if decide (x2 < (x4.Rows.length:Int)) then (idx x4.Rows x2).bind fun x5=>(MU x5 s.E).bind fun x6=>(if x6 then some (.stop (Out.ret (({s with Pc:=2,Row:=x2,B:=0,H:=x5.Handle}:Sub),b))) else some (.next (aE (x2+1)))) else some (.stop (Out.brk ())))
def Q9(s:Sub)(b:aD):(Out Unit (Sub×aD))→Option (Sub×aD)
  | .brk ()=>ER s b
  | .ret r=>some r
def nE(s:Sub)(b:aD)(w_:Int):Option (Sub×aD):=
  (loop (eA s b w_) (if s.Row < 0 then 0 else s.Row)).bind (Q9 s b)
def zG(s:List bM)(i j:Int):Option (List bM):=
  need (0≤(i:Int)∧(i:Int)≤(j:Int)∧(j:Int)≤((s.length:Int):Int)∧((s.length:Int):Int)≤(s.length:Int)) ((if i == j then some s else need (0≤(i:Int)∧(i:Int)≤(s.length:Int)) (need (0≤(j:Int)∧(j:Int)≤(s.length:Int)) (need (i.toNat≤j.toNat) (need (0≤(((((cT s i.toNat (s.drop j.toNat)).take (i.toNat+(s.length - j.toNat))).drop 0).length:Int):Int)∧(((((cT s i.toNat (s.drop j.toNat)).take (i.toNat+(s.length - j.toNat))).drop 0).length:Int):Int)≤((s.length:Int):Int)∧((s.length:Int):Int)≤((cT s i.toNat (s.drop j.toNat)).length:Int)) (some (((cT s i.toNat (s.drop j.toNat)).take (i.toNat+(s.length - j.toNat))).drop 0)))))))
def yJ(w_ i:Int)(x1:(List aO))(x2:Bool):Option ((List aO)×Bool):=
  (if x2 then some (x1,false) else (idx x1 w_).bind fun x3=>(zG x3.Rows i (aE (i+1))).bind fun x4=>some (x1.set w_.toNat (⟨x4⟩:aO),true))
def GX(l:List aO)(w_ i:Int):Option ((List aO)×Bool):=
  (jN l).bind fun x1=>(kZ l).bind fun x5=>(if !x5 then yJ w_ i x1 true else (EP l w_ i).bind fun x6=>yJ w_ i x1 (!x6))
def IM(x3 x5:List Int):Option (aG×Bool):=
  some ((⟨x5,x3⟩:aG),true)
def BD(slot gen x1:Int)(x2 x3:List Int)(x4:Bool):Option (aG×Bool):=
  (if x4 then some ((⟨x2,x3⟩:aG),false) else (tF slot x1).bind fun x6=>(zF gen 4).bind fun x7=>(tL x2 x6 x7).bind fun x8=>IM x3 x8)
def IN(slot gen x1:Int)(x2 x3:List Int):Option (aG×Bool):=
  (if decide (x1 < 0) then BD slot gen x1 x2 x3 true else (cD gen 1 7).bind fun x9=>BD slot gen x1 x2 x3 (!x9))
def RB(h:aG)(slot gen:Int):Option (aG×Bool):=
  (rS h).bind fun x10=>(p8 h slot).bind fun x11=>IN slot gen x11 x10.Bytes x10.Class
def vD(c slot:Int)(x1:aA)(x2:Int)(x3:Bool):Option (aA×Bool):=
  (if x3 then some (x1,false) else (idx x1.bQ x2).bind fun x4=>(if decide (2≤(x4.aL.length:Int)) then (idx x1.Global c).bind fun x5=>need (x5.aL.length+([slot]).length≤1073741824) (some ((⟨x1.Global.set c.toNat (⟨x5.aL++([slot])⟩:aH),x1.bQ⟩:aA),true)) else need (x4.aL.length+([slot]).length≤1073741824) (some ((⟨x1.Global,x1.bQ.set x2.toNat (⟨x4.aL++([slot])⟩:aH)⟩:aA),true))))
def XN(l:aA)(w_ c slot:Int):Option (aA×Bool):=
  (gR l).bind fun x1=>(IL w_ c).bind fun x2=>(jD l).bind fun x6=>(if !x6 then vD c slot x1 x2 true else (if decide (x2 < 0) then vD c slot x1 x2 true else (lF slot).bind fun x7=>(if !x7 then vD c slot x1 x2 true else (EO l slot).bind fun x8=>vD c slot x1 x2 x8)))
def LF(x3:Mem):Option Mem:=
  some x3
def LG(m:Mem)(w_ h:Int)(x2:Mem):Option Mem:=
  (if decide ((aE ((aE (Int.tdiv h 32))+1))≤6) then (nB m.aG (Int.tmod h 32)).bind fun x4=>(XN m.aA w_ x4 (Int.tmod h 32)).bind fun x5=>LF (⟨x2.aG,x5.1⟩:Mem) else LF x2)
def OB(m:Mem)(w_ h:Int):Option Mem:=
  (RB m.aG (Int.tmod h 32) (aE ((aE (Int.tdiv h 32))+1))).bind fun x1=>(gR m.aA).bind fun x6=>LG m w_ h (⟨x1.1,x6⟩:Mem)
def cZ(s:Sub)(b:aD)(w_:Int)(x5:Bool):Option (Sub×aD):=
  (if x5 then (GX b.aX w_ s.Row).bind fun x6=>(OB b.Mem w_ s.H).bind fun x7=>some (({s with Pc:=1,Out:=aE (s.Out+1)}:Sub),({b with Mem:=x7,aX:=x6.1}:aD)) else (bC s 1).bind fun x8=>some (x8,b))
def dU(s:Sub)(b:aD)(w_:Int)(x1 x3:Bool):Option (Sub×aD):=
  (if x3 then (idx b.jQ s.B).bind fun x4=>(if x4 == s.H then some (({s with Pc:=1,Row:=aE (s.Row+1)}:Sub),b) else (if (aE (s.B+1)) == 3 then some (({s with Pc:=3,B:=aE (s.B+1)}:Sub),b) else some (({s with B:=aE (s.B+1)}:Sub),b))) else (if s.Pc == 3 then (if x1 then (idx b.aX w_).bind fun x9=>(idx x9.Rows s.Row).bind fun x10=>(MU x10 s.E).bind fun x11=>cZ s b w_ x11 else cZ s b w_ false) else cZ s b w_ false))
def eU(s:Sub)(b:aD)(w_:Int)(x1:Bool):Option (Sub×aD):=
  (if s.Pc == 0 then some (({s with Pc:=1,E:=b.aJ.aM,Row:=0}:Sub),b) else (if s.Pc == 1 then (nE s b w_).bind fun x2=>some (x2.1,x2.2) else (if s.Pc == 2 then (fD s.B).bind fun x12=>(if x12 then dU s b w_ x1 x1 else dU s b w_ x1 false) else dU s b w_ x1 false)))
def nF(s:Sub)(b:aD)(w_:Int):Option (Sub×aD):=
  (EP b.aX w_ s.Row).bind fun x13=>(if x13 then (idx b.aX w_).bind fun x14=>(idx x14.Rows s.Row).bind fun x15=>eU s b w_ (x15.Handle == s.H) else eU s b w_ false)
def wV(w_ e_:Int)(x1:aJ)(x2:Bool):Option (aJ×Bool):=
  (if x2 then some (x1,false) else (idx x1.bD w_).bind fun x3=>some ((⟨x1.aM,x1.bD.set w_.toNat (⟨true,e_,false,0⟩:fO)⟩:aJ),true))
def OC(c:aJ)(w_ e_:Int):Option (aJ×Bool):=
  (jM c).bind fun x1=>(m9 c).bind fun x4=>(if !x4 then wV w_ e_ x1 true else (fD w_).bind fun x5=>(if !x5 then wV w_ e_ x1 true else (cD e_ 0 c.aM).bind fun x6=>wV w_ e_ x1 (!x6)))
def vY(s:Sub)(b:aD)(x1:Bool)(x2:Int)(x3:List fO):Option (Sub×aD):=
  (if !x1 then (bC s 1).bind fun x4=>some (x4,b) else some (({s with Pc:=2}:Sub),({b with aJ:=(⟨x2,x3⟩:aJ)}:aD)))
def vF(s:Sub)(b:aD)(w_:Int):Option (Sub×aD):=
  (if s.Pc == 0 then some (({s with Pc:=1,E:=b.aJ.aM}:Sub),b) else (if s.Pc == 1 then (OC b.aJ w_ s.E).bind fun x5=>vY s b x5.2 x5.1.aM x5.1.bD else (if s.Pc == 2 then (if b.aJ.aM == s.E then (bC s 0).bind fun x6=>some (x6,b) else some (({s with Pc:=0}:Sub),b)) else (bC s 1).bind fun x7=>some (x7,b))))
def jH(s:Sub)(b:aD)(w_:Int):Option (Sub×aD):=
  (if s.cJ then some (s,b) else (if s.Kind == 1 then (qF s b w_).bind fun x1=>some (x1.1,x1.2) else (if s.Kind == 2 then (nZ s b w_).bind fun x2=>some (x2.1,x2.2) else (if s.Kind == 3 then (nD s b).bind fun x3=>some (x3.1,x3.2) else (if s.Kind == 4 then (nF s b w_).bind fun x4=>some (x4.1,x4.2) else (if s.Kind == 5 then (vF s b w_).bind fun x5=>some (x5.1,x5.2) else (bC s 1).bind fun x6=>some (x6,b)))))))
def cY(j:bW)(pc:Int):Option bW:=
  some ({j with Pc:=pc,Code:=0}:bW)
def GY(slot c:Int):Option Int:=
  (tF slot c).bind fun x1=>(if decide (x1 < 0) then some (-1) else some (aE (x1+4)))
def OD(slot c:Int):Option Span:=
  (GY slot c).bind fun x1=>(if decide (x1 < 0) then some (⟨0,0⟩:Span) else (zX c).bind fun x2=>some (⟨x1,aE (x1+x2)⟩:Span))
def vG(h:aG)(slot at_ width:Int):Option Int:=
  (nB h slot).bind fun x1=>(OD slot x1).bind fun x2=>(cD at_ 0 (aE ((aE (x2.To - x2.aT5)) - width))).bind fun x3=>(if !x3 then some (-1) else some (aE (x2.aT5+at_)))
def BE(m:Mem)(h at_ width:Int)(x1:Bool):Option (Int×Int):=
  (if x1 then some (0,1) else (zY m h).bind fun x2=>(if !x2 then some (0,4) else (vG m.aG (Int.tmod h 32) at_ width).bind fun x3=>(if decide (x3 < 0) then some (0,2) else (kY m.aG.Bytes x3 width).bind fun x4=>some (x4,0))))
def RC(m:Mem)(h at_ width:Int):Option (Int×Int):=
  (II m).bind fun x5=>(if !x5 then BE m h at_ width true else (jG width).bind fun x6=>BE m h at_ width (!x6))
def PL(x4:Mem):Option (Mem×Int):=
  some (x4,0)
def GZ(m:Mem)(h at_ width n:Int):Option (Mem×Int):=
  (AW m).bind fun x1=>(zF n width).bind fun x2=>(RC m h at_ width).bind fun x3=>(if x3.2 != 0 then some (x1,x3.2) else (if x2 == ([]) then some (x1,1) else (vG m.aG (Int.tmod h 32) at_ width).bind fun x5=>(tL x1.aG.Bytes x5 x2).bind fun x6=>PL (⟨(⟨x6,x1.aG.Class⟩:aG),x1.aA⟩:Mem)))
def BF(s:aC)(w_ x7:Int)(x8:Mem):Option aC:=
  (if x7 != 0 then (idx s.aW w_).bind fun x9=>(bJ x9 x7).bind fun x10=>some ({s with aW:=s.aW.set w_.toNat x10}:aC) else (idx s.aW w_).bind fun x11=>(cY x11 2).bind fun x12=>some ({s with aD:=(⟨x8,s.aD.aJ,s.aD.aX,s.aD.jQ⟩:aD),aW:=s.aW.set w_.toNat x12}:aC))
def BG(w_:Int)(x17:aC):Option aC:=
  (idx x17.aW w_).bind fun x18=>(if x18.Old == 0 then (bJ x18 0).bind fun x19=>some ({x17 with aW:=x17.aW.set w_.toNat x19}:aC) else (iT 2 x18.Old).bind fun x20=>(cY ({x18 with Sub:=x20}:bW) 3).bind fun x21=>some ({x17 with aW:=x17.aW.set w_.toNat x21}:aC))
def BH(s:aC)(w_:Int)(x14:bW)(x15:Int)(x16:List Int):Option aC:=
  (idx (s.aW.set w_.toNat ({x14 with Old:=x15}:bW)) w_).bind fun x22=>(cR ({s with Cells:=x16,aW:=s.aW.set w_.toNat ({x14 with Old:=x15}:bW)}:aC) 2 w_ x22.H x22.Op.dN 0).bind fun x23=>BG w_ x23
def BI(s:aC)(w_:Int):Option aC:=
  (idx s.aW w_).bind fun x1=>(if x1.Pc == 0 then (jH x1.Sub s.aD w_).bind fun x2=>(if !x2.1.cJ then some ({s with aD:=x2.2,aW:=s.aW.set w_.toNat ({x1 with Sub:=x2.1}:bW)}:aC) else (if x2.1.Code != 0 then (bJ ({x1 with Sub:=x2.1}:bW) x2.1.Code).bind fun x3=>some ({s with aD:=x2.2,aW:=s.aW.set w_.toNat x3}:aC) else (fZ x2.1.Out).bind fun x4=>(if !x4 then (bJ ({x1 with Sub:=x2.1}:bW) 1).bind fun x5=>some ({s with aD:=x2.2,aW:=s.aW.set w_.toNat x5}:aC) else (cY ({x1 with Sub:=x2.1,H:=x2.1.Out}:bW) 1).bind fun x6=>some ({s with aD:=x2.2,aW:=s.aW.set w_.toNat x6}:aC)))) else (if x1.Pc == 1 then (GZ s.aD.Mem x1.H 0 4 x1.Op.dN).bind fun x13=>BF s w_ x13.2 x13.1 else (if x1.Pc == 2 then (idx s.aW w_).bind fun x14=>(idx s.Cells x14.Op.Cell).bind fun x15=>(idx (s.aW.set w_.toNat ({x14 with Old:=x15}:bW)) w_).bind fun x24=>(idx s.Cells x24.Op.Cell).bind fun x25=>BH s w_ x14 x15 (s.Cells.set x24.Op.Cell.toNat x24.H) else (if x1.Pc == 3 then (jH x1.Sub s.aD w_).bind fun x26=>(if x26.1.cJ then (bJ ({x1 with Sub:=x26.1}:bW) x26.1.Code).bind fun x27=>some ({s with aD:=x26.2,aW:=s.aW.set w_.toNat x27}:aC) else some ({s with aD:=x26.2,aW:=s.aW.set w_.toNat ({x1 with Sub:=x26.1}:bW)}:aC)) else (bJ x1 1).bind fun x28=>some ({s with aW:=s.aW.set w_.toNat x28}:aC)))))
def tM(s:aC)(w_:Int):Option aC:=
  (idx s.aW w_).bind fun x1=>(idx s.aW w_).bind fun x2=>(idx s.Cells x2.Op.Cell).bind fun x3=>(cR ({s with aW:=s.aW.set w_.toNat ({x2 with H:=x3}:bW)}:aC) 3 w_ x3 0 0).bind fun x4=>some x4
def rD(b:aD)(h at_ width:Int)(x1:Bool):Option (Int×Bool):=
  (if x1 then some (0,false) else (vG b.Mem.aG (Int.tmod h 32) at_ width).bind fun x2=>(if decide (x2 < 0) then some (0,false) else (kY b.Mem.aG.Bytes x2 width).bind fun x3=>some (x3,true)))
def G0(b:aD)(h at_ width:Int):Option (Int×Bool):=
  (fZ h).bind fun x4=>(if !x4 then rD b h at_ width true else (p8 b.Mem.aG (Int.tmod h 32)).bind fun x5=>(if decide (x5 < 0) then rD b h at_ width true else (jG width).bind fun x6=>rD b h at_ width (!x6)))
def kJ(s:aC)(w_:Int):Option aC:=
  (idx s.aW w_).bind fun x1=>(G0 s.aD x1.H 0 4).bind fun x2=>some ({s with aW:=s.aW.set w_.toNat ({x1 with dN:=x2.1}:bW)}:aC)
def i5(x1:Bool):Option Bool:=
  some x1
def qG(p:fO):Option Bool:=
  (if p.On then i5 (!p.eI) else i5 false)
def kQ(s:aC)(w_ pc:Int):Option aC:=
  (idx s.aW w_).bind fun x1=>(cY x1 pc).bind fun x2=>(idx s.aD.aJ.bD w_).bind fun x3=>(qG x3).bind fun x4=>(if !x4 then some ({s with aW:=s.aW.set w_.toNat ({x2 with dN:=0,Code:=6}:bW)}:aC) else some ({s with aW:=s.aW.set w_.toNat x2}:aC))
def wW(w_:Int)(x1:aJ)(x2:Bool):Option (aJ×Bool):=
  (if x2 then some (x1,false) else (idx x1.bD w_).bind fun x3=>some ((⟨x1.aM,x1.bD.set w_.toNat (⟨false,0,false,0⟩:fO)⟩:aJ),true))
def OE(c:aJ)(w_:Int):Option (aJ×Bool):=
  (jM c).bind fun x1=>(m9 c).bind fun x4=>(if !x4 then wW w_ x1 true else (fD w_).bind fun x5=>(if !x5 then wW w_ x1 true else (idx c.bD w_).bind fun x6=>wW w_ x1 (!x6.On)))
def rE(b:aD)(w_:Int):Option (Bool×aD):=
  (OE b.aJ w_).bind fun x1=>some (x1.2,({b with aJ:=x1.1}:aD))
def BJ(s:aC)(w_:Int):Option aC:=
  (idx s.aW w_).bind fun x1=>(if x1.Pc == 0 then (jH x1.Sub s.aD w_).bind fun x2=>(if x2.1.cJ then (cY ({x1 with Sub:=x2.1}:bW) 1).bind fun x3=>some ({s with aD:=x2.2,aW:=s.aW.set w_.toNat x3}:aC) else some ({s with aD:=x2.2,aW:=s.aW.set w_.toNat ({x1 with Sub:=x2.1}:bW)}:aC)) else (if x1.Pc == 1 then (tM s w_).bind fun x4=>(idx x4.aW w_).bind fun x5=>(cY x5 2).bind fun x6=>(if x6.H == 0 then some ({x4 with aW:=x4.aW.set w_.toNat ({x6 with Pc:=4,Code:=8}:bW)}:aC) else some ({x4 with aW:=x4.aW.set w_.toNat x6}:aC)) else (if x1.Pc == 2 then (kJ s w_).bind fun x7=>(idx x7.aW w_).bind fun x8=>(cY x8 3).bind fun x9=>some ({x7 with aW:=x7.aW.set w_.toNat x9}:aC) else (if x1.Pc == 3 then (kQ s w_ 4).bind fun x10=>some x10 else (if x1.Pc == 4 then (rE s.aD w_).bind fun x11=>(bJ x1 x1.Code).bind fun x12=>some ({s with aD:=x11.2,aW:=s.aW.set w_.toNat x12}:aC) else (bJ x1 1).bind fun x13=>some ({s with aW:=s.aW.set w_.toNat x13}:aC))))))
def rF(w_ h:Int)(x1:(List Int))(x2:Bool):Option ((List Int)×Bool):=
  (if x2 then some (x1,false) else (idx x1 w_).bind fun x3=>some (x1.set w_.toNat h,true))
def G3(z:List Int)(w_ h:Int):Option ((List Int)×Bool):=
  (eT z).bind fun x1=>(C1 z).bind fun x4=>(if !x4 then rF w_ h x1 true else (fD w_).bind fun x5=>(if !x5 then rF w_ h x1 true else (fZ h).bind fun x6=>rF w_ h x1 (!x6)))
def wX(w_:Int)(x1:(List Int))(x2:Bool):Option ((List Int)×Bool):=
  (if x2 then some (x1,false) else (idx x1 w_).bind fun x3=>some (x1.set w_.toNat 0,true))
def OF(z:List Int)(w_:Int):Option ((List Int)×Bool):=
  (eT z).bind fun x1=>(C1 z).bind fun x4=>(if !x4 then wX w_ x1 true else (fD w_).bind fun x5=>(if !x5 then wX w_ x1 true else (idx z w_).bind fun x6=>wX w_ x1 (x6 == 0)))
def BK(s:aC)(w_:Int)(x7:List Int):Option aC:=
  (idx s.aW w_).bind fun x8=>(cY x8 2).bind fun x9=>some ({s with aD:=(⟨s.aD.Mem,s.aD.aJ,s.aD.aX,x7⟩:aD),aW:=s.aW.set w_.toNat x9}:aC)
def BL(s:aC)(w_:Int)(x11:Bool):Option aC:=
  (if x11 then (idx s.aW w_).bind fun x12=>(cY x12 0).bind fun x13=>some ({s with aW:=s.aW.set w_.toNat x13}:aC) else (idx s.aW w_).bind fun x14=>(cR s 3 w_ x14.H 0 0).bind fun x15=>(idx x15.aW w_).bind fun x16=>(cY x16 3).bind fun x17=>some ({x15 with aW:=x15.aW.set w_.toNat x17}:aC))
def BM(s:aC)(w_:Int):Option aC:=
  (idx s.aW w_).bind fun x1=>(if x1.Pc == 0 then (idx s.aW w_).bind fun x2=>(idx s.Cells x2.Op.Cell).bind fun x3=>(cY ({x2 with H:=x3}:bW) 1).bind fun x4=>(if x4.H == 0 then (cR ({s with aW:=s.aW.set w_.toNat x4}:aC) 3 w_ 0 0 0).bind fun x5=>(idx x5.aW w_).bind fun x6=>some ({x5 with aW:=x5.aW.set w_.toNat ({x6 with Pc:=4,Code:=8}:bW)}:aC) else some ({s with aW:=s.aW.set w_.toNat x4}:aC)) else (if x1.Pc == 1 then (G3 s.aD.jQ w_ x1.H).bind fun x10=>BK s w_ x10.1 else (if x1.Pc == 2 then (idx s.aW w_).bind fun x18=>(idx s.Cells x18.Op.Cell).bind fun x19=>BL s w_ (x19 != x18.H) else (if x1.Pc == 3 then (kJ s w_).bind fun x20=>(idx x20.aW w_).bind fun x21=>(cY x21 4).bind fun x22=>some ({x20 with aW:=x20.aW.set w_.toNat x22}:aC) else (if x1.Pc == 4 then (OF s.aD.jQ w_).bind fun x23=>(bJ x1 x1.Code).bind fun x24=>some ({s with aD:=(⟨s.aD.Mem,s.aD.aJ,s.aD.aX,x23.1⟩:aD),aW:=s.aW.set w_.toNat x24}:aC) else (bJ x1 1).bind fun x25=>some ({s with aW:=s.aW.set w_.toNat x25}:aC))))))
def qH(s:aC)(w_:Int)(x5:Bool):Option aC:=
  (if x5 then (idx s.aW w_).bind fun x6=>(bJ x6 6).bind fun x7=>some ({s with aW:=s.aW.set w_.toNat x7}:aC) else (idx s.aW w_).bind fun x8=>(if x8.Pc == 0 then (tM s w_).bind fun x9=>(idx x9.aW w_).bind fun x10=>(cY x10 1).bind fun x11=>(if x11.H == 0 then (bJ x11 8).bind fun x12=>some ({x9 with aW:=x9.aW.set w_.toNat x12}:aC) else some ({x9 with aW:=x9.aW.set w_.toNat x11}:aC)) else (if x8.Pc == 1 then (kJ s w_).bind fun x13=>(idx x13.aW w_).bind fun x14=>(cY x14 2).bind fun x15=>some ({x13 with aW:=x13.aW.set w_.toNat x15}:aC) else (if x8.Pc == 2 then (kQ s w_ 9).bind fun x16=>some x16 else (bJ x8 1).bind fun x17=>some ({s with aW:=s.aW.set w_.toNat x17}:aC)))))
def qI(s:aC)(w_:Int)(x1:fO)(x2:Bool):Option aC:=
  (if x2 then (idx s.aW w_).bind fun x3=>(bJ x3 5).bind fun x4=>some ({s with aW:=s.aW.set w_.toNat x4}:aC) else (idx s.aW w_).bind fun x18=>(if x18.Pc == 0 then qH s w_ x1.eI else qH s w_ false))
def zH(s:aC)(w_:Int)(x1:fO):Option aC:=
  (idx s.aW w_).bind fun x19=>(if x19.Pc == 0 then qI s w_ x1 (!x1.On) else qI s w_ x1 false)
def yK(s:aC)(w_:Int):Option aC:=
  (idx s.aW w_).bind fun x20=>(idx s.aD.aJ.bD w_).bind fun x21=>zH s w_ x21
def n9(w_ x3:Int)(x4:aC):Option aC:=
  (idx x4.aW w_).bind fun x5=>(bJ x5 x3).bind fun x6=>some ({x4 with aW:=x4.aW.set w_.toNat x6}:aC)
def oA(s:aC)(w_:Int)(x17:Bool):Option aC:=
  (if x17 then (idx s.aW w_).bind fun x18=>(jH x18.Sub s.aD w_).bind fun x19=>(if x19.1.cJ then (bJ ({x18 with Sub:=x19.1,dN:=x19.1.Out}:bW) x19.1.Code).bind fun x20=>some ({s with aD:=x19.2,aW:=s.aW.set w_.toNat x20}:aC) else some ({s with aD:=x19.2,aW:=s.aW.set w_.toNat ({x18 with Sub:=x19.1}:bW)}:aC)) else (idx s.aW w_).bind fun x21=>(bJ x21 1).bind fun x22=>some ({s with aW:=s.aW.set w_.toNat x22}:aC))
def oC(s:aC)(w_:Int)(x12:Bool):Option aC:=
  (if x12 then (idx s.aW w_).bind fun x13=>(jH x13.Sub s.aD w_).bind fun x14=>(if x14.1.cJ then (iT 4 0).bind fun x15=>(cY ({x13 with Sub:=x15}:bW) 1).bind fun x16=>some ({s with aD:=x14.2,aW:=s.aW.set w_.toNat x16}:aC) else some ({s with aD:=x14.2,aW:=s.aW.set w_.toNat ({x13 with Sub:=x14.1}:bW)}:aC)) else (idx s.aW w_).bind fun x23=>(if x23.Op.Kind == 4 then oA s w_ (x23.Pc == 1) else oA s w_ false))
def oD(s:aC)(w_:Int)(x8:Bool):Option aC:=
  (if x8 then (idx s.aW w_).bind fun x9=>(jH x9.Sub s.aD w_).bind fun x10=>(if x10.1.cJ then (bJ ({x9 with Sub:=x10.1}:bW) x10.1.Code).bind fun x11=>some ({s with aD:=x10.2,aW:=s.aW.set w_.toNat x11}:aC) else some ({s with aD:=x10.2,aW:=s.aW.set w_.toNat ({x9 with Sub:=x10.1}:bW)}:aC)) else (idx s.aW w_).bind fun x24=>(if x24.Op.Kind == 4 then oC s w_ (x24.Pc == 0) else oC s w_ false))
def oE(s:aC)(w_:Int)(x2:Bool):Option aC:=
  (if x2 then (rE s.aD w_).bind fun x7=>(if !x7.1 then n9 w_ 5 ({s with aD:=x7.2}:aC) else n9 w_ 0 ({s with aD:=x7.2}:aC)) else (idx s.aW w_).bind fun x25=>(if x25.Op.Kind == 5 then oD s w_ (x25.Pc == 0) else oD s w_ false))
def vH(s:aC)(w_:Int):Option aC:=
  (idx s.aW w_).bind fun x1=>(if x1.Op.Kind == 6 then oE s w_ (x1.Pc == 0) else oE s w_ false)
def yL(s:aC)(w_:Int):Option aC:=
  (idx s.aW w_).bind fun x1=>(if !x1.fP then (vA s w_).bind fun x2=>some x2 else (if x1.Pc == 9 then (cR s 4 w_ x1.H x1.dN x1.Code).bind fun x3=>(idx x3.aW w_).bind fun x4=>some ({x3 with aW:=x3.aW.set w_.toNat (⟨false,(⟨0,0,0,0⟩:dP),0,0,(⟨0,0,0,0,0,0,0,0,0,false⟩:Sub),0,0,0,0⟩:bW)}:aC) else (if x1.Op.Kind == 1 then (BI s w_).bind fun x5=>some x5 else (if x1.Op.Kind == 2 then (BJ s w_).bind fun x6=>some x6 else (if x1.Op.Kind == 3 then (BM s w_).bind fun x7=>some x7 else (if x1.Op.Kind == 7 then (yK s w_).bind fun x8=>some x8 else (vH s w_).bind fun x9=>some x9))))))
def aDI(x7:aC):Option aC:=
  some x7
def o9(x5:Int)(x8:Bool)(x9:aC):Option (Step (Int×aC) aC):=
  (if x8 then (yL x9 (Int.tmod x5 3)).bind fun x10=>some (.next (aE (x5+1),x10)) else some (.stop (x9)))
def pA:(Int×aC)→Option (Step (Int×aC) aC)
  | (x5,x6)=>(if decide (x5 < 3000) then (MS x6).bind fun x11=>o9 x5 (!x11) x6 else o9 x5 false x6)
def aDJ:aC→Option aC
  | x7=>aDI x7
def KN(s:aC):Option aC:=
  (tA s).bind fun x1=>(uX s).bind fun x2=>(if !x2 then some x1 else (loop (pA) (0,x1)).bind (aDJ))
def C3(s:aC)(n:Int):Option aC:=
  (yF s n).bind fun x1=>(KN x1).bind fun x2=>some x2
def RD:Option Bool:=
  some true
def tN(a_ b:List Int):Int→Option (Step Int (Out Unit Bool))
  | x2=>(if decide (x2 < (a_.length:Int)) then (idx a_ x2).bind fun x3=>(idx b x2).bind fun x4=>(if x3 != x4 then some (.stop (Out.ret false)) else some (.next (aE (x2+1)))) else some (.stop (Out.brk ())))
def RE:(Out Unit Bool)→Option Bool
  | .brk ()=>RD
  | .ret r=>some r
def pT(a_ b:List Int):Option Bool:=
  (if (a_.length:Int) != (b.length:Int) then some false else (loop (tN a_ b) 0).bind (RE))
def KO(a_ b:aG):Option Bool:=
  (pT a_.Bytes b.Bytes).bind fun x1=>(if !x1 then some false else (pT a_.Class b.Class).bind fun x2=>(if !x2 then some false else some true))
def G4(a_ b:aH):Option Bool:=
  (pT a_.aL b.aL).bind fun x1=>(if !x1 then some false else some true)
def MV:Option Bool:=
  some true
def pB(a_ b:List aH):Int→Option (Step Int (Out Unit Bool))
  | x2=>(if decide (x2 < (a_.length:Int)) then (idx a_ x2).bind fun x3=>(idx b x2).bind fun x4=>(G4 x3 x4).bind fun x5=>(if !x5 then some (.stop (Out.ret false)) else some (.next (aE (x2+1)))) else some (.stop (Out.brk ())))
def MW:(Out Unit Bool)→Option Bool
  | .brk ()=>MV
  | .ret r=>some r
def wY(a_ b:List aH):Option Bool:=
  (if (a_.length:Int) != (b.length:Int) then some false else (loop (pB a_ b) 0).bind (MW))
def G5(a_ b:aA):Option Bool:=
  (wY a_.Global b.Global).bind fun x1=>(if !x1 then some false else (wY a_.bQ b.bQ).bind fun x2=>(if !x2 then some false else some true))
def OG(a_ b:Mem):Option Bool:=
  (KO a_.aG b.aG).bind fun x1=>(if !x1 then some false else (G5 a_.aA b.aA).bind fun x2=>(if !x2 then some false else some true))
def OH(a_ b:fO):Option Bool:=
  (if !(a_.On == b.On) then some false else (if a_.aM != b.aM then some false else (if !(a_.eI == b.eI) then some false else (if a_.Seen != b.Seen then some false else some true))))
def RF:Option Bool:=
  some true
def tO(a_ b:List fO):Int→Option (Step Int (Out Unit Bool))
  | x2=>(if decide (x2 < (a_.length:Int)) then (idx a_ x2).bind fun x3=>(idx b x2).bind fun x4=>(OH x3 x4).bind fun x5=>(if !x5 then some (.stop (Out.ret false)) else some (.next (aE (x2+1)))) else some (.stop (Out.brk ())))
def RG:(Out Unit Bool)→Option Bool
  | .brk ()=>RF
  | .ret r=>some r
def KP(a_ b:List fO):Option Bool:=
  (if (a_.length:Int) != (b.length:Int) then some false else (loop (tO a_ b) 0).bind (RG))
def G6(a_ b:aJ):Option Bool:=
  (if a_.aM != b.aM then some false else (KP a_.bD b.bD).bind fun x1=>(if !x1 then some false else some true))
def KQ(a_ b:bM):Option Bool:=
  (if a_.Handle != b.Handle then some false else (if a_.aM != b.aM then some false else some true))
def PM:Option Bool:=
  some true
def rG(a_ b:List bM):Int→Option (Step Int (Out Unit Bool))
  | x2=>(if decide (x2 < (a_.length:Int)) then (idx a_ x2).bind fun x3=>(idx b x2).bind fun x4=>(KQ x3 x4).bind fun x5=>(if !x5 then some (.stop (Out.ret false)) else some (.next (aE (x2+1)))) else some (.stop (Out.brk ())))
def PN:(Out Unit Bool)→Option Bool
  | .brk ()=>PM
  | .ret r=>some r
def G7(a_ b:List bM):Option Bool:=
  (if (a_.length:Int) != (b.length:Int) then some false else (loop (rG a_ b) 0).bind (PN))
def G8(a_ b:aO):Option Bool:=
  (G7 a_.Rows b.Rows).bind fun x1=>(if !x1 then some false else some true)
def MX:Option Bool:=
  some true
def pC(a_ b:List aO):Int→Option (Step Int (Out Unit Bool))
  | x2=>(if decide (x2 < (a_.length:Int)) then (idx a_ x2).bind fun x3=>(idx b x2).bind fun x4=>(G8 x3 x4).bind fun x5=>(if !x5 then some (.stop (Out.ret false)) else some (.next (aE (x2+1)))) else some (.stop (Out.brk ())))
def MY:(Out Unit Bool)→Option Bool
  | .brk ()=>MX
  | .ret r=>some r
def D0(a_ b:List aO):Option Bool:=
  (if (a_.length:Int) != (b.length:Int) then some false else (loop (pC a_ b) 0).bind (MY))
def KR(a_ b:aD):Option Bool:=
  (OG a_.Mem b.Mem).bind fun x1=>(if !x1 then some false else (G6 a_.aJ b.aJ).bind fun x2=>(if !x2 then some false else (D0 a_.aX b.aX).bind fun x3=>(if !x3 then some false else (pT a_.jQ b.jQ).bind fun x4=>(if !x4 then some false else some true))))
def MZ(a_ b:dP):Option Bool:=
  (if a_.Kind != b.Kind then some false else (if a_.Cell != b.Cell then some false else (if a_.dQ != b.dQ then some false else (if a_.dN != b.dN then some false else some true))))
def OI(a_ b:Sub):Option Bool:=
  (if a_.Kind != b.Kind then some false else (if a_.A != b.A then some false else (if a_.Pc != b.Pc then some false else (if a_.E != b.E then some false else (if a_.Row != b.Row then some false else (if a_.B != b.B then some false else (if a_.H != b.H then some false else (if a_.Out != b.Out then some false else (if a_.Code != b.Code then some false else (if !(a_.cJ == b.cJ) then some false else some true))))))))))
def OJ(a_ b:bW):Option Bool:=
  (if !(a_.fP == b.fP) then some false else (MZ a_.Op b.Op).bind fun x1=>(if !x1 then some false else (if a_.aR != b.aR then some false else (if a_.Pc != b.Pc then some false else (OI a_.Sub b.Sub).bind fun x2=>(if !x2 then some false else (if a_.H != b.H then some false else (if a_.Old != b.Old then some false else (if a_.dN != b.dN then some false else (if a_.Code != b.Code then some false else some true)))))))))
def RH:Option Bool:=
  some true
def tP(a_ b:List bW):Int→Option (Step Int (Out Unit Bool))
  | x2=>(if decide (x2 < (a_.length:Int)) then (idx a_ x2).bind fun x3=>(idx b x2).bind fun x4=>(OJ x3 x4).bind fun x5=>(if !x5 then some (.stop (Out.ret false)) else some (.next (aE (x2+1)))) else some (.stop (Out.brk ())))
def RI:(Out Unit Bool)→Option Bool
  | .brk ()=>RH
  | .ret r=>some r
def KS(a_ b:List bW):Option Bool:=
  (if (a_.length:Int) != (b.length:Int) then some false else (loop (tP a_ b) 0).bind (RI))
def TH:Option Bool:=
  some true
def wZ(a_ b:List dP):Int→Option (Step Int (Out Unit Bool))
  | x2=>(if decide (x2 < (a_.length:Int)) then (idx a_ x2).bind fun x3=>(idx b x2).bind fun x4=>(MZ x3 x4).bind fun x5=>(if !x5 then some (.stop (Out.ret false)) else some (.next (aE (x2+1)))) else some (.stop (Out.brk ())))
def TJ:(Out Unit Bool)→Option Bool
  | .brk ()=>TH
  | .ret r=>some r
def OK(a_ b:List dP):Option Bool:=
  (if (a_.length:Int) != (b.length:Int) then some false else (loop (wZ a_ b) 0).bind (TJ))
def G9(a_ b:Queue):Option Bool:=
  (OK a_.eZ b.eZ).bind fun x1=>(if !x1 then some false else some true)
def M0:Option Bool:=
  some true
def pD(a_ b:List Queue):Int→Option (Step Int (Out Unit Bool))
  | x2=>(if decide (x2 < (a_.length:Int)) then (idx a_ x2).bind fun x3=>(idx b x2).bind fun x4=>(G9 x3 x4).bind fun x5=>(if !x5 then some (.stop (Out.ret false)) else some (.next (aE (x2+1)))) else some (.stop (Out.brk ())))
def M1:(Out Unit Bool)→Option Bool
  | .brk ()=>M0
  | .ret r=>some r
def D1(a_ b:List Queue):Option Bool:=
  (if (a_.length:Int) != (b.length:Int) then some false else (loop (pD a_ b) 0).bind (M1))
def SN(a_ b:Ev):Option Bool:=
  (if a_.Kind != b.Kind then some false else (if a_.Who != b.Who then some false else (if a_.aR != b.aR then some false else (if a_.Cell != b.Cell then some false else (if a_.Handle != b.Handle then some false else (if a_.dN != b.dN then some false else (if a_.Code != b.Code then some false else some true)))))))
def TL:Option Bool:=
  some true
def xA(a_ b:List Ev):Int→Option (Step Int (Out Unit Bool))
  | x2=>(if decide (x2 < (a_.length:Int)) then (idx a_ x2).bind fun x3=>(idx b x2).bind fun x4=>(SN x3 x4).bind fun x5=>(if !x5 then some (.stop (Out.ret false)) else some (.next (aE (x2+1)))) else some (.stop (Out.brk ())))
def TM:(Out Unit Bool)→Option Bool
  | .brk ()=>TL
  | .ret r=>some r
def OL(a_ b:List Ev):Option Bool:=
  (if (a_.length:Int) != (b.length:Int) then some false else (loop (xA a_ b) 0).bind (TM))
def g8(a_ b:aC):Option Bool:=
  (KR a_.aD b.aD).bind fun x1=>(if !x1 then some false else (pT a_.Cells b.Cells).bind fun x2=>(if !x2 then some false else (KS a_.aW b.aW).bind fun x3=>(if !x3 then some false else (D1 a_.cG b.cG).bind fun x4=>(if !x4 then some false else (OL a_.Log b.Log).bind fun x5=>(if !x5 then some false else (if a_.aR != b.aR then some false else some true))))))
def M3(a_ x7:List Int)(x8:Int):Option (Int×(List Int)):=
  need (x7.length=a_.length) (some (x8,x7))
def vI(a_:List Int):((List Int)×Int×Int)→Option (Step ((List Int)×Int×Int) ((List Int)×Int))
  | (x4,x5,x6)=>need (x4.length=a_.length) ((if decide (x6 < (x4.length:Int)) then (idx x4 x6).bind fun x9=>some (.next (x4.set x6.toNat x5,aE (x5+1),aE (x6+1))) else some (.stop ((x4,x5)))))
def M4(a_:List Int):((List Int)×Int)→Option (Int×(List Int))
  | (x7,x8)=>M3 a_ x7 x8
def lG(a_:List Int)(k:Int):Option (Int×(List Int)):=
  (loop (vI a_) (a_,k,0)).bind (M4 a_)
def D2(a_:aG)(k:Int):Option (Int×(List Int)×(List Int)):=
  (lG a_.Bytes k).bind fun x1=>(lG a_.Class x1.1).bind fun x2=>some (x2.1,x1.2,x2.2)
def IP(a_ x7:List aH)(x8:Int):Option (Int×(List aH)):=
  need (x7.length=a_.length) (some (x8,x7))
def qJ(a_:List aH):((List aH)×Int×Int)→Option (Step ((List aH)×Int×Int) ((List aH)×Int))
  | (x4,x5,x6)=>need (x4.length=a_.length) ((if decide (x6 < (x4.length:Int)) then (idx x4 x6).bind fun x9=>(lG x9.aL x5).bind fun x10=>some (.next (x4.set x6.toNat (⟨x10.2⟩:aH),x10.1,aE (x6+1))) else some (.stop ((x4,x5)))))
def IQ(a_:List aH):((List aH)×Int)→Option (Int×(List aH))
  | (x7,x8)=>IP a_ x7 x8
def rH(a_:List aH)(k:Int):Option (Int×(List aH)):=
  (loop (qJ a_) (a_,k,0)).bind (IQ a_)
def BN(a_:aA)(k:Int):Option (Int×(List aH)×(List aH)):=
  (rH a_.Global k).bind fun x1=>(rH a_.bQ x1.1).bind fun x2=>some (x2.1,x1.2,x2.2)
def HA(a_:Mem)(k:Int):Option (Int×(List Int)×(List Int)×(List aH)×(List aH)):=
  (D2 a_.aG k).bind fun x1=>(BN a_.aA x1.1).bind fun x2=>some (x2.1,x1.2.1,x1.2.2,x2.2.1,x2.2.2)
def M5(a_ x7:List fO)(x8:Int):Option (Int×(List fO)):=
  need (x7.length=a_.length) (some (x8,x7))
def vJ(a_:List fO):((List fO)×Int×Int)→Option (Step ((List fO)×Int×Int) ((List fO)×Int))
  | (x4,x5,x6)=>need (x4.length=a_.length) ((if decide (x6 < (x4.length:Int)) then (idx x4 x6).bind fun x9=>some (.next (x4.set x6.toNat (⟨(Int.tmod x5 3) == 0,aE (x5+1),(Int.tmod (aE ((aE (x5+1))+1)) 3) == 0,aE ((aE ((aE (x5+1))+1))+1)⟩:fO),aE ((aE ((aE ((aE (x5+1))+1))+1))+1),aE (x6+1))) else some (.stop ((x4,x5)))))
def M6(a_:List fO):((List fO)×Int)→Option (Int×(List fO))
  | (x7,x8)=>M5 a_ x7 x8
def D3(a_:List fO)(k:Int):Option (Int×(List fO)):=
  (loop (vJ a_) (a_,k,0)).bind (M6 a_)
def BO(a_:aJ)(k:Int):Option (Int×(List fO)):=
  (D3 a_.bD k).bind fun x1=>some (x1.1,x1.2)
def KT(a_ x7:List bM)(x8:Int):Option (Int×(List bM)):=
  need (x7.length=a_.length) (some (x8,x7))
def sH(a_:List bM):((List bM)×Int×Int)→Option (Step ((List bM)×Int×Int) ((List bM)×Int))
  | (x4,x5,x6)=>need (x4.length=a_.length) ((if decide (x6 < (x4.length:Int)) then (idx x4 x6).bind fun x9=>some (.next (x4.set x6.toNat (⟨x5,aE (x5+1)⟩:bM),aE ((aE (x5+1))+1),aE (x6+1))) else some (.stop ((x4,x5)))))
def KU(a_:List bM):((List bM)×Int)→Option (Int×(List bM))
  | (x7,x8)=>KT a_ x7 x8
def BP(a_:List bM)(k:Int):Option (Int×(List bM)):=
  (loop (sH a_) (a_,k,0)).bind (KU a_)
def IS(a_ x7:List aO)(x8:Int):Option (Int×(List aO)):=
  need (x7.length=a_.length) (some (x8,x7))
def qK(a_:List aO):((List aO)×Int×Int)→Option (Step ((List aO)×Int×Int) ((List aO)×Int))
  | (x4,x5,x6)=>need (x4.length=a_.length) ((if decide (x6 < (x4.length:Int)) then (idx x4 x6).bind fun x9=>(BP x9.Rows x5).bind fun x10=>some (.next (x4.set x6.toNat (⟨x10.2⟩:aO),x10.1,aE (x6+1))) else some (.stop ((x4,x5)))))
def IT(a_:List aO):((List aO)×Int)→Option (Int×(List aO))
  | (x7,x8)=>IS a_ x7 x8
def yN(a_:List aO)(k:Int):Option (Int×(List aO)):=
  (loop (qK a_) (a_,k,0)).bind (IT a_)
def D4(a_:aD)(k:Int):Option (Int×(List Int)×(List Int)×(List aH)×(List aH)×(List fO)×(List aO)×(List Int)):=
  (HA a_.Mem k).bind fun x1=>(BO a_.aJ x1.1).bind fun x2=>(yN a_.aX x2.1).bind fun x3=>(lG a_.jQ x3.1).bind fun x4=>some (x4.1,x1.2.1,x1.2.2.1,x1.2.2.2.1,x1.2.2.2.2,x2.2,x3.2,x4.2)
def M7(a_ x7:List bW)(x8:Int):Option (Int×(List bW)):=
  need (x7.length=a_.length) (some (x8,x7))
def vK(a_:List bW):((List bW)×Int×Int)→Option (Step ((List bW)×Int×Int) ((List bW)×Int))
  | (x4,x5,x6)=>need (x4.length=a_.length) ((if decide (x6 < (x4.length:Int)) then (idx x4 x6).bind fun x9=>some (.next (x4.set x6.toNat (⟨(Int.tmod x5 3) == 0,(⟨aE (x5+1),aE ((aE (x5+1))+1),aE ((aE ((aE (x5+1))+1))+1),aE ((aE ((aE ((aE (x5+1))+1))+1))+1)⟩:dP),aE ((aE ((aE ((aE ((aE (x5+1))+1))+1))+1))+1),aE ((aE ((aE ((aE ((aE ((aE (x5+1))+1))+1))+1))+1))+1),(⟨aE ((aE ((aE ((aE ((aE ((aE ((aE (x5+1))+1))+1))+1))+1))+1))+1),aE ((aE ((aE ((aE ((aE ((aE ((aE ((aE (x5+1))+1))+1))+1))+1))+1))+1))+1),aE ((aE ((aE ((aE ((aE ((aE ((aE ((aE ((aE (x5+1))+1))+1))+1))+1))+1))+1))+1))+1),aE ((aE ((aE ((aE ((aE ((aE ((aE ((aE ((aE ((aE (x5+1))+1))+1))+1))+1))+1))+1))+1))+1))+1),aE ((aE ((aE ((aE ((aE ((aE ((aE ((aE ((aE ((aE ((aE (x5+1))+1))+1))+1))+1))+1))+1))+1))+1))+1))+1),aE ((aE ((aE ((aE ((aE ((aE ((aE ((aE ((aE ((aE ((aE ((aE (x5+1))+1))+1))+1))+1))+1))+1))+1))+1))+1))+1))+1),aE ((aE ((aE ((aE ((aE ((aE ((aE ((aE ((aE ((aE ((aE ((aE ((aE (x5+1))+1))+1))+1))+1))+1))+1))+1))+1))+1))+1))+1))+1),aE ((aE ((aE ((aE ((aE ((aE ((aE ((aE ((aE ((aE ((aE ((aE ((aE ((aE (x5+1))+1))+1))+1))+1))+1))+1))+1))+1))+1))+1))+1))+1))+1),aE ((aE ((aE ((aE ((aE ((aE ((aE ((aE ((aE ((aE ((aE ((aE ((aE ((aE ((aE (x5+1))+1))+1))+1))+1))+1))+1))+1))+1))+1))+1))+1))+1))+1))+1),(Int.tmod (aE ((aE ((aE ((aE ((aE ((aE ((aE ((aE ((aE ((aE ((aE ((aE ((aE ((aE ((aE ((aE (x5+1))+1))+1))+1))+1))+1))+1))+1))+1))+1))+1))+1))+1))+1))+1))+1)) 3) == 0⟩:Sub),aE ((aE ((aE ((aE ((aE ((aE ((aE ((aE ((aE ((aE ((aE ((aE ((aE ((aE ((aE ((aE ((aE (x5+1))+1))+1))+1))+1))+1))+1))+1))+1))+1))+1))+1))+1))+1))+1))+1))+1),aE ((aE ((aE ((aE ((aE ((aE ((aE ((aE ((aE ((aE ((aE ((aE ((aE ((aE ((aE ((aE ((aE ((aE (x5+1))+1))+1))+1))+1))+1))+1))+1))+1))+1))+1))+1))+1))+1))+1))+1))+1))+1),aE ((aE ((aE ((aE ((aE ((aE ((aE ((aE ((aE ((aE ((aE ((aE ((aE ((aE ((aE ((aE ((aE ((aE ((aE (x5+1))+1))+1))+1))+1))+1))+1))+1))+1))+1))+1))+1))+1))+1))+1))+1))+1))+1))+1),aE ((aE ((aE ((aE ((aE ((aE ((aE ((aE ((aE ((aE ((aE ((aE ((aE ((aE ((aE ((aE ((aE ((aE ((aE ((aE (x5+1))+1))+1))+1))+1))+1))+1))+1))+1))+1))+1))+1))+1))+1))+1))+1))+1))+1))+1))+1)⟩:bW),aE ((aE ((aE ((aE ((aE ((aE ((aE ((aE ((aE ((aE ((aE ((aE ((aE ((aE ((aE ((aE ((aE ((aE ((aE ((aE ((aE (x5+1))+1))+1))+1))+1))+1))+1))+1))+1))+1))+1))+1))+1))+1))+1))+1))+1))+1))+1))+1))+1),aE (x6+1))) else some (.stop ((x4,x5)))))
def M8(a_:List bW):((List bW)×Int)→Option (Int×(List bW))
  | (x7,x8)=>M7 a_ x7 x8
def D5(a_:List bW)(k:Int):Option (Int×(List bW)):=
  (loop (vK a_) (a_,k,0)).bind (M8 a_)
def PO(a_ x7:List dP)(x8:Int):Option (Int×(List dP)):=
  need (x7.length=a_.length) (some (x8,x7))
def yO(a_:List dP):((List dP)×Int×Int)→Option (Step ((List dP)×Int×Int) ((List dP)×Int))
  | (x4,x5,x6)=>need (x4.length=a_.length) ((if decide (x6 < (x4.length:Int)) then (idx x4 x6).bind fun x9=>some (.next (x4.set x6.toNat (⟨x5,aE (x5+1),aE ((aE (x5+1))+1),aE ((aE ((aE (x5+1))+1))+1)⟩:dP),aE ((aE ((aE ((aE (x5+1))+1))+1))+1),aE (x6+1))) else some (.stop ((x4,x5)))))
def PQ(a_:List dP):((List dP)×Int)→Option (Int×(List dP))
  | (x7,x8)=>PO a_ x7 x8
def HB(a_:List dP)(k:Int):Option (Int×(List dP)):=
  (loop (yO a_) (a_,k,0)).bind (PQ a_)
def IU(a_ x7:List Queue)(x8:Int):Option (Int×(List Queue)):=
  need (x7.length=a_.length) (some (x8,x7))
def qL(a_:List Queue):((List Queue)×Int×Int)→Option (Step ((List Queue)×Int×Int) ((List Queue)×Int))
  | (x4,x5,x6)=>need (x4.length=a_.length) ((if decide (x6 < (x4.length:Int)) then (idx x4 x6).bind fun x9=>(HB x9.eZ x5).bind fun x10=>some (.next (x4.set x6.toNat (⟨x10.2⟩:Queue),x10.1,aE (x6+1))) else some (.stop ((x4,x5)))))
def IV(a_:List Queue):((List Queue)×Int)→Option (Int×(List Queue))
  | (x7,x8)=>IU a_ x7 x8
def yP(a_:List Queue)(k:Int):Option (Int×(List Queue)):=
  (loop (qL a_) (a_,k,0)).bind (IV a_)
def PR(a_ x7:List Ev)(x8:Int):Option (Int×(List Ev)):=
  need (x7.length=a_.length) (some (x8,x7))
def yQ(a_:List Ev):((List Ev)×Int×Int)→Option (Step ((List Ev)×Int×Int) ((List Ev)×Int))
  | (x4,x5,x6)=>need (x4.length=a_.length) ((if decide (x6 < (x4.length:Int)) then (idx x4 x6).bind fun x9=>some (.next (x4.set x6.toNat (⟨x5,aE (x5+1),aE ((aE (x5+1))+1),aE ((aE ((aE (x5+1))+1))+1),aE ((aE ((aE ((aE (x5+1))+1))+1))+1),aE ((aE ((aE ((aE ((aE (x5+1))+1))+1))+1))+1),aE ((aE ((aE ((aE ((aE ((aE (x5+1))+1))+1))+1))+1))+1)⟩:Ev),aE ((aE ((aE ((aE ((aE ((aE ((aE (x5+1))+1))+1))+1))+1))+1))+1),aE (x6+1))) else some (.stop ((x4,x5)))))
def PT(a_:List Ev):((List Ev)×Int)→Option (Int×(List Ev))
  | (x7,x8)=>PR a_ x7 x8
def HC(a_:List Ev)(k:Int):Option (Int×(List Ev)):=
  (loop (yQ a_) (a_,k,0)).bind (PT a_)
def jO(a_:aC)(k:Int):Option (Int×(List Int)×(List Int)×(List aH)×(List aH)×(List fO)×(List aO)×(List Int)×(List Int)×(List bW)×(List Queue)×(List Ev)):=
  (D4 a_.aD k).bind fun x1=>(lG a_.Cells x1.1).bind fun x2=>(D5 a_.aW x2.1).bind fun x3=>(yP a_.cG x3.1).bind fun x4=>(HC a_.Log x4.1).bind fun x5=>some (x5.1,x1.2.1,x1.2.2.1,x1.2.2.2.1,x1.2.2.2.2.1,x1.2.2.2.2.2.1,x1.2.2.2.2.2.2.1,x1.2.2.2.2.2.2.2,x2.2,x3.2,x4.2,x5.2)
def XO(x5:Int):Option Int:=
  some x5
def lS(a_:List Int):(Int×Int)→Option (Step (Int×Int) (Out Int Int))
  | (x3,x4)=>(if decide (x4 < (a_.length:Int)) then (idx a_ x4).bind fun x6=>(if x6 != x3 then some (.stop (Out.ret (-1))) else some (.next (aE (x3+1),aE (x4+1)))) else some (.stop (Out.brk x3)))
def XP:(Out Int Int)→Option Int
  | .brk x5=>XO x5
  | .ret r=>some r
def iF(a_:List Int)(k:Int):Option Int:=
  (loop (lS a_) (k,0)).bind (XP)
def D6(a_:aG)(k:Int):Option Int:=
  (iF a_.Bytes k).bind fun x1=>(if decide (x1 < 0) then some (-1) else (iF a_.Class x1).bind fun x2=>(if decide (x2 < 0) then some (-1) else some x2))
def UK(x5:Int):Option Int:=
  some x5
def qM(a_:List aH):(Int×Int)→Option (Step (Int×Int) (Out Int Int))
  | (x3,x4)=>(if decide (x4 < (a_.length:Int)) then (idx a_ x4).bind fun x6=>(iF x6.aL x3).bind fun x7=>(if decide (x7 < 0) then some (.stop (Out.ret (-1))) else some (.next (x7,aE (x4+1)))) else some (.stop (Out.brk x3)))
def UL:(Out Int Int)→Option Int
  | .brk x5=>UK x5
  | .ret r=>some r
def rI(a_:List aH)(k:Int):Option Int:=
  (loop (qM a_) (k,0)).bind (UL)
def BQ(a_:aA)(k:Int):Option Int:=
  (rI a_.Global k).bind fun x1=>(if decide (x1 < 0) then some (-1) else (rI a_.bQ x1).bind fun x2=>(if decide (x2 < 0) then some (-1) else some x2))
def HD(a_:Mem)(k:Int):Option Int:=
  (D6 a_.aG k).bind fun x1=>(if decide (x1 < 0) then some (-1) else (BQ a_.aA x1).bind fun x2=>(if decide (x2 < 0) then some (-1) else some x2))
def XQ(x5:Int):Option Int:=
  some x5
def lT(a_:List fO):(Int×Int)→Option (Step (Int×Int) (Out Int Int))
  | (x3,x4)=>(if decide (x4 < (a_.length:Int)) then (idx a_ x4).bind fun x6=>(if !(x6.On == ((Int.tmod x3 3) == 0)) then some (.stop (Out.ret (-1))) else (idx a_ x4).bind fun x7=>(if x7.aM != (aE (x3+1)) then some (.stop (Out.ret (-1))) else (idx a_ x4).bind fun x8=>(if !(x8.eI == ((Int.tmod (aE ((aE (x3+1))+1)) 3) == 0)) then some (.stop (Out.ret (-1))) else (idx a_ x4).bind fun x9=>(if x9.Seen != (aE ((aE ((aE (x3+1))+1))+1)) then some (.stop (Out.ret (-1))) else some (.next (aE ((aE ((aE ((aE (x3+1))+1))+1))+1),aE (x4+1))))))) else some (.stop (Out.brk x3)))
def XR:(Out Int Int)→Option Int
  | .brk x5=>XQ x5
  | .ret r=>some r
def D7(a_:List fO)(k:Int):Option Int:=
  (loop (lT a_) (k,0)).bind (XR)
def BR(a_:aJ)(k:Int):Option Int:=
  (D7 a_.bD k).bind fun x1=>(if decide (x1 < 0) then some (-1) else some x1)
def VP(x5:Int):Option Int:=
  some x5
def j5(a_:List bM):(Int×Int)→Option (Step (Int×Int) (Out Int Int))
  | (x3,x4)=>(if decide (x4 < (a_.length:Int)) then (idx a_ x4).bind fun x6=>(if x6.Handle != x3 then some (.stop (Out.ret (-1))) else (idx a_ x4).bind fun x7=>(if x7.aM != (aE (x3+1)) then some (.stop (Out.ret (-1))) else some (.next (aE ((aE (x3+1))+1),aE (x4+1))))) else some (.stop (Out.brk x3)))
def VQ:(Out Int Int)→Option Int
  | .brk x5=>VP x5
  | .ret r=>some r
def pE(a_:List bM)(k:Int):Option Int:=
  (loop (j5 a_) (k,0)).bind (VQ)
def UM(x5:Int):Option Int:=
  some x5
def qN(a_:List aO):(Int×Int)→Option (Step (Int×Int) (Out Int Int))
  | (x3,x4)=>(if decide (x4 < (a_.length:Int)) then (idx a_ x4).bind fun x6=>(pE x6.Rows x3).bind fun x7=>(if decide (x7 < 0) then some (.stop (Out.ret (-1))) else some (.next (x7,aE (x4+1)))) else some (.stop (Out.brk x3)))
def UN:(Out Int Int)→Option Int
  | .brk x5=>UM x5
  | .ret r=>some r
def yR(a_:List aO)(k:Int):Option Int:=
  (loop (qN a_) (k,0)).bind (UN)
def D8(a_:aD)(k:Int):Option Int:=
  (HD a_.Mem k).bind fun x1=>(if decide (x1 < 0) then some (-1) else (BR a_.aJ x1).bind fun x2=>(if decide (x2 < 0) then some (-1) else (yR a_.aX x2).bind fun x3=>(if decide (x3 < 0) then some (-1) else (iF a_.jQ x3).bind fun x4=>(if decide (x4 < 0) then some (-1) else some x4))))
def XS(x5:Int):Option Int:=
  some x5
def lU(a_:List bW):(Int×Int)→Option (Step (Int×Int) (Out Int Int))
  | (x3,x4)=>(if decide (x4 < (a_.length:Int)) then (idx a_ x4).bind fun x6=>(if !(x6.fP == ((Int.tmod x3 3) == 0)) then some (.stop (Out.ret (-1))) else (idx a_ x4).bind fun x7=>(if x7.Op.Kind != (aE (x3+1)) then some (.stop (Out.ret (-1))) else (idx a_ x4).bind fun x8=>(if x8.Op.Cell != (aE ((aE (x3+1))+1)) then some (.stop (Out.ret (-1))) else (idx a_ x4).bind fun x9=>(if x9.Op.dQ != (aE ((aE ((aE (x3+1))+1))+1)) then some (.stop (Out.ret (-1))) else (idx a_ x4).bind fun x10=>(if x10.Op.dN != (aE ((aE ((aE ((aE (x3+1))+1))+1))+1)) then some (.stop (Out.ret (-1))) else (idx a_ x4).bind fun x11=>(if x11.aR != (aE ((aE ((aE ((aE ((aE (x3+1))+1))+1))+1))+1)) then some (.stop (Out.ret (-1))) else (idx a_ x4).bind fun x12=>(if x12.Pc != (aE ((aE ((aE ((aE ((aE ((aE (x3+1))+1))+1))+1))+1))+1)) then some (.stop (Out.ret (-1))) else (idx a_ x4).bind fun x13=>(if x13.Sub.Kind != (aE ((aE ((aE ((aE ((aE ((aE ((aE (x3+1))+1))+1))+1))+1))+1))+1)) then some (.stop (Out.ret (-1))) else (idx a_ x4).bind fun x14=>(if x14.Sub.A != (aE ((aE ((aE ((aE ((aE ((aE ((aE ((aE (x3+1))+1))+1))+1))+1))+1))+1))+1)) then some (.stop (Out.ret (-1))) else (idx a_ x4).bind fun x15=>(if x15.Sub.Pc != (aE ((aE ((aE ((aE ((aE ((aE ((aE ((aE ((aE (x3+1))+1))+1))+1))+1))+1))+1))+1))+1)) then some (.stop (Out.ret (-1))) else (idx a_ x4).bind fun x16=>(if x16.Sub.E != (aE ((aE ((aE ((aE ((aE ((aE ((aE ((aE ((aE ((aE (x3+1))+1))+1))+1))+1))+1))+1))+1))+1))+1)) then some (.stop (Out.ret (-1))) else (idx a_ x4).bind fun x17=>(if x17.Sub.Row != (aE ((aE ((aE ((aE ((aE ((aE ((aE ((aE ((aE ((aE ((aE (x3+1))+1))+1))+1))+1))+1))+1))+1))+1))+1))+1)) then some (.stop (Out.ret (-1))) else (idx a_ x4).bind fun x18=>(if x18.Sub.B != (aE ((aE ((aE ((aE ((aE ((aE ((aE ((aE ((aE ((aE ((aE ((aE (x3+1))+1))+1))+1))+1))+1))+1))+1))+1))+1))+1))+1)) then some (.stop (Out.ret (-1))) else (idx a_ x4).bind fun x19=>(if x19.Sub.H != (aE ((aE ((aE ((aE ((aE ((aE ((aE ((aE ((aE ((aE ((aE ((aE ((aE (x3+1))+1))+1))+1))+1))+1))+1))+1))+1))+1))+1))+1))+1)) then some (.stop (Out.ret (-1))) else (idx a_ x4).bind fun x20=>(if x20.Sub.Out != (aE ((aE ((aE ((aE ((aE ((aE ((aE ((aE ((aE ((aE ((aE ((aE ((aE ((aE (x3+1))+1))+1))+1))+1))+1))+1))+1))+1))+1))+1))+1))+1))+1)) then some (.stop (Out.ret (-1))) else (idx a_ x4).bind fun x21=>(if x21.Sub.Code != (aE ((aE ((aE ((aE ((aE ((aE ((aE ((aE ((aE ((aE ((aE ((aE ((aE ((aE ((aE (x3+1))+1))+1))+1))+1))+1))+1))+1))+1))+1))+1))+1))+1))+1))+1)) then some (.stop (Out.ret (-1))) else (idx a_ x4).bind fun x22=>(if !(x22.Sub.cJ == ((Int.tmod (aE ((aE ((aE ((aE ((aE ((aE ((aE ((aE ((aE ((aE ((aE ((aE ((aE ((aE ((aE ((aE (x3+1))+1))+1))+1))+1))+1))+1))+1))+1))+1))+1))+1))+1))+1))+1))+1)) 3) == 0)) then some (.stop (Out.ret (-1))) else (idx a_ x4).bind fun x23=>(if x23.H != (aE ((aE ((aE ((aE ((aE ((aE ((aE ((aE ((aE ((aE ((aE ((aE ((aE ((aE ((aE ((aE ((aE (x3+1))+1))+1))+1))+1))+1))+1))+1))+1))+1))+1))+1))+1))+1))+1))+1))+1)) then some (.stop (Out.ret (-1))) else (idx a_ x4).bind fun x24=>(if x24.Old != (aE ((aE ((aE ((aE ((aE ((aE ((aE ((aE ((aE ((aE ((aE ((aE ((aE ((aE ((aE ((aE ((aE ((aE (x3+1))+1))+1))+1))+1))+1))+1))+1))+1))+1))+1))+1))+1))+1))+1))+1))+1))+1)) then some (.stop (Out.ret (-1))) else (idx a_ x4).bind fun x25=>(if x25.dN != (aE ((aE ((aE ((aE ((aE ((aE ((aE ((aE ((aE ((aE ((aE ((aE ((aE ((aE ((aE ((aE ((aE ((aE ((aE (x3+1))+1))+1))+1))+1))+1))+1))+1))+1))+1))+1))+1))+1))+1))+1))+1))+1))+1))+1)) then some (.stop (Out.ret (-1))) else (idx a_ x4).bind fun x26=>(if x26.Code != (aE ((aE ((aE ((aE ((aE ((aE ((aE ((aE ((aE ((aE ((aE ((aE ((aE ((aE ((aE ((aE ((aE ((aE ((aE ((aE (x3+1))+1))+1))+1))+1))+1))+1))+1))+1))+1))+1))+1))+1))+1))+1))+1))+1))+1))+1))+1)) then some (.stop (Out.ret (-1))) else some (.next (aE ((aE ((aE ((aE ((aE ((aE ((aE ((aE ((aE ((aE ((aE ((aE ((aE ((aE ((aE ((aE ((aE ((aE ((aE ((aE ((aE (x3+1))+1))+1))+1))+1))+1))+1))+1))+1))+1))+1))+1))+1))+1))+1))+1))+1))+1))+1))+1))+1),aE (x4+1)))))))))))))))))))))))) else some (.stop (Out.brk x3)))
def XT:(Out Int Int)→Option Int
  | .brk x5=>XS x5
  | .ret r=>some r
def D9(a_:List bW)(k:Int):Option Int:=
  (loop (lU a_) (k,0)).bind (XT)
def Z2(x5:Int):Option Int:=
  some x5
def mX(a_:List dP):(Int×Int)→Option (Step (Int×Int) (Out Int Int))
  | (x3,x4)=>(if decide (x4 < (a_.length:Int)) then (idx a_ x4).bind fun x6=>(if x6.Kind != x3 then some (.stop (Out.ret (-1))) else (idx a_ x4).bind fun x7=>(if x7.Cell != (aE (x3+1)) then some (.stop (Out.ret (-1))) else (idx a_ x4).bind fun x8=>(if x8.dQ != (aE ((aE (x3+1))+1)) then some (.stop (Out.ret (-1))) else (idx a_ x4).bind fun x9=>(if x9.dN != (aE ((aE ((aE (x3+1))+1))+1)) then some (.stop (Out.ret (-1))) else some (.next (aE ((aE ((aE ((aE (x3+1))+1))+1))+1),aE (x4+1))))))) else some (.stop (Out.brk x3)))
def Z3:(Out Int Int)→Option Int
  | .brk x5=>Z2 x5
  | .ret r=>some r
def vL(a_:List dP)(k:Int):Option Int:=
  (loop (mX a_) (k,0)).bind (Z3)
def UO(x5:Int):Option Int:=
  some x5
def qO(a_:List Queue):(Int×Int)→Option (Step (Int×Int) (Out Int Int))
  | (x3,x4)=>(if decide (x4 < (a_.length:Int)) then (idx a_ x4).bind fun x6=>(vL x6.eZ x3).bind fun x7=>(if decide (x7 < 0) then some (.stop (Out.ret (-1))) else some (.next (x7,aE (x4+1)))) else some (.stop (Out.brk x3)))
def UP:(Out Int Int)→Option Int
  | .brk x5=>UO x5
  | .ret r=>some r
def yT(a_:List Queue)(k:Int):Option Int:=
  (loop (qO a_) (k,0)).bind (UP)
def Z4(x5:Int):Option Int:=
  some x5
def mY(a_:List Ev):(Int×Int)→Option (Step (Int×Int) (Out Int Int))
  | (x3,x4)=>(if decide (x4 < (a_.length:Int)) then (idx a_ x4).bind fun x6=>(if x6.Kind != x3 then some (.stop (Out.ret (-1))) else (idx a_ x4).bind fun x7=>(if x7.Who != (aE (x3+1)) then some (.stop (Out.ret (-1))) else (idx a_ x4).bind fun x8=>(if x8.aR != (aE ((aE (x3+1))+1)) then some (.stop (Out.ret (-1))) else (idx a_ x4).bind fun x9=>(if x9.Cell != (aE ((aE ((aE (x3+1))+1))+1)) then some (.stop (Out.ret (-1))) else (idx a_ x4).bind fun x10=>(if x10.Handle != (aE ((aE ((aE ((aE (x3+1))+1))+1))+1)) then some (.stop (Out.ret (-1))) else (idx a_ x4).bind fun x11=>(if x11.dN != (aE ((aE ((aE ((aE ((aE (x3+1))+1))+1))+1))+1)) then some (.stop (Out.ret (-1))) else (idx a_ x4).bind fun x12=>(if x12.Code != (aE ((aE ((aE ((aE ((aE ((aE (x3+1))+1))+1))+1))+1))+1)) then some (.stop (Out.ret (-1))) else some (.next (aE ((aE ((aE ((aE ((aE ((aE ((aE (x3+1))+1))+1))+1))+1))+1))+1),aE (x4+1)))))))))) else some (.stop (Out.brk x3)))
def Z5:(Out Int Int)→Option Int
  | .brk x5=>Z4 x5
  | .ret r=>some r
def HE(a_:List Ev)(k:Int):Option Int:=
  (loop (mY a_) (k,0)).bind (Z5)
def jP(a_:aC)(k:Int):Option Int:=
  (D8 a_.aD k).bind fun x1=>(if decide (x1 < 0) then some (-1) else (iF a_.Cells x1).bind fun x2=>(if decide (x2 < 0) then some (-1) else (D9 a_.aW x2).bind fun x3=>(if decide (x3 < 0) then some (-1) else (yT a_.cG x3).bind fun x4=>(if decide (x4 < 0) then some (-1) else (HE a_.Log x4).bind fun x5=>(if decide (x5 < 0) then some (-1) else some x5)))))
def nG(aS:aC)(aN:Int)(x10:Bool)(x11 x12:aC):Option Bool:=
  (if x10 then some false else (jO x12 1).bind fun x13=>(jP (⟨(⟨(⟨(⟨x13.2.1,x13.2.2.1⟩:aG),(⟨x13.2.2.2.1,x13.2.2.2.2.1⟩:aA)⟩:Mem),(⟨x12.aD.aJ.aM,x13.2.2.2.2.2.1⟩:aJ),x13.2.2.2.2.2.2.1,x13.2.2.2.2.2.2.2.1⟩:aD),x13.2.2.2.2.2.2.2.2.1,x13.2.2.2.2.2.2.2.2.2.1,x13.2.2.2.2.2.2.2.2.2.2.1,x13.2.2.2.2.2.2.2.2.2.2.2,x12.aR⟩:aC) 1).bind fun x14=>(if decide (x14 < 0) then some false else (if x14 != x13.1 then some false else (gZ aS).bind fun x15=>(C3 x15 aN).bind fun x16=>(g8 x16 x11).bind fun x17=>(if !x17 then some false else (jP (⟨(⟨(⟨(⟨x13.2.1,x13.2.2.1⟩:aG),(⟨x13.2.2.2.1,x13.2.2.2.2.1⟩:aA)⟩:Mem),(⟨x12.aD.aJ.aM,x13.2.2.2.2.2.1⟩:aJ),x13.2.2.2.2.2.2.1,x13.2.2.2.2.2.2.2.1⟩:aD),x13.2.2.2.2.2.2.2.2.1,x13.2.2.2.2.2.2.2.2.2.1,x13.2.2.2.2.2.2.2.2.2.2.1,x13.2.2.2.2.2.2.2.2.2.2.2,x12.aR⟩:aC) 1).bind fun x18=>(if decide (x18 < 0) then some false else (if x18 != x13.1 then some false else some true))))))
def KV(aS:aC)(aN:Int):Option Bool:=
  (AA aS 1048576).bind fun x1=>(if decide (x1 < 0) then some true else (gZ aS).bind fun x2=>(IE x2 aN).bind fun x3=>(gZ aS).bind fun x4=>(C3 x4 aN).bind fun x5=>(g8 x5 x3).bind fun x6=>(if !x6 then some false else (gZ aS).bind fun x7=>(g8 x4 x7).bind fun x8=>(if !x8 then some false else (jO x4 1).bind fun x9=>(if decide (x9.1 < 0) then nG aS aN true x3 x5 else (g8 x5 x3).bind fun x19=>nG aS aN (!x19) x3 x5))))
end
end Go.Gv
end
