import Derived.Test.YtgjpcfdgefopgabGreatXLB
import Derived.Test.YtgjpcfdgefopgabGreatProg
set_option linter.unusedVariables false
set_option linter.unusedSimpArgs false
set_option linter.unusedSectionVars false
set_option linter.constructorNameAsVariable false
set_option linter.unnecessarySimpa false
noncomputable section
set_option linter.unusedVariables false
namespace Go.Gv
noncomputable section
variable {B B':Bl} {i j:Nat}
end
noncomputable section
variable {n:Nat} {c:Ctx} {B0:Bl} {m:Nat} {e:SE} {L:List Ch}
theorem JR{Z:Act→World→Prop}{α:Type}[aL α](j:Nat){s:AC}{l:List α}{n0:Nat}(hl:l.length=n0)(hj:L[j]?=some (ow s l))
    (kk:∀a w,nL n c B0 m e (L.set j (.o (cR [s.v n0] l))) a w→Z a w):∀a w,nL n c B0 m e L a w→Z a w:=by
  subst hl
  have:L.set j (.o (cR [s.v l.length] l))=L:=by
    obtain⟨h1,h2⟩:=List.getElem?_eq_some_iff.1 hj
    rw [←show L[j]=.o (cR [s.v l.length] l) from h2];exact List.set_getElem_self h1
  rw [this] at kk
  exact kk
end
theorem fG{P:Program}{T:TT}{hT:BY P T}{n:Nat}{c:Ctx}{B0:Bl}{N:Act→World→Prop}{X:Nat→Act→World→Prop}{Q:Act→World→Prop}{K:List Fr}{m:Nat}{e e1:SE}{L L1:List Ch}{cf:tC}(h1:aI1 e=some e1)(h2:aI2 L=some L1)(k:G (.mk P T hT n c B0 N X Q) K m e1 L1 cf):G (.mk P T hT n c B0 N X Q) K m e L cf:=by
  have:=VZ h1
  have:=V1 h2
  subst e1;subst L1
  exact k
end Go.Gv
end
noncomputable section
set_option linter.unusedVariables false
namespace Go.Gv
def W{ρ:Type}(C:Prop)(r:ρ)(F:Option ρ):Prop:=F=some r→C
theorem wm{ρ:Type}{C:Prop}{r:ρ}{F F':Option ρ}(h:F'=F)(k:W C r F):W C r F':=h ▸ k
theorem wi{ρ:Type}{C:Prop}{r:ρ}{F:Option ρ}(h:F=some r)(k:W C r F):C:=k h
def VS(P:Program)(c:Ctx)(f:FuncId){ρ ex:Type}(F:Option ρ)(xs:List SV)(B0:Bl)(L0:List Ch)(sv:ρ→ex→SV)(Lf:ρ→ex→List Ch):Prop:=∀r,F=some r→FnS P f c xs B0 L0 sv Lf r
abbrev V0(P:Program)(c:Ctx)(f:FuncId){ρ:Type}(F:Option ρ)(xs:List SV)(sv:ρ→SV):Prop:=VS P c f F xs [] [] (fun r (_:Unit)=>sv r) (fun _ _=>[])
theorem VS.r{P:Program}{c:Ctx}{f:FuncId}{ρ ex:Type}{F:Option ρ}{xs:List SV}{B0:Bl}{L0:List Ch}{sv:ρ→ex→SV}{Lf:ρ→ex→List Ch}(h:VS P c f F xs B0 L0 sv Lf){r:ρ}(hF:F=some r):FnS P f c xs B0 L0 sv Lf r:=h r hF
def QR(P:Program)(fn:Func){rs:List ResultVar}(_:fn.results=rs.toArray)(c:Ctx)(B0:Bl){ρ ex:Type}(sv:ρ→ex→SV)(Lf:ρ→ex→List Ch)(r:ρ):Act→World→Prop:=QS P fn c B0 sv Lf r
def aMU(T:TT)(rs:List ResultVar)(is:List Nat)(b0:Nat)(L2:List Ch):Stop→Option (SV×List Ch)
  | .ret m e L => match aGF T e L rs with
    | some x => match DR b0 (nbS x) with
      | true => match P2 b0 m e L is b0 [] L2 with
        | some ([],L3)=>some (nbS x,L3)
        | _=>none
      | false=>none
    | none=>none
  | _=>none
def aJA(is:List Nat)(b0 mj:Nat)(ej:SE)(Lj:List Ch):Stop→Option (SE×List Ch)
  | .fin m e L=>P2 b0 m e L is mj ej Lj
  | _=>none
def exQ(is:List Nat)(id b0 mj:Nat)(ej:SE)(Lj:List Ch):Stop→Option (SE×List Ch)
  | .ex i m e L => match Nat.beq i id with
    | true=>P2 b0 m e L is mj ej Lj
    | false=>none
  | _=>none
def aTP:Stop→Stop
  | .fin m e L=>.ret m e L
  | _=>.stuck
def ixT(T:TT)(t n:Nat):Bool:=match wL T t with
  | some ⟨.sl el, _, _, _⟩ => match wL T el with
    | some ⟨_,_,sz,_⟩=>Nat.beq n sz
    | none=>false
  | _=>false
noncomputable section
variable {P:Program} {T:TT} {hT:BY P T} {n:Nat} {c:Ctx} {B0:Bl} {N:Act→World→Prop} {X:Nat→Act→World→Prop} {Q:Act→World→Prop} {K K':List Fr} {m m':Nat} {e e':SE} {L L' Lv:List Ch} {cf cf' cf1 cf2:tC} {o:Oper}
theorem bV(hT:BY P T){f:FuncId}{fn:Func}{cd:Code}{xs:List SV}{L0:List Ch}{ρ ex:Type}{sv:ρ→ex→SV}{Lf:ρ→ex→List Ch}{F:Option ρ}{rs:List ResultVar}(hc:∀args w,(callFunc f args).run P w=.ok (.enter f args) w)(hf:P.funcs[f]?=some fn)(hr:fn.results=rs.toArray)(hb:fn.body=some cd)(hm:fn.ntmps=n)
    (k:∀{r},W (G (.mk P T hT n c B0 (QR P fn hr c B0 sv Lf r) (fun _ _ _=>False) (QR P fn hr c B0 sv Lf r)) [] B0.length (aBT 0 xs) L0 (.c cd)) r F) (hl:Nat.ble xs.length n=true:=by exact rfl):VS P c f F xs B0 L0 sv Lf:=
  fun _ hF=>en n hc hf hT hb hm hl (k hF)
theorem aIJ{rs:List ResultVar}{is:List Nat}{b0:Nat}{L2 L3:List Ch}{s:SV}{st:Stop}(h:aMU T rs is b0 L2 st=some (s,L3)):∃m' e' L' x,st=.ret m' e' L'∧aGF T e' L' rs=some x∧nbS x=s∧DR b0 s=true∧P2 b0 m' e' L' is b0 [] L2=some ([],L3):=by
  unfold aMU at h
  split at h
  · split at h
    · rename_i h1
      split at h
      · rename_i h2
        split at h
        · rename_i h3
          cases h
          exact⟨_,_,_,_,rfl,h1,rfl,h2,h3⟩
        · cases h
      · cases h
    · cases h
  · cases h
theorem dY{fn:Func}{ρ ex:Type}{sv:ρ→ex→SV}{Lf:ρ→ex→List Ch}{r r':ρ}{rs:List ResultVar}{hr:fn.results=rs.toArray}{zz:Option ρ}(y:ex)(is:List Nat)(hz:zz=some r')(h:aMU T rs is B0.length (Lf r' y) (jC T n K cf m e L)=some (sv r' y,Lf r' y)):W (G (.mk P T hT n c B0 N X (QR P fn hr c B0 sv Lf r)) K m e L cf) r zz:=fun hF=>by
  obtain⟨_,_,_,_,h1,h2,h3,h4,h5⟩:=aIJ h
  exact rt y is hF hz h1 hr h2 h3 h4 h5
theorem a9{fn:Func}{ρ:Type}{sv:ρ→Unit→SV}{Lf:ρ→Unit→List Ch}{r r':ρ}{rs:List ResultVar}{hr:fn.results=rs.toArray}{zz:Option ρ}(hz:zz=some r')(h:aMU T rs [] B0.length (Lf r' ()) (jC T n K cf m e L)=some (sv r' (),Lf r' ())):W (G (.mk P T hT n c B0 N X (QR P fn hr c B0 sv Lf r)) K m e L cf) r zz:=dY () [] hz h
theorem HW{fn:Func}{ρ ex:Type}{sv:ρ→ex→SV}{Lf:ρ→ex→List Ch}{r r':ρ}{rs:List ResultVar}{hr:fn.results=rs.toArray}{zz:Option ρ}(y:ex)(is:List Nat)(hz:zz=some r')(h:aMU T rs is B0.length (Lf r' y) (aTP (jC T n K cf m e L))=some (sv r' y,Lf r' y)):W (G (.mk P T hT n c B0 (QR P fn hr c B0 sv Lf r) X Q) K m e L cf) r zz:=fun hF=>by
  obtain⟨m',e',L',_,h1,h2,h3,h4,h5⟩:=aIJ h
  refine rf y is hF hz (m':=m') (e':=e') (L':=L') ?_ hr h2 h3 h4 h5
  unfold aTP at h1
  split at h1
  · rename_i h0;rw [h0];cases h1;rfl
  · cases h1
theorem aIK{is:List Nat}{b0 mj:Nat}{ej e3:SE}{Lj L3:List Ch}{st:Stop}(h:aJA is b0 mj ej Lj st=some (e3,L3)):∃m' e' L',st=.fin m' e' L'∧P2 b0 m' e' L' is mj ej Lj=some (e3,L3):=by
  unfold aJA at h
  split at h
  · exact⟨_,_,_,rfl,h⟩
  · cases h
theorem qA{π υ α:Type}{eq:π→Prop}{mj:Nat}{ej:π→υ→SE}{Lj:π→υ→List Ch}{p:π}{q:α}{zz:Option α}(u:υ)(is:List Nat)(hz:(zz=some q)=eq p)(h:aJA is B0.length mj (ej p u) (Lj p u) (jC T n K cf m e L)=some (ej p u,Lj p u)):W (G (.mk P T hT n c B0 (JP n c B0 eq mj ej Lj) X Q) K m e L cf) q zz:=fun hF=>by
  obtain⟨_,_,_,h1,h2⟩:=aIK h
  exact jn u is (hz ▸ hF) h1 h2
theorem cD{π α:Type}{eq:π→Prop}{mj:Nat}{ej:π→Unit→SE}{Lj:π→Unit→List Ch}{p:π}{q:α}{zz:Option α}(is:List Nat)(hz:(zz=some q)=eq p)(h:aJA is B0.length mj (ej p ()) (Lj p ()) (jC T n K cf m e L)=some (ej p (),Lj p ())):W (G (.mk P T hT n c B0 (JP n c B0 eq mj ej Lj) X Q) K m e L cf) q zz:=qA () is hz h
theorem nxW{σ ρ υ:Type}{o:Step σ ρ}{mj:Nat}{el:σ→υ→SE}{Ll:σ→υ→List Ch}{s:σ}(u:υ)(is:List Nat)(h:aJA is B0.length mj (el s u) (Ll s u) (jC T n K cf m e L)=some (el s u,Ll s u)):W (G (.mk P T hT n c B0 (NxP n c B0 o mj el Ll) X Q) K m e L cf) o (some (Step.next s)):=fun hF=>by
  obtain⟨_,_,_,h1,h2⟩:=aIK h
  exact nx u is hF h1 h2
theorem y7{σ ρ:Type}{o:Step σ ρ}{mj:Nat}{el:σ→Unit→SE}{Ll:σ→Unit→List Ch}{s:σ}(is:List Nat)(h:aJA is B0.length mj (el s ()) (Ll s ()) (jC T n K cf m e L)=some (el s (),Ll s ())):W (G (.mk P T hT n c B0 (NxP n c B0 o mj el Ll) X Q) K m e L cf) o (some (Step.next s)):=nxW () is h
def BkR(n:Nat)(c:Ctx)(B0:Bl){β ρ σ υ:Type}{o:Step σ ρ}{ro:ρ}(_:∀p,o=.stop p→p=ro)(enc:β→ρ)(m:Nat)(ej:β→υ→SE)(Lj:β→υ→List Ch)(id:Nat)(X:Nat→Act→World→Prop):Nat→Act→World→Prop:=BkP n c B0 ro enc m ej Lj id X
theorem bkW{σ ρ β υ:Type}{o:Step σ ρ}{ro:ρ}{enc:β→ρ}{mj id:Nat}{ej:β→υ→SE}{Lj:β→υ→List Ch}{b:β}{hr:∀p,o=.stop p→p=ro}(u:υ)(is:List Nat)(h:exQ is id B0.length mj (ej b u) (Lj b u) (jC T n K cf m e L)=some (ej b u,Lj b u)):W (G (.mk P T hT n c B0 N (BkR n c B0 hr enc mj ej Lj id X) Q) K m e L cf) o (some (Step.stop (enc b))):=fun hF=>by
  unfold exQ at h
  split at h
  · rename_i h0
    split at h
    · rename_i hb
      rw [Nat.eq_of_beq_eq_true hb] at h0
      exact bk u is hF hr h0 h
    · cases h
  · cases h
theorem qB{σ ρ β:Type}{o:Step σ ρ}{ro:ρ}{enc:β→ρ}{mj id:Nat}{ej:β→Unit→SE}{Lj:β→Unit→List Ch}{b:β}{hr:∀p,o=.stop p→p=ro}(is:List Nat)(h:exQ is id B0.length mj (ej b ()) (Lj b ()) (jC T n K cf m e L)=some (ej b (),Lj b ())):W (G (.mk P T hT n c B0 N (BkR n c B0 hr enc mj ej Lj id X) Q) K m e L cf) o (some (Step.stop (enc b))):=bkW () is h
theorem lW{σ ρ α:Type}{o:Step σ ρ}{p ro:ρ}{F:ρ→Option α}{q:α}{C:Prop}(hr:∀p,o=.stop p→p=ro)(hF:F ro=some q)(k:W C q (F p)):W C o (some (Step.stop p)):=fun h=>k (re h rfl hr hF)
noncomputable section
variable {b:Bool} {α:Type} {A B':Option α} {q:α}
theorem aT{o:Operand}{x y:Code}(ss:List Nat)(hs:jC T n K cf m e L=.cond o b x y K' m' e' L')(ho:aZ (zD e') ss=some (ss.map fun _=>SV.b b))
    (k1:W (G (.mk P T hT n c B0 N X Q) K' m' (ZV true e' ss) L' (.c x)) q A) (k2:W (G (.mk P T hT n c B0 N X Q) K' m' (ZV false e' ss) L' (.c y)) q B'):W (G (.mk P T hT n c B0 N X Q) K m e L cf) q (if b=true then A else B'):=fun hF=>cs ss hs ho hF k1 k2
theorem aE2{o:Operand}{x y:Code}(ss:List Nat)(hs:jC T n K cf m e L=.cond o b x y K' m' e' L')(ho:aZ (zD e') ss=some (ss.map fun _=>SV.b b))
    (k1:b=true→W (G (.mk P T hT n c B0 N X Q) K' m' (ZV true e' ss) L' (.c x)) q A) (k2:b=false→W (G (.mk P T hT n c B0 N X Q) K' m' (ZV false e' ss) L' (.c y)) q B'):W (G (.mk P T hT n c B0 N X Q) K m e L cf) q (if b=true then A else B'):=fun hF=>csK ss hs ho hF k1 k2
theorem eU(ss:List Nat)(hs:jC T n K cf m e L=.case b cf' K' m' e' L')(ho:aZ (zD e') ss=some (ss.map fun _=>SV.b b))
    (k1:W (G (.mk P T hT n c B0 N X Q) K' m' (ZV true e' ss) L' cf') q A) (k2:W (G (.mk P T hT n c B0 N X Q) K' m' (ZV false e' ss) L' cf') q B'):W (G (.mk P T hT n c B0 N X Q) K m e L cf) q (if b=true then A else B'):=fun hF=>ca ss hs ho hF k1 k2
theorem aE3(ss:List Nat)(hs:jC T n K cf m e L=.case b cf' K' m' e' L')(ho:aZ (zD e') ss=some (ss.map fun _=>SV.b b))
    (k1:b=true→W (G (.mk P T hT n c B0 N X Q) K' m' (ZV true e' ss) L' cf') q A) (k2:b=false→W (G (.mk P T hT n c B0 N X Q) K' m' (ZV false e' ss) L' cf') q B'):W (G (.mk P T hT n c B0 N X Q) K m e L cf) q (if b=true then A else B'):=fun hF=>caK ss hs ho hF k1 k2
end
noncomputable section
variable {α β:Type} {fo:Option α} {kf:α→Option β} {q:β} {d:Nat} {f:FuncId} {xs:List SV}
theorem c0{sv:α→SV}(hs:jC T n K cf m e L=.call o (some d) f xs cf1 cf2 K' m' e' L')
    (hc:∀{w},HS c w L'→V0 P (cG w) f fo xs sv) (k:∀x,W (G (.mk P T hT n c B0 N X Q) K' m' ((d,sv x) :: e') L' cf2) q (kf x)):W (G (.mk P T hT n c B0 N X Q) K m e L cf) q (fo.bind kf):=fun hF=>cl0 hs (fun h _ hx=>hc h _ hx) hF fun x _ h=>k x h
theorem c1{ex:Type}{sv:α→ex→SV}{Lf:α→ex→List Ch}(hs:jC T n K cf m e L=.call o (some d) f xs cf1 cf2 K' m' e' L')
    (hc:∀{w},HS c w L'→VS P (cG w) f fo xs [] [] sv Lf) (k:∀x,∀y:ex,W (G (.mk P T hT n c B0 N X Q) K' m' ((d,sv x y) :: e') (L'++Lf x y) cf2) q (kf x)) (hn:∀x y,noF (Lf x y)=true:=by exact fun _ _=>rfl):W (G (.mk P T hT n c B0 N X Q) K m e L cf) q (fo.bind kf):=fun hF=>cl hs hn (fun h _ hx=>hc h _ hx) hF fun x _ h y=>k x y h
theorem kJ{β:Type}{kf:α→Option β}{q:β}{iR:aL α}(C:JI α){d t:Nat}{s:AC}{i:Int}{ls:List α}(hs:jC T n K cf m e L=.idx o d t s ls.length i Lv cf1 cf2 K' m' e' L')(h1:bC c s ls)(ht:ixT T t (aL.n α)=true)
    (k:∀x,∀y:C.ex,C.sub c.S0 c.w0 x y→W (G (.mk P T hT n c B0 N X Q) K' (m'+1) ((d,.p m' 0) :: e') (L' ++ [.ro m' (C.cs x y)]) (cf2.ext [.ro m' (C.cs x y)])) q (kf x)):W (G (.mk P T hT n c B0 N X Q) K m e L cf) q ((idx ls i).bind kf):=fun hF=>by
  unfold ixT at ht
  split at ht
  · rename_i h2
    split at ht
    · rename_i h3
      exact ix C hs h1 hF h2 h3 (Nat.eq_of_beq_eq_true ht) fun x _ h y hy=>k x y hy h
    · cases ht
  · cases ht
theorem LQ{β:Type}{kf:Int→Option β}{q:β}{d t:Nat}{s:AC}{i:Int}{ls:List Int}(hs:jC T n K cf m e L=.idx o d t s ls.length i Lv cf1 cf2 K' m' e' L')(h1:bC c s ls)(ht:ixT T t 1=true)
    (k:∀x,W (G (.mk P T hT n c B0 N X Q) K' (m'+1) ((d,.p m' 0) :: e') (L' ++ [.ro m' [.i .i64 x]]) (cf2.ext [.ro m' [.i .i64 x]])) q (kf x)):W (G (.mk P T hT n c B0 N X Q) K m e L cf) q ((idx ls i).bind kf):=kJ cI hs h1 ht fun x _ _=>k x
theorem dN(hm:P.follows .mixedOrders=true){id:Nat}{ops:Array Oper}{zz:Option β}(is:List Nat)(hs:jC T n K cf m e L=.rgn id ops K' m' e' L')
    (k:∀{B1},W (G (.mk P T hT n c B0 N X Q) K' m' e' L' (.d B1 ops (List.replicate ops.size false) is (kl L' is) (kl L' is))) q zz) (hf:(aEJ ops && (okL m' (kl L' is) && (cW is && is.all fun j=>Nat.blt j L'.length)))=true:=by kernel_rfl):W (G (.mk P T hT n c B0 N X Q) K m e L cf) q zz:=fun hF=>dr is hs hm hf fun _=>k hF
theorem gW{π υ:Type}{zz:Option β}(j mj:Nat)(Fj:π→Option β)(ks:List Nat)(ej:π→υ→SE)(is:List Nat)(Lj:π→υ→List Ch)(hs:PA (jC T n K cf m e L)=some (K',cf',m',e',L'))
    (k1:W (G (.mk P T hT n c B0 (JP n c B0 (fun p=>Fj p=some q) mj (fun p u=>ej p u++kp e' ks) (fun p u=>Lj p u++kl L' is)) (XK (.mk P T hT n c B0 N X Q) (K'.drop j)) Q) (K'.take j) m' e' L' cf') q zz)
    (k2:∀p u,W (G (.mk P T hT n c B0 N X Q) (K'.drop j) mj (ej p u++kp e' ks) (Lj p u++kl L' is) .n) q (Fj p)):W (G (.mk P T hT n c B0 N X Q) K m e L cf) q zz:=fun hF=>cut j mj (fun p=>Fj p=some q) ks ej is Lj hs (k1 hF) fun p u h=>k2 p u h
theorem cZ{zz:Option β}(j mj:Nat)(Fj:Bool→Option β)(ks:List Nat)(v:Nat)(is:List Nat)(hs:PA (jC T n K cf m e L)=some (K',cf',m',e',L'))
    (k1:W (G (.mk P T hT n c B0 (JP n c B0 (fun p=>Fj p=some q) mj (fun p (_:Unit)=>[(v,.b p)]++kp e' ks) (fun _ _=>[]++kl L' is)) (XK (.mk P T hT n c B0 N X Q) (K'.drop j)) Q) (K'.take j) m' e' L' cf') q zz)
    (k2:∀p,W (G (.mk P T hT n c B0 N X Q) (K'.drop j) mj ([(v,.b p)]++kp e' ks) ([]++kl L' is) .n) q (Fj p)):W (G (.mk P T hT n c B0 N X Q) K m e L cf) q zz:=gW j mj Fj ks (fun p (_:Unit)=>[(v,.b p)]) is (fun _ _=>[]) hs k1 fun p _=>k2 p
theorem FH{σ ρ υ γ ω:Type}{id:Nat}{y:Code}{fb:σ→Option (Step σ ρ)}{s0:σ}{gk:ρ→Option β}(u0:υ)(ks:List Nat)(el:σ→υ→SE)(is0 is:List Nat)(Ll:σ→υ→List Ch)(enc:γ→ρ)(kb:List Nat)(ej:γ→ω→SE)(ib:List Nat)(Lj:γ→ω→List Ch)
    (hs:jC T n K cf m e L=.loop id y K' m' e' L')
    (h0:P2 B0.length m' e' L' is0 m' (el s0 u0++kp e' ks) (Ll s0 u0++kl L' is)=some (el s0 u0++kp e' ks,Ll s0 u0++kl L' is))
    (k1:∀{ro o},gk ro=some q→∀s u,(hr:∀p,o=.stop p→p=ro)→W (G (.mk P T hT n c B0 (NxP n c B0 o m' (fun s u=>el s u++kp e' ks) (fun s u=>Ll s u++kl L' is)) (BkR n c B0 hr enc m' (fun b u=>ej b u++kp e' kb) (fun b u=>Lj b u++kl L' ib) id (XK (.mk P T hT n c B0 N X Q) K')) Q) [] m' (el s u++kp e' ks) (Ll s u++kl L' is) (.c y)) o (fb s))
    (k2:∀b u,W (G (.mk P T hT n c B0 N X Q) K' m' (ej b u++kp e' kb) (Lj b u++kl L' ib) .n) q (gk (enc b))):W (G (.mk P T hT n c B0 N X Q) K m e L cf) q ((loop fb s0).bind gk):=fun hF=>
  lp u0 ks el is0 is Ll enc kb ej ib Lj hs hF h0 (fun ro h1 s u o h2 h3=>k1 h1 s u h3 h2) fun b u h=>k2 b u h
theorem FI{ρ:Type}{id:Nat}{y:Code}{fb:Int→Option (Step Int ρ)}{s0:Int}{gk:ρ→Option β}(v:Nat)(ks:List Nat)(is:List Nat)(enc:Unit→ρ)(kb:List Nat)(ib:List Nat)
    (hs:jC T n K cf m e L=.loop id y K' m' e' L')
    (h0:P2 B0.length m' e' L' is m' ([(v,.i .i64 s0)]++kp e' ks) ([]++kl L' is)=some ([(v,.i .i64 s0)]++kp e' ks,[]++kl L' is))
    (k1:∀{ro o},gk ro=some q→∀s,(hr:∀p,o=.stop p→p=ro)→W (G (.mk P T hT n c B0 (NxP n c B0 o m' (fun s (_:Unit)=>[(v,.i .i64 s)]++kp e' ks) (fun _ _=>[]++kl L' is)) (BkR n c B0 hr enc m' (fun _ (_:Unit)=>[]++kp e' kb) (fun _ _=>[]++kl L' ib) id (XK (.mk P T hT n c B0 N X Q) K')) Q) [] m' ([(v,.i .i64 s)]++kp e' ks) ([]++kl L' is) (.c y)) o (fb s))
    (k2:W (G (.mk P T hT n c B0 N X Q) K' m' ([]++kp e' kb) ([]++kl L' ib) .n) q (gk (enc ()))):W (G (.mk P T hT n c B0 N X Q) K m e L cf) q ((loop fb s0).bind gk):=
  FH () ks (fun s (_:Unit)=>[(v,.i .i64 s)]) is is (fun _ _=>[]) enc kb (fun _ (_:Unit)=>[]) ib (fun _ _=>[]) hs h0 (fun h s _ hr=>k1 h s hr) fun _ _=>k2
theorem jD{β:Type}{kf:α→Option β}{q:β}[aL α](E:CO α)(j:Nat){t:TypeId}{s:AC}{i:Int}{ls:List α}(hs:jC T n K cf m e L=.idx o d t s ls.length i Lv cf1 cf2 K' m' e' L')(hj:L'[j]?=some (ow s ls))(hz:eT j cf1.wQ=true)
    (k:∀x,idx ls i=some x→∀y:E.ex,Shp s ls.length→W (G (.mk P T hT n c B0 N X Q) K' (m'+1) e' (L'.set j .no++([.o (sQ (s.v ls.length) ls i.toNat),.box m' (E.cs x y),wOf α m' s ls.length i.toNat]++E.Lx x y)) (cf1.ext [wOf α m' s ls.length i.toNat])) q (kf x)):W (G (.mk P T hT n c B0 N X Q) K m e L cf) q ((idx ls i).bind kf):=fun hF=>oe E j hs hj hz hF fun x h1 h2 y h3=>k x h1 y h3 h2
end
noncomputable section
variable {α β ex:Type} {fo:Option α} {kf:α→Option β} {q:β} {d:Option Nat} {f:FuncId} {xs xs0:List SV} {M:List Ch} {sv:α→ex→SV} {Lr:α→ex→List Ch}
theorem fM(is:List Nat)
    (hs:cpS (jC T n K cf m e L)=some (o,d,f,xs,cf1,cf2,K',m',e',L')) (hi:aZ (fun i=>L'[i]?) is=some M) (hx:aZ (rnP [] 0) xs=some xs0)
    (hk:(L5 M && (cW is && is.all fun j=>eT j cf1.wQ))=true)
    (hc:∀{κ:Ctx},HG c κ L' is→VS P κ f fo xs0 [] M sv Lr)
    (k:∀x,∀y:ex,W (G (.mk P T hT n c B0 N X Q) K' m' (dse d (sv x y) e') (L4 L' is++Lr x y) cf2) q (kf x)) (hn:∀x y,(L5 (Lr x y) && DR 0 (sv x y))=true:=by exact fun _ _=>rfl):W (G (.mk P T hT n c B0 N X Q) K m e L cf) q (fo.bind kf):=fun hF=>
  cw0 is hs hi hx hk hn (fun h _ hx=>hc h _ hx) hF fun x _ h y=>k x y h
theorem eI{c1:List SV}{a1:α→ex→List SV}(i1 n1 o1 k1:Nat)(is:List Nat)
    (hs:cpS (jC T n K cf m e L)=some (o,d,f,xs,cf1,cf2,K',m',e',L')) (hb:aEV L' [(i1,n1,o1,k1)]=some [c1]) (hi:aZ (fun i=>L'[i]?) is=some M) (hx:aZ (rnP [(i1,n1,o1,k1)] 0) xs=some xs0)
    (hk:(L5 M && ([c1].all (DR.okC 0) && (cW (i1 :: is) && (i1 :: is).all fun j=>eT j cf1.wQ)))=true)
    (hc:∀{κ:Ctx},HG c κ L' (i1 :: is)→∀{b1:Nat×Nat},VS P κ f fo xs0 [b1] (.box 0 c1 :: M) sv (fun x y=>.box 0 (a1 x y) :: Lr x y))
    (k:∀x,∀y:ex,W (G (.mk P T hT n c B0 N X Q) K' m' (dse d (sv x y) e') (JQ L' (L4 L' (i1 :: is)++Lr x y) [(i1,n1,o1,k1)] [a1 x y]) cf2) q (kf x)) (hn:∀x y,(W6 [(i1,n1,o1,k1)] [a1 x y] && ([a1 x y].all (DR.okC 0) && (L5 (Lr x y) && DR 0 (sv x y))))=true:=by exact fun _ _=>rfl):W (G (.mk P T hT n c B0 N X Q) K m e L cf) q (fo.bind kf):=fun hF=>
  cw1 i1 n1 o1 k1 is hs hb hi hx hk hn (fun h _ _ hx=>hc h _ hx) hF fun x _ h y=>k x y h
theorem TL{c1 c2:List SV}{a1 a2:α→ex→List SV}(i1 n1 o1 k1:Nat)(i2 n2 o2 k2:Nat)(is:List Nat)
    (hs:cpS (jC T n K cf m e L)=some (o,d,f,xs,cf1,cf2,K',m',e',L')) (hb:aEV L' [(i1,n1,o1,k1),(i2,n2,o2,k2)]=some [c1,c2]) (hi:aZ (fun i=>L'[i]?) is=some M) (hx:aZ (rnP [(i1,n1,o1,k1),(i2,n2,o2,k2)] 0) xs=some xs0)
    (hk:(L5 M && ([c1,c2].all (DR.okC 0) && (cW (i1 :: i2 :: is) && (i1 :: i2 :: is).all fun j=>eT j cf1.wQ)))=true)
    (hc:∀{κ:Ctx},HG c κ L' (i1 :: i2 :: is)→∀{b1 b2:Nat×Nat},VS P κ f fo xs0 [b1,b2] (.box 0 c1 :: .box 1 c2 :: M) sv (fun x y=>.box 0 (a1 x y) :: .box 1 (a2 x y) :: Lr x y))
    (k:∀x,∀y:ex,W (G (.mk P T hT n c B0 N X Q) K' m' (dse d (sv x y) e') (JQ L' (L4 L' (i1 :: i2 :: is)++Lr x y) [(i1,n1,o1,k1),(i2,n2,o2,k2)] [a1 x y,a2 x y]) cf2) q (kf x)) (hn:∀x y,(W6 [(i1,n1,o1,k1),(i2,n2,o2,k2)] [a1 x y,a2 x y] && ([a1 x y,a2 x y].all (DR.okC 0) && (L5 (Lr x y) && DR 0 (sv x y))))=true:=by exact fun _ _=>rfl):W (G (.mk P T hT n c B0 N X Q) K m e L cf) q (fo.bind kf):=fun hF=>
  cw2 i1 n1 o1 k1 i2 n2 o2 k2 is hs hb hi hx hk hn (fun h _ _ _ hx=>hc h _ hx) hF fun x _ h y=>k x y h
end
theorem aJB{α β:Type}{iR:aL α}{C:JI α}{sr:β→SV}{g:FuncId}{w:World}{p:α→Option β}(hc:∀args w,(callFunc g args).run P w=.ok (.enter g args) w)(hn:∀{κ:Ctx} {x y},C.sub κ.S0 κ.w0 x y→V0 P κ g (p x) [C.sv x y] sr):ZW P (cG w) C sr g [] p:=fu1 hc (by intro κ x y h q hq;exact hn h _ hq)
theorem aMV{α β:Type}{iR:aL α}{C:JI α}{sr:β→SV}{g:FuncId}{w:World}{Bs:Bl}{cs:List (Nat×List SV)}{p:α→Option β}(hc:∀args w,(callFunc g args).run P w=.ok (.enter g args) w)(hB:∀w1,eM F0 w w1→kK (cG w1) w1 Bs (roL 0 cs))(hl:aZ (eR Bs) (aMD 0 cs)=some (W4 Bs))(hn:∀{w1 x y},eM F0 w w1→C.sub (KL w1) w1 x y→VS P (cG w1) g (p x) (C.sv x y :: aMD 0 cs) Bs (roL 0 cs) (fun r (_:Unit)=>sr r) (fun _ _=>[]))(hz:∀q,DR 0 (sr q)=true:=by exact fun _=>rfl):ZW P (cG w) C sr g (W4 Bs) p:=fk1 hc hB hl hz (by intro w1 x y h h' q hq;exact hn h h' _ hq)
noncomputable section
variable {α β:Type} {fo:Option α} {kf:α→Option β} {q:β} {d:Nat} {f g:FuncId} {xs:List SV} {sv:α→SV}
theorem aMW{n1:Nat}{c1:List SV}(is:List Nat)(hs:jC T n K cf m e L=.callp o (some d) f xs cf1 cf2 K' m' e' L')(hk:kl L' is=[.ro n1 c1])(ho:(aER [(n1,c1)] && okA xs.dropLast)=true)(hx:xs=xs.dropLast ++ [.f g [n1]])
    (hc:∀{w},HS c w L'→∀{b1:Nat×Nat},(∀w1,eM F0 w w1→kK (cG w1) w1 [b1] [.ro 0 c1])→V0 P (cG w) f fo (xs.dropLast ++ [.k (.func (.func g) #[] (W4 [b1]).toArray)]) sv)
    (k:∀x,W (G (.mk P T hT n c B0 N X Q) K' m' ((d,sv x) :: e') L' cf2) q (kf x)):W (G (.mk P T hT n c B0 N X Q) K m e L cf) q (fo.bind kf):=fun hF=>
  aUD is hs hk ho hx (fun h _ h2 _ hx=>hc h h2 _ hx) hF fun x _ h=>k x h
end
end
end Go.Gv
end
noncomputable section
namespace Go.Gv
structure cX where
  Kind:Int
  Cell:Int
  dT:Int
  dV:Int
  deriving DecidableEq,Inhabited
instance:aL cX:=aL.via (fun d=>(d.Kind,d.Cell,d.dT,d.dV))
instance:Fits cX:=Fits.via (fun d=>(d.Kind,d.Cell,d.dT,d.dV))
theorem aMX{S:b8}{w:World}{cs:List Value}{d:cX}(h:aL.rd S w cs d):cs=[.int .i64 (d.Kind),.int .i64 (d.Cell),.int .i64 (d.dT),.int .i64 (d.dV)]:=by
  obtain⟨c0,r0,e0,h0,n0⟩:=h
  have q0:c0=[_]:=h0
  obtain⟨c1,r1,e1,h1,n1⟩:=n0
  have q1:c1=[_]:=h1
  obtain⟨c2,r2,e2,h2,n2⟩:=n1
  have q2:c2=[_]:=h2
  have q3:r2=[_]:=n2
  exact by rw [e0,e1,e2,q0,q1,q2,q3];rfl
theorem aC0{S:b8}{w:World}(d:cX):aL.rd S w [.int .i64 (d.Kind),.int .i64 (d.Cell),.int .i64 (d.dT),.int .i64 (d.dV)] d:=⟨[.int .i64 (d.Kind)],[.int .i64 (d.Cell),.int .i64 (d.dT),.int .i64 (d.dV)],rfl,rfl,⟨[.int .i64 (d.Cell)],[.int .i64 (d.dT),.int .i64 (d.dV)],rfl,rfl,⟨[.int .i64 (d.dT)],[.int .i64 (d.dV)],rfl,rfl,rfl⟩⟩⟩
instance:Flat cX:=⟨fun h=>Flat.own_of (α:=Int×Int×Int×Int) h,fun h=>Flat.no (α:=Int×Int×Int×Int) h⟩
theorem aR0(d:cX):OP [.int .i64 (d.Kind),.int .i64 (d.Cell),.int .i64 (d.dT),.int .i64 (d.dV)] d []:=(show OP (α:=Int×Int×Int×Int) _ (d.Kind,d.Cell,d.dT,d.dV) _ from (g7 (c1:=[.int .i64 (d.Kind)]) (c2:=[.int .i64 (d.Cell),.int .i64 (d.dT),.int .i64 (d.dV)]) (A:=[]) (B:=[]) (eS rfl) (g7 (c1:=[.int .i64 (d.Cell)]) (c2:=[.int .i64 (d.dT),.int .i64 (d.dV)]) (A:=[]) (B:=[]) (eS rfl) (g7 (c1:=[.int .i64 (d.dT)]) (c2:=[.int .i64 (d.dV)]) (A:=[]) (B:=[]) (eS rfl) (eS rfl) rfl) rfl) rfl))
structure Queue where
  fK:List cX
  deriving DecidableEq,Inhabited
instance:aL Queue:=aL.via (fun d=>(d.fK))
instance:Fits Queue:=Fits.via (fun d=>(d.fK))
theorem aMY{S:b8}{w:World}{cs:List Value}{d:Queue}(h:aL.rd S w cs d):∃v0:Value,cs=[v0]∧aL.rd S w [v0] d.fK:=by
  obtain⟨u0,q0⟩:=wB h
  rw [q0] at h
  exact⟨u0,q0,h⟩
theorem aE4(d:Queue){v0:Value}:OP [v0] d [cR [v0] d.fK]:=(show OP (α:=(List cX)) _ (d.fK) _ from aF6)
structure fD where
  aY:List Queue
  cT:List Int
  deriving DecidableEq,Inhabited
instance:aL fD:=aL.via (fun d=>(d.aY,d.cT))
instance:Fits fD:=Fits.via (fun d=>(d.aY,d.cT))
theorem aJC{S:b8}{w:World}{cs:List Value}{d:fD}(h:aL.rd S w cs d):∃v0 v1:Value,cs=[v0,v1]∧aL.rd S w [v0] d.aY∧aL.rd S w [v1] d.cT:=by
  obtain⟨c0,r0,e0,h0,n0⟩:=h
  obtain⟨u0,q0⟩:=wB h0
  rw [q0] at h0
  obtain⟨u1,q1⟩:=wB n0
  rw [q1] at n0
  exact⟨u0,u1,by rw [e0,q0,q1];rfl,h0,n0⟩
structure aC where
  Bytes:List Int
  Class:List Int
  deriving DecidableEq,Inhabited
instance:aL aC:=aL.via (fun d=>(d.Bytes,d.Class))
instance:Fits aC:=Fits.via (fun d=>(d.Bytes,d.Class))
structure aG where
  aO:List Int
  deriving DecidableEq,Inhabited
instance:aL aG:=aL.via (fun d=>(d.aO))
instance:Fits aG:=Fits.via (fun d=>(d.aO))
theorem aE5{S:b8}{w:World}{cs:List Value}{d:aG}(h:aL.rd S w cs d):∃v0:Value,cs=[v0]∧aL.rd S w [v0] d.aO:=by
  obtain⟨u0,q0⟩:=wB h
  rw [q0] at h
  exact⟨u0,q0,h⟩
theorem wS(d:aG){v0:Value}:OP [v0] d [cR [v0] d.aO]:=(show OP (α:=(List Int)) _ (d.aO) _ from aF6)
theorem _root_.Go.Gv.St.aMZ{c:Ctx}{L:List Chunk}{R:List Fact}{w:World}{s:Value}{l:List aG}{i:Nat}{x:aG}(h:St c w L R)(j:Nat)(hj:R[j]?=some (wN [s] l))(hi:l[i]?=some x):∃v0:Value,bO w (LP s) (LJ 1 i s) [v0]∧St c w L (R ++ [wN [v0] x.aO]):=by
  obtain⟨S,hS,hk⟩:=h.aKO hj
  obtain⟨ec,h1,h2⟩:=aEA hS hi
  obtain⟨v0,q,q0⟩:=aE5 h2
  rw [q] at h1
  exact⟨v0,h1,hk _ (by intro f hf;simp only [List.mem_cons,List.not_mem_nil,or_false] at hf;subst hf;exact q0)⟩
structure aA where
  Global:List aG
  aU:List aG
  deriving DecidableEq,Inhabited
instance:aL aA:=aL.via (fun d=>(d.Global,d.aU))
instance:Fits aA:=Fits.via (fun d=>(d.Global,d.aU))
structure Mem where
  aC:aC
  aA:aA
  deriving DecidableEq,Inhabited
instance:aL Mem:=aL.via (fun d=>(d.aC,d.aA))
instance:Fits Mem:=Fits.via (fun d=>(d.aC,d.aA))
structure dK where
  On:Bool
  aJ:Int
  d9:Bool
  Seen:Int
  deriving DecidableEq,Inhabited
instance:aL dK:=aL.via (fun d=>(d.On,d.aJ,d.d9,d.Seen))
instance:Fits dK:=Fits.via (fun d=>(d.On,d.aJ,d.d9,d.Seen))
theorem aR1{S:b8}{w:World}{cs:List Value}{d:dK}(h:aL.rd S w cs d):cs=[.bool (d.On),.int .i64 (d.aJ),.bool (d.d9),.int .i64 (d.Seen)]:=by
  obtain⟨c0,r0,e0,h0,n0⟩:=h
  have q0:c0=[_]:=h0
  obtain⟨c1,r1,e1,h1,n1⟩:=n0
  have q1:c1=[_]:=h1
  obtain⟨c2,r2,e2,h2,n2⟩:=n1
  have q2:c2=[_]:=h2
  have q3:r2=[_]:=n2
  exact by rw [e0,e1,e2,q0,q1,q2,q3];rfl
theorem aM0{S:b8}{w:World}(d:dK):aL.rd S w [.bool (d.On),.int .i64 (d.aJ),.bool (d.d9),.int .i64 (d.Seen)] d:=⟨[.bool (d.On)],[.int .i64 (d.aJ),.bool (d.d9),.int .i64 (d.Seen)],rfl,rfl,⟨[.int .i64 (d.aJ)],[.bool (d.d9),.int .i64 (d.Seen)],rfl,rfl,⟨[.bool (d.d9)],[.int .i64 (d.Seen)],rfl,rfl,rfl⟩⟩⟩
instance:Flat dK:=⟨fun h=>Flat.own_of (α:=Bool×Int×Bool×Int) h,fun h=>Flat.no (α:=Bool×Int×Bool×Int) h⟩
theorem aR2(d:dK):OP [.bool (d.On),.int .i64 (d.aJ),.bool (d.d9),.int .i64 (d.Seen)] d []:=(show OP (α:=Bool×Int×Bool×Int) _ (d.On,d.aJ,d.d9,d.Seen) _ from (g7 (c1:=[.bool (d.On)]) (c2:=[.int .i64 (d.aJ),.bool (d.d9),.int .i64 (d.Seen)]) (A:=[]) (B:=[]) (eS rfl) (g7 (c1:=[.int .i64 (d.aJ)]) (c2:=[.bool (d.d9),.int .i64 (d.Seen)]) (A:=[]) (B:=[]) (eS rfl) (g7 (c1:=[.bool (d.d9)]) (c2:=[.int .i64 (d.Seen)]) (A:=[]) (B:=[]) (eS rfl) (eS rfl) rfl) rfl) rfl))
structure aD where
  aJ:Int
  aP:List dK
  deriving DecidableEq,Inhabited
instance:aL aD:=aL.via (fun d=>(d.aJ,d.aP))
instance:Fits aD:=Fits.via (fun d=>(d.aJ,d.aP))
structure bY where
  Handle:Int
  aJ:Int
  deriving DecidableEq,Inhabited
instance:aL bY:=aL.via (fun d=>(d.Handle,d.aJ))
instance:Fits bY:=Fits.via (fun d=>(d.Handle,d.aJ))
theorem aIL{S:b8}{w:World}{cs:List Value}{d:bY}(h:aL.rd S w cs d):cs=[.int .i64 (d.Handle),.int .i64 (d.aJ)]:=by
  obtain⟨c0,r0,e0,h0,n0⟩:=h
  have q0:c0=[_]:=h0
  have q1:r0=[_]:=n0
  exact by rw [e0,q0,q1];rfl
theorem aPK{S:b8}{w:World}(d:bY):aL.rd S w [.int .i64 (d.Handle),.int .i64 (d.aJ)] d:=⟨[.int .i64 (d.Handle)],[.int .i64 (d.aJ)],rfl,rfl,rfl⟩
instance:Flat bY:=⟨fun h=>Flat.own_of (α:=Int×Int) h,fun h=>Flat.no (α:=Int×Int) h⟩
theorem aPL(d:bY):OP [.int .i64 (d.Handle),.int .i64 (d.aJ)] d []:=(show OP (α:=Int×Int) _ (d.Handle,d.aJ) _ from (g7 (c1:=[.int .i64 (d.Handle)]) (c2:=[.int .i64 (d.aJ)]) (A:=[]) (B:=[]) (eS rfl) (eS rfl) rfl))
theorem aPM{S:b8}{w:World}{s:Value}{l:List bY}{i:Nat}{x:bY}(h:aL.rd S w [s] l)(hi:l[i]?=some x):bO w (LP s) (LJ 2 i s) [.int .i64 (x.Handle),.int .i64 (x.aJ)]:=by
  obtain⟨ec,h1,h2⟩:=aEA h hi
  rw [aIL h2] at h1;exact h1
structure aN where
  Rows:List bY
  deriving DecidableEq,Inhabited
instance:aL aN:=aL.via (fun d=>(d.Rows))
instance:Fits aN:=Fits.via (fun d=>(d.Rows))
theorem aE6{S:b8}{w:World}{cs:List Value}{d:aN}(h:aL.rd S w cs d):∃v0:Value,cs=[v0]∧aL.rd S w [v0] d.Rows:=by
  obtain⟨u0,q0⟩:=wB h
  rw [q0] at h
  exact⟨u0,q0,h⟩
theorem XB(d:aN){v0:Value}:OP [v0] d [cR [v0] d.Rows]:=(show OP (α:=(List bY)) _ (d.Rows) _ from aF6)
theorem _root_.Go.Gv.St.aE7{c:Ctx}{L:List Chunk}{R:List Fact}{w:World}{s:Value}{l:List aN}{i:Nat}{x:aN}(h:St c w L R)(j:Nat)(hj:R[j]?=some (wN [s] l))(hi:l[i]?=some x):∃v0:Value,bO w (LP s) (LJ 1 i s) [v0]∧St c w L (R ++ [wN [v0] x.Rows]):=by
  obtain⟨S,hS,hk⟩:=h.aKO hj
  obtain⟨ec,h1,h2⟩:=aEA hS hi
  obtain⟨v0,q,q0⟩:=aE6 h2
  rw [q] at h1
  exact⟨v0,h1,hk _ (by intro f hf;simp only [List.mem_cons,List.not_mem_nil,or_false] at hf;subst hf;exact q0)⟩
structure aB where
  Mem:Mem
  aD:aD
  aK:List aN
  b9:List Int
  deriving DecidableEq,Inhabited
instance:aL aB:=aL.via (fun d=>(d.Mem,d.aD,d.aK,d.b9))
instance:Fits aB:=Fits.via (fun d=>(d.Mem,d.aD,d.aK,d.b9))
structure Sub where
  Kind:Int
  A:Int
  Pc:Int
  E:Int
  Row:Int
  B:Int
  H:Int
  Out:Int
  Code:Int
  cH:Bool
  deriving DecidableEq,Inhabited
instance:aL Sub:=aL.via (fun d=>(d.Kind,d.A,d.Pc,d.E,d.Row,d.B,d.H,d.Out,d.Code,d.cH))
instance:Fits Sub:=Fits.via (fun d=>(d.Kind,d.A,d.Pc,d.E,d.Row,d.B,d.H,d.Out,d.Code,d.cH))
theorem aR3{S:b8}{w:World}{cs:List Value}{d:Sub}(h:aL.rd S w cs d):cs=[.int .i64 (d.Kind),.int .i64 (d.A),.int .i64 (d.Pc),.int .i64 (d.E),.int .i64 (d.Row),.int .i64 (d.B),.int .i64 (d.H),.int .i64 (d.Out),.int .i64 (d.Code),.bool (d.cH)]:=by
  obtain⟨c0,r0,e0,h0,n0⟩:=h
  have q0:c0=[_]:=h0
  obtain⟨c1,r1,e1,h1,n1⟩:=n0
  have q1:c1=[_]:=h1
  obtain⟨c2,r2,e2,h2,n2⟩:=n1
  have q2:c2=[_]:=h2
  obtain⟨c3,r3,e3,h3,n3⟩:=n2
  have q3:c3=[_]:=h3
  obtain⟨c4,r4,e4,h4,n4⟩:=n3
  have q4:c4=[_]:=h4
  obtain⟨c5,r5,e5,h5,n5⟩:=n4
  have q5:c5=[_]:=h5
  obtain⟨c6,r6,e6,h6,n6⟩:=n5
  have q6:c6=[_]:=h6
  obtain⟨c7,r7,e7,h7,n7⟩:=n6
  have q7:c7=[_]:=h7
  obtain⟨c8,r8,e8,h8,n8⟩:=n7
  have q8:c8=[_]:=h8
  have q9:r8=[_]:=n8
  exact by rw [e0,e1,e2,e3,e4,e5,e6,e7,e8,q0,q1,q2,q3,q4,q5,q6,q7,q8,q9];rfl
theorem aM1{S:b8}{w:World}(d:Sub):aL.rd S w [.int .i64 (d.Kind),.int .i64 (d.A),.int .i64 (d.Pc),.int .i64 (d.E),.int .i64 (d.Row),.int .i64 (d.B),.int .i64 (d.H),.int .i64 (d.Out),.int .i64 (d.Code),.bool (d.cH)] d:=⟨[.int .i64 (d.Kind)],[.int .i64 (d.A),.int .i64 (d.Pc),.int .i64 (d.E),.int .i64 (d.Row),.int .i64 (d.B),.int .i64 (d.H),.int .i64 (d.Out),.int .i64 (d.Code),.bool (d.cH)],rfl,rfl,⟨[.int .i64 (d.A)],[.int .i64 (d.Pc),.int .i64 (d.E),.int .i64 (d.Row),.int .i64 (d.B),.int .i64 (d.H),.int .i64 (d.Out),.int .i64 (d.Code),.bool (d.cH)],rfl,rfl,⟨[.int .i64 (d.Pc)],[.int .i64 (d.E),.int .i64 (d.Row),.int .i64 (d.B),.int .i64 (d.H),.int .i64 (d.Out),.int .i64 (d.Code),.bool (d.cH)],rfl,rfl,⟨[.int .i64 (d.E)],[.int .i64 (d.Row),.int .i64 (d.B),.int .i64 (d.H),.int .i64 (d.Out),.int .i64 (d.Code),.bool (d.cH)],rfl,rfl,⟨[.int .i64 (d.Row)],[.int .i64 (d.B),.int .i64 (d.H),.int .i64 (d.Out),.int .i64 (d.Code),.bool (d.cH)],rfl,rfl,⟨[.int .i64 (d.B)],[.int .i64 (d.H),.int .i64 (d.Out),.int .i64 (d.Code),.bool (d.cH)],rfl,rfl,⟨[.int .i64 (d.H)],[.int .i64 (d.Out),.int .i64 (d.Code),.bool (d.cH)],rfl,rfl,⟨[.int .i64 (d.Out)],[.int .i64 (d.Code),.bool (d.cH)],rfl,rfl,⟨[.int .i64 (d.Code)],[.bool (d.cH)],rfl,rfl,rfl⟩⟩⟩⟩⟩⟩⟩⟩⟩
instance:Flat Sub:=⟨fun h=>Flat.own_of (α:=Int×Int×Int×Int×Int×Int×Int×Int×Int×Bool) h,fun h=>Flat.no (α:=Int×Int×Int×Int×Int×Int×Int×Int×Int×Bool) h⟩
structure bJ where
  kI:Bool
  Op:cX
  aM:Int
  Pc:Int
  Sub:Sub
  H:Int
  Old:Int
  dV:Int
  Code:Int
  deriving DecidableEq,Inhabited
instance:aL bJ:=aL.via (fun d=>(d.kI,d.Op,d.aM,d.Pc,d.Sub,d.H,d.Old,d.dV,d.Code))
instance:Fits bJ:=Fits.via (fun d=>(d.kI,d.Op,d.aM,d.Pc,d.Sub,d.H,d.Old,d.dV,d.Code))
theorem aR4{S:b8}{w:World}{cs:List Value}{d:bJ}(h:aL.rd S w cs d):cs=[.bool (d.kI),.int .i64 (d.Op.Kind),.int .i64 (d.Op.Cell),.int .i64 (d.Op.dT),.int .i64 (d.Op.dV),.int .i64 (d.aM),.int .i64 (d.Pc),.int .i64 (d.Sub.Kind),.int .i64 (d.Sub.A),.int .i64 (d.Sub.Pc),.int .i64 (d.Sub.E),.int .i64 (d.Sub.Row),.int .i64 (d.Sub.B),.int .i64 (d.Sub.H),.int .i64 (d.Sub.Out),.int .i64 (d.Sub.Code),.bool (d.Sub.cH),.int .i64 (d.H),.int .i64 (d.Old),.int .i64 (d.dV),.int .i64 (d.Code)]:=by
  obtain⟨c0,r0,e0,h0,n0⟩:=h
  have q0:c0=[_]:=h0
  obtain⟨c1,r1,e1,h1,n1⟩:=n0
  have q1:=aMX h1
  obtain⟨c2,r2,e2,h2,n2⟩:=n1
  have q2:c2=[_]:=h2
  obtain⟨c3,r3,e3,h3,n3⟩:=n2
  have q3:c3=[_]:=h3
  obtain⟨c4,r4,e4,h4,n4⟩:=n3
  have q4:=aR3 h4
  obtain⟨c5,r5,e5,h5,n5⟩:=n4
  have q5:c5=[_]:=h5
  obtain⟨c6,r6,e6,h6,n6⟩:=n5
  have q6:c6=[_]:=h6
  obtain⟨c7,r7,e7,h7,n7⟩:=n6
  have q7:c7=[_]:=h7
  have q8:r7=[_]:=n7
  exact by rw [e0,e1,e2,e3,e4,e5,e6,e7,q0,q1,q2,q3,q4,q5,q6,q7,q8];rfl
theorem pN{S:b8}{w:World}(d:bJ):aL.rd S w [.bool (d.kI),.int .i64 (d.Op.Kind),.int .i64 (d.Op.Cell),.int .i64 (d.Op.dT),.int .i64 (d.Op.dV),.int .i64 (d.aM),.int .i64 (d.Pc),.int .i64 (d.Sub.Kind),.int .i64 (d.Sub.A),.int .i64 (d.Sub.Pc),.int .i64 (d.Sub.E),.int .i64 (d.Sub.Row),.int .i64 (d.Sub.B),.int .i64 (d.Sub.H),.int .i64 (d.Sub.Out),.int .i64 (d.Sub.Code),.bool (d.Sub.cH),.int .i64 (d.H),.int .i64 (d.Old),.int .i64 (d.dV),.int .i64 (d.Code)] d:=⟨[.bool (d.kI)],[.int .i64 (d.Op.Kind),.int .i64 (d.Op.Cell),.int .i64 (d.Op.dT),.int .i64 (d.Op.dV),.int .i64 (d.aM),.int .i64 (d.Pc),.int .i64 (d.Sub.Kind),.int .i64 (d.Sub.A),.int .i64 (d.Sub.Pc),.int .i64 (d.Sub.E),.int .i64 (d.Sub.Row),.int .i64 (d.Sub.B),.int .i64 (d.Sub.H),.int .i64 (d.Sub.Out),.int .i64 (d.Sub.Code),.bool (d.Sub.cH),.int .i64 (d.H),.int .i64 (d.Old),.int .i64 (d.dV),.int .i64 (d.Code)],rfl,rfl,⟨[.int .i64 (d.Op.Kind),.int .i64 (d.Op.Cell),.int .i64 (d.Op.dT),.int .i64 (d.Op.dV)],[.int .i64 (d.aM),.int .i64 (d.Pc),.int .i64 (d.Sub.Kind),.int .i64 (d.Sub.A),.int .i64 (d.Sub.Pc),.int .i64 (d.Sub.E),.int .i64 (d.Sub.Row),.int .i64 (d.Sub.B),.int .i64 (d.Sub.H),.int .i64 (d.Sub.Out),.int .i64 (d.Sub.Code),.bool (d.Sub.cH),.int .i64 (d.H),.int .i64 (d.Old),.int .i64 (d.dV),.int .i64 (d.Code)],rfl,(aC0 _),⟨[.int .i64 (d.aM)],[.int .i64 (d.Pc),.int .i64 (d.Sub.Kind),.int .i64 (d.Sub.A),.int .i64 (d.Sub.Pc),.int .i64 (d.Sub.E),.int .i64 (d.Sub.Row),.int .i64 (d.Sub.B),.int .i64 (d.Sub.H),.int .i64 (d.Sub.Out),.int .i64 (d.Sub.Code),.bool (d.Sub.cH),.int .i64 (d.H),.int .i64 (d.Old),.int .i64 (d.dV),.int .i64 (d.Code)],rfl,rfl,⟨[.int .i64 (d.Pc)],[.int .i64 (d.Sub.Kind),.int .i64 (d.Sub.A),.int .i64 (d.Sub.Pc),.int .i64 (d.Sub.E),.int .i64 (d.Sub.Row),.int .i64 (d.Sub.B),.int .i64 (d.Sub.H),.int .i64 (d.Sub.Out),.int .i64 (d.Sub.Code),.bool (d.Sub.cH),.int .i64 (d.H),.int .i64 (d.Old),.int .i64 (d.dV),.int .i64 (d.Code)],rfl,rfl,⟨[.int .i64 (d.Sub.Kind),.int .i64 (d.Sub.A),.int .i64 (d.Sub.Pc),.int .i64 (d.Sub.E),.int .i64 (d.Sub.Row),.int .i64 (d.Sub.B),.int .i64 (d.Sub.H),.int .i64 (d.Sub.Out),.int .i64 (d.Sub.Code),.bool (d.Sub.cH)],[.int .i64 (d.H),.int .i64 (d.Old),.int .i64 (d.dV),.int .i64 (d.Code)],rfl,(aM1 _),⟨[.int .i64 (d.H)],[.int .i64 (d.Old),.int .i64 (d.dV),.int .i64 (d.Code)],rfl,rfl,⟨[.int .i64 (d.Old)],[.int .i64 (d.dV),.int .i64 (d.Code)],rfl,rfl,⟨[.int .i64 (d.dV)],[.int .i64 (d.Code)],rfl,rfl,rfl⟩⟩⟩⟩⟩⟩⟩⟩
instance:Flat bJ:=⟨fun h=>Flat.own_of (α:=Bool×cX×Int×Int×Sub×Int×Int×Int×Int) h,fun h=>Flat.no (α:=Bool×cX×Int×Int×Sub×Int×Int×Int×Int) h⟩
theorem aR5(d:bJ):OP [.bool (d.kI),.int .i64 (d.Op.Kind),.int .i64 (d.Op.Cell),.int .i64 (d.Op.dT),.int .i64 (d.Op.dV),.int .i64 (d.aM),.int .i64 (d.Pc),.int .i64 (d.Sub.Kind),.int .i64 (d.Sub.A),.int .i64 (d.Sub.Pc),.int .i64 (d.Sub.E),.int .i64 (d.Sub.Row),.int .i64 (d.Sub.B),.int .i64 (d.Sub.H),.int .i64 (d.Sub.Out),.int .i64 (d.Sub.Code),.bool (d.Sub.cH),.int .i64 (d.H),.int .i64 (d.Old),.int .i64 (d.dV),.int .i64 (d.Code)] d []:=(show OP (α:=Bool×cX×Int×Int×Sub×Int×Int×Int×Int) _ (d.kI,d.Op,d.aM,d.Pc,d.Sub,d.H,d.Old,d.dV,d.Code) _ from (g7 (c1:=[.bool (d.kI)]) (c2:=[.int .i64 (d.Op.Kind),.int .i64 (d.Op.Cell),.int .i64 (d.Op.dT),.int .i64 (d.Op.dV),.int .i64 (d.aM),.int .i64 (d.Pc),.int .i64 (d.Sub.Kind),.int .i64 (d.Sub.A),.int .i64 (d.Sub.Pc),.int .i64 (d.Sub.E),.int .i64 (d.Sub.Row),.int .i64 (d.Sub.B),.int .i64 (d.Sub.H),.int .i64 (d.Sub.Out),.int .i64 (d.Sub.Code),.bool (d.Sub.cH),.int .i64 (d.H),.int .i64 (d.Old),.int .i64 (d.dV),.int .i64 (d.Code)]) (A:=[]) (B:=[]) (eS rfl) (g7 (c1:=[.int .i64 (d.Op.Kind),.int .i64 (d.Op.Cell),.int .i64 (d.Op.dT),.int .i64 (d.Op.dV)]) (c2:=[.int .i64 (d.aM),.int .i64 (d.Pc),.int .i64 (d.Sub.Kind),.int .i64 (d.Sub.A),.int .i64 (d.Sub.Pc),.int .i64 (d.Sub.E),.int .i64 (d.Sub.Row),.int .i64 (d.Sub.B),.int .i64 (d.Sub.H),.int .i64 (d.Sub.Out),.int .i64 (d.Sub.Code),.bool (d.Sub.cH),.int .i64 (d.H),.int .i64 (d.Old),.int .i64 (d.dV),.int .i64 (d.Code)]) (A:=[]) (B:=[]) (eS (aC0 _)) (g7 (c1:=[.int .i64 (d.aM)]) (c2:=[.int .i64 (d.Pc),.int .i64 (d.Sub.Kind),.int .i64 (d.Sub.A),.int .i64 (d.Sub.Pc),.int .i64 (d.Sub.E),.int .i64 (d.Sub.Row),.int .i64 (d.Sub.B),.int .i64 (d.Sub.H),.int .i64 (d.Sub.Out),.int .i64 (d.Sub.Code),.bool (d.Sub.cH),.int .i64 (d.H),.int .i64 (d.Old),.int .i64 (d.dV),.int .i64 (d.Code)]) (A:=[]) (B:=[]) (eS rfl) (g7 (c1:=[.int .i64 (d.Pc)]) (c2:=[.int .i64 (d.Sub.Kind),.int .i64 (d.Sub.A),.int .i64 (d.Sub.Pc),.int .i64 (d.Sub.E),.int .i64 (d.Sub.Row),.int .i64 (d.Sub.B),.int .i64 (d.Sub.H),.int .i64 (d.Sub.Out),.int .i64 (d.Sub.Code),.bool (d.Sub.cH),.int .i64 (d.H),.int .i64 (d.Old),.int .i64 (d.dV),.int .i64 (d.Code)]) (A:=[]) (B:=[]) (eS rfl) (g7 (c1:=[.int .i64 (d.Sub.Kind),.int .i64 (d.Sub.A),.int .i64 (d.Sub.Pc),.int .i64 (d.Sub.E),.int .i64 (d.Sub.Row),.int .i64 (d.Sub.B),.int .i64 (d.Sub.H),.int .i64 (d.Sub.Out),.int .i64 (d.Sub.Code),.bool (d.Sub.cH)]) (c2:=[.int .i64 (d.H),.int .i64 (d.Old),.int .i64 (d.dV),.int .i64 (d.Code)]) (A:=[]) (B:=[]) (eS (aM1 _)) (g7 (c1:=[.int .i64 (d.H)]) (c2:=[.int .i64 (d.Old),.int .i64 (d.dV),.int .i64 (d.Code)]) (A:=[]) (B:=[]) (eS rfl) (g7 (c1:=[.int .i64 (d.Old)]) (c2:=[.int .i64 (d.dV),.int .i64 (d.Code)]) (A:=[]) (B:=[]) (eS rfl) (g7 (c1:=[.int .i64 (d.dV)]) (c2:=[.int .i64 (d.Code)]) (A:=[]) (B:=[]) (eS rfl) (eS rfl) rfl) rfl) rfl) rfl) rfl) rfl) rfl) rfl))
structure Ev where
  Kind:Int
  Who:Int
  aM:Int
  Cell:Int
  Handle:Int
  dV:Int
  Code:Int
  deriving DecidableEq,Inhabited
instance:aL Ev:=aL.via (fun d=>(d.Kind,d.Who,d.aM,d.Cell,d.Handle,d.dV,d.Code))
instance:Fits Ev:=Fits.via (fun d=>(d.Kind,d.Who,d.aM,d.Cell,d.Handle,d.dV,d.Code))
theorem aTQ{S:b8}{w:World}{cs:List Value}{d:Ev}(h:aL.rd S w cs d):cs=[.int .i64 (d.Kind),.int .i64 (d.Who),.int .i64 (d.aM),.int .i64 (d.Cell),.int .i64 (d.Handle),.int .i64 (d.dV),.int .i64 (d.Code)]:=by
  obtain⟨c0,r0,e0,h0,n0⟩:=h
  have q0:c0=[_]:=h0
  obtain⟨c1,r1,e1,h1,n1⟩:=n0
  have q1:c1=[_]:=h1
  obtain⟨c2,r2,e2,h2,n2⟩:=n1
  have q2:c2=[_]:=h2
  obtain⟨c3,r3,e3,h3,n3⟩:=n2
  have q3:c3=[_]:=h3
  obtain⟨c4,r4,e4,h4,n4⟩:=n3
  have q4:c4=[_]:=h4
  obtain⟨c5,r5,e5,h5,n5⟩:=n4
  have q5:c5=[_]:=h5
  have q6:r5=[_]:=n5
  exact by rw [e0,e1,e2,e3,e4,e5,q0,q1,q2,q3,q4,q5,q6];rfl
instance:Flat Ev:=⟨fun h=>Flat.own_of (α:=Int×Int×Int×Int×Int×Int×Int) h,fun h=>Flat.no (α:=Int×Int×Int×Int×Int×Int×Int) h⟩
theorem aTR(d:Ev):OP [.int .i64 (d.Kind),.int .i64 (d.Who),.int .i64 (d.aM),.int .i64 (d.Cell),.int .i64 (d.Handle),.int .i64 (d.dV),.int .i64 (d.Code)] d []:=(show OP (α:=Int×Int×Int×Int×Int×Int×Int) _ (d.Kind,d.Who,d.aM,d.Cell,d.Handle,d.dV,d.Code) _ from (g7 (c1:=[.int .i64 (d.Kind)]) (c2:=[.int .i64 (d.Who),.int .i64 (d.aM),.int .i64 (d.Cell),.int .i64 (d.Handle),.int .i64 (d.dV),.int .i64 (d.Code)]) (A:=[]) (B:=[]) (eS rfl) (g7 (c1:=[.int .i64 (d.Who)]) (c2:=[.int .i64 (d.aM),.int .i64 (d.Cell),.int .i64 (d.Handle),.int .i64 (d.dV),.int .i64 (d.Code)]) (A:=[]) (B:=[]) (eS rfl) (g7 (c1:=[.int .i64 (d.aM)]) (c2:=[.int .i64 (d.Cell),.int .i64 (d.Handle),.int .i64 (d.dV),.int .i64 (d.Code)]) (A:=[]) (B:=[]) (eS rfl) (g7 (c1:=[.int .i64 (d.Cell)]) (c2:=[.int .i64 (d.Handle),.int .i64 (d.dV),.int .i64 (d.Code)]) (A:=[]) (B:=[]) (eS rfl) (g7 (c1:=[.int .i64 (d.Handle)]) (c2:=[.int .i64 (d.dV),.int .i64 (d.Code)]) (A:=[]) (B:=[]) (eS rfl) (g7 (c1:=[.int .i64 (d.dV)]) (c2:=[.int .i64 (d.Code)]) (A:=[]) (B:=[]) (eS rfl) (eS rfl) rfl) rfl) rfl) rfl) rfl) rfl))
structure aI where
  aB:aB
  Cells:List Int
  aQ:List bJ
  aY:List Queue
  Log:List Ev
  aM:Int
  deriving DecidableEq,Inhabited
instance:aL aI:=aL.via (fun d=>(d.aB,d.Cells,d.aQ,d.aY,d.Log,d.aM))
instance:Fits aI:=Fits.via (fun d=>(d.aB,d.Cells,d.aQ,d.aY,d.Log,d.aM))
structure Span where
  aM2:Int
  To:Int
  deriving DecidableEq,Inhabited
instance:aL Span:=aL.via (fun d=>(d.aM2,d.To))
instance:Fits Span:=Fits.via (fun d=>(d.aM2,d.To))
instance:Flat Span:=⟨fun h=>Flat.own_of (α:=Int×Int) h,fun h=>Flat.no (α:=Int×Int) h⟩
end Go.Gv
end
noncomputable section
set_option linter.unusedVariables false
namespace Go.Gv
noncomputable section
def JS(a_:List cX)(left:Int):Option Int:=
  (if decide ((aH (left - (a_.length:Int))) < 0) then some (-1) else some (aH (left - (a_.length:Int))))
def B3(a_:Queue)(left:Int):Option Int:=
  (JS a_.fK left).bind fun x1=>(if decide (x1 < 0) then some (-1) else some x1)
def H8(x5:Int):Option Int:=
  some x5
def rL(a_:List Queue):(Int×Int)→Option (Step (Int×Int) (Out Int Int))
  | (x3,x4)=>(if decide (x4 < (a_.length:Int)) then (idx a_ x4).bind fun x6=>(B3 x6 x3).bind fun x7=>(if decide (x7 < 0) then some (.stop (Out.ret (-1))) else some (.next (x7,aH (x4+1)))) else some (.stop (Out.brk x3)))
def H9:(Out Int Int)→Option Int
  | .brk x5=>H8 x5
  | .ret r=>some r
def zN(a_:List Queue)(left:Int):Option Int:=
  (if decide ((aH (left - (a_.length:Int))) < 0) then some (-1) else (loop (rL a_) (aH (left - (a_.length:Int)),0)).bind (H9))
def FJ(a_:List Int)(left:Int):Option Int:=
  (if decide ((aH (left - (a_.length:Int))) < 0) then some (-1) else some (aH (left - (a_.length:Int))))
def zO(a_:fD)(left:Int):Option Int:=
  (zN a_.aY left).bind fun x1=>(if decide (x1 < 0) then some (-1) else (FJ a_.cT x1).bind fun x2=>(if decide (x2 < 0) then some (-1) else some x2))
def B4(x1:Bool):Option Bool:=
  some x1
def bK(x low high:Int):Option Bool:=
  (if decide (low≤x) then B4 (decide (x≤high)) else B4 false)
def iL(x1:Bool):Option Bool:=
  some x1
def wT(kind:Int):Option Bool:=
  (if kind == 1 then iL true else (if kind == 2 then iL true else (if kind == 3 then iL true else iL (kind == 7))))
def B5(x3:Bool):Option Bool:=
  some x3
def B6(x4:Bool):Option Bool:=
  some x4
def wU(o_:cX)(x2:Bool):Option Bool:=
  (if x2 then some false else (if o_.Kind != 1 then (if o_.dT == 0 then B5 (o_.dV == 0) else B5 false) else (bK o_.dT 0 100).bind fun x5=>(if x5 then (bK o_.dV 0 65535).bind fun x6=>B6 x6 else B6 false)))
def NY(o_:cX):Option Bool:=
  (bK o_.Kind 1 7).bind fun x1=>(if !x1 then some false else (wT o_.Kind).bind fun x7=>(if !x7 then (if o_.Cell != 0 then wU o_ true else (bK o_.Cell 0 1).bind fun x8=>wU o_ (!x8)) else (bK o_.Cell 0 1).bind fun x9=>wU o_ (!x9)))
def KN(todo:List Queue):Option Bool:=
  some ((todo.length:Int) == 3)
def KO(x2:Int):Option (Step Int (Out Unit Bool)):=
  some (.next (aH (x2+1)))
def kO(todo:List Queue)(x2:Int):Int→Option (Step Int (Out Unit Bool))
  | x5=>(idx todo x2).bind fun x6=>(if decide (x5 < (x6.fK.length:Int)) then (idx todo x2).bind fun x7=>(idx x7.fK x5).bind fun x8=>(NY x8).bind fun x9=>(if !x9 then some (.stop (Out.ret false)) else some (.next (aH (x5+1)))) else some (.stop (Out.brk ())))
def KP(x2:Int):(Out Unit Bool)→Option (Step Int (Out Unit Bool))
  | .brk ()=>KO x2
  | .ret r=>some (.stop (Out.ret r))
def kP(todo:List Queue):Int→Option (Step Int (Out Unit Bool))
  | x2=>(if decide (x2 < (todo.length:Int)) then (idx todo x2).bind fun x3=>(if decide (12 < (x3.fK.length:Int)) then some (.stop (Out.ret false)) else (loop (kO todo x2) 0).bind (KP x2)) else some (.stop (Out.brk ())))
def KQ(todo:List Queue):(Out Unit Bool)→Option Bool
  | .brk ()=>KN todo
  | .ret r=>some r
def B7(todo:List Queue):Option Bool:=
  (loop (kP todo) 0).bind (KQ todo)
def TM(x5:List Int):Option aC:=
  some (⟨List.replicate ((384:Int).toNat) 0,x5⟩:aC)
def oQ:(Int×(List Int))→Option (Step (Int×(List Int)) (List Int))
  | (x3,x4)=>(if decide (x3 < 6) then need (x4.length+([(-1)]).length≤1073741824) (some (.next (aH (x3+1),x4++([(-1)])))) else some (.stop (x4)))
def TN:(List Int)→Option aC
  | x5=>TM x5
def B8:Option aC:=
  need (0≤(384:Int)∧(384:Int)≤4294967296) ((loop (oQ) (0,[])).bind (TN))
def IA:Option aA:=
  some (⟨List.replicate ((3:Int).toNat) (⟨[]⟩:aG),List.replicate ((9:Int).toNat) (⟨[]⟩:aG)⟩:aA)
def GX:Option aA:=
  need (0≤(3:Int)∧(3:Int)≤4294967296)<|need (0≤(9:Int)∧(9:Int)≤4294967296)<|IA
def L6:Option Mem:=
  (B8).bind fun x1=>(GX).bind fun x2=>some (⟨x1,x2⟩:Mem)
def GY:Option aD:=
  need (0≤(3:Int)∧(3:Int)≤4294967296) (some (⟨0,List.replicate ((3:Int).toNat) (⟨false,0,false,0⟩:dK)⟩:aD))
def GZ:Option (List aN):=
  need (0≤(3:Int)∧(3:Int)≤4294967296) (some (List.replicate ((3:Int).toNat) (⟨[]⟩:aN)))
def L7:Option (List Int):=
  need (0≤(3:Int)∧(3:Int)≤4294967296) (some (List.replicate ((3:Int).toNat) 0))
def B9:Option aB:=
  (L6).bind fun x1=>(GY).bind fun x2=>(GZ).bind fun x3=>(L7).bind fun x4=>some (⟨x1,x2,x3,x4⟩:aB)
def QF(x5:List Queue):Option (List Queue):=
  some x5
def wV(l:List Queue):((List Queue)×Int)→Option (Step ((List Queue)×Int) (List Queue))
  | (x3,x4)=>(if decide (x4 < (l.length:Int)) then (idx l x4).bind fun x6=>need (([]:List cX).length+x6.fK.length≤1073741824) (need (x3.length+([(⟨([]:List cX)++x6.fK⟩:Queue)]).length≤1073741824) (some (.next (x3++([(⟨([]:List cX)++x6.fK⟩:Queue)]),aH (x4+1))))) else some (.stop (x3)))
def QG:(List Queue)→Option (List Queue)
  | x5=>QF x5
def wW(l:List Queue):Option (List Queue):=
  (loop (wV l) (([]:List Queue),0)).bind (QG)
def IB(x2:aI):Option aI:=
  some ({x2 with Log:=[]}:aI)
def zP(todo:List Queue):Option aI:=
  (B7 todo).bind fun x1=>(if !x1 then some (⟨(⟨(⟨(⟨[],[]⟩:aC),(⟨[],[]⟩:aA)⟩:Mem),(⟨0,[]⟩:aD),[],[]⟩:aB),[],[],[],[],0⟩:aI) else (B9).bind fun x3=>need (0≤(2:Int)∧(2:Int)≤4294967296)<|need (0≤(3:Int)∧(3:Int)≤4294967296)<|(wW todo).bind fun x4=>IB (⟨x3,List.replicate ((2:Int).toNat) 0,List.replicate ((3:Int).toNat) (⟨false,(⟨0,0,0,0⟩:cX),0,0,(⟨0,0,0,0,0,0,0,0,0,false⟩:Sub),0,0,0,0⟩:bJ),x4,[],0⟩:aI))
def iF(kind a_:Int):Option Sub:=
  some (⟨kind,a_,0,0,0,0,0,0,0,false⟩:Sub)
def dZ(s:aI)(w_:Int)(x2:Queue)(x3:cX)(x4:bJ):Option aI:=
  (idx s.aQ w_).bind fun x5=>need (s.Log.length+([(⟨1,w_,aH (s.aM+1),x3.Cell,0,0,0⟩:Ev)]).length≤1073741824) (some (⟨s.aB,s.Cells,s.aQ.set w_.toNat x4,s.aY.set w_.toNat (⟨(x2.fK.take x2.fK.length).drop ((1:Int).toNat)⟩:Queue),s.Log++([(⟨1,w_,aH (s.aM+1),x3.Cell,0,0,0⟩:Ev)]),aH (s.aM+1)⟩:aI))
def jU(s:aI)(w_:Int)(x2:Queue)(x3:cX)(x7:Bool):Option aI:=
  (if x7 then (iF 5 0).bind fun x8=>(idx s.aB.aD.aP w_).bind fun x9=>(if x9.On then dZ s w_ x2 x3 (⟨true,x3,aH (s.aM+1),9,x8,0,0,0,1⟩:bJ) else dZ s w_ x2 x3 (⟨true,x3,aH (s.aM+1),0,x8,0,0,0,0⟩:bJ)) else (if x3.Kind == 4 then (iF 3 0).bind fun x10=>dZ s w_ x2 x3 (⟨true,x3,aH (s.aM+1),0,x10,0,0,0,0⟩:bJ) else dZ s w_ x2 x3 (⟨true,x3,aH (s.aM+1),0,(⟨0,0,0,0,0,0,0,0,0,false⟩:Sub),0,0,0,0⟩:bJ)))
def rM(s:aI)(w_:Int)(x1:Bool):Option aI:=
  (if x1 then some s else (idx s.aY w_).bind fun x2=>(idx x2.fK 0).bind fun x3=>need (0≤(1:Int)∧(1:Int)≤(x2.fK.length:Int)) ((if x3.Kind == 1 then (iF 1 x3.dT).bind fun x6=>dZ s w_ x2 x3 (⟨true,x3,aH (s.aM+1),0,x6,0,0,0,0⟩:bJ) else (if x3.Kind == 2 then jU s w_ x2 x3 true else jU s w_ x2 x3 (x3.Kind == 5)))))
def zQ(s:aI)(w_:Int):Option aI:=
  (idx s.aY w_).bind fun x11=>(if (x11.fK.length:Int) == 0 then rM s w_ true else rM s w_ (s.aM == 1000000))
def bR(s:Sub)(code:Int):Option Sub:=
  some ({s with Code:=code,cH:=true}:Sub)
def lE(c:Int):Option Int:=
  (if c == 0 then some 8 else (if c == 1 then some 16 else (if c == 2 then some 40 else some 0)))
def TO:Option Int:=
  some (-1)
def gE(size:Int):Int→Option (Step Int (Out Unit Int))
  | x2=>(if decide (x2 < 3) then (lE x2).bind fun x3=>(bK size 1 x3).bind fun x4=>(if x4 then some (.stop (Out.ret x2)) else some (.next (aH (x2+1)))) else some (.stop (Out.brk ())))
def TP:(Out Unit Int)→Option Int
  | .brk ()=>TO
  | .ret r=>some r
def CA(size:Int):Option Int:=
  (loop (gE size) 0).bind (TP)
def tD(w_ c:Int)(x1:Bool):Option Int:=
  (if x1 then some (-1) else some (aH ((aH (w_ * 3))+c)))
def qE(w_ c:Int):Option Int:=
  (bK w_ 0 2).bind fun x2=>(if !x2 then tD w_ c true else (bK c 0 2).bind fun x3=>tD w_ c (!x3))
def G0(s:aG)(x1:Int):Option (aG×Int):=
  some ((⟨(s.aO.take ((aH ((s.aO.length:Int) - 1)).toNat)).drop 0⟩:aG),x1)
def vS(s:aG):Option (aG×Int):=
  (if (s.aO.length:Int) == 0 then some (s,(-1)) else need (0≤(aH ((s.aO.length:Int) - 1):Int)∧(aH ((s.aO.length:Int) - 1):Int)≤(s.aO.length:Int)) ((idx s.aO (aH ((s.aO.length:Int) - 1))).bind fun x2=>G0 s x2))
def TQ(x7:List Int):Option (List Int):=
  some x7
def uH(at_:Int):((List Int)×Int×Int)→Option (Step ((List Int)×Int×Int) (List Int))
  | (x4,x5,x6)=>(if decide (0≤x6) then (idx x4 (aH (at_+x6))).bind fun x8=>some (.next (x4.set ((aH (at_+x6)).toNat) (Int.tmod x5 256),aH (Int.tdiv x5 256),aH (x6 - 1))) else some (.stop (x4)))
def TR:(List Int)→Option (List Int)
  | x7=>TQ x7
def nM(b:List Int)(at_ width n:Int):Option (List Int):=
  (loop (uH at_) (b,n,aH (width - 1))).bind (TR)
def wD(slot:Int):Option Int:=
  (bK slot 0 23).bind fun x1=>(if !x1 then some (-1) else some (aH (Int.tdiv slot 4)))
def rN(slot:Int):Option Int:=
  (bK slot 0 23).bind fun x1=>(if !x1 then some (-1) else some (Int.tmod slot 4))
def tE(c:Int):Option Int:=
  (bK c 0 2).bind fun x1=>(if !x1 then some 0 else (lE c).bind fun x2=>some (aH (4+x2)))
def jG(c:Int):Option Int:=
  (bK c 0 2).bind fun x1=>(if !x1 then some 0 else (tE c).bind fun x2=>need (x2≠0) (some (aH (Int.tdiv 56 x2))))
def zR(slot c:Int)(x1:Bool):Option Int:=
  (if x1 then some (-1) else (wD slot).bind fun x2=>(rN slot).bind fun x3=>(tE c).bind fun x4=>some (aH ((aH ((aH (x2 * 64))+8))+(aH (x3 * x4)))))
def qF(slot c:Int):Option Int:=
  (wD slot).bind fun x5=>(if decide (x5 < 0) then zR slot c true else (rN slot).bind fun x6=>(jG c).bind fun x7=>(bK x6 0 (aH (x7 - 1))).bind fun x8=>zR slot c (!x8))
def qG(page index:Int)(x1:Bool):Option Int:=
  (if x1 then some (-1) else some (aH ((aH (page * 4))+index)))
def nI(page index:Int):Option Int:=
  (bK page 0 5).bind fun x2=>(if !x2 then qG page index true else (bK index 0 3).bind fun x3=>qG page index (!x3))
def TS(h:aC):Option (aC×(List Int)):=
  some (h,([]:List Int))
def BJ(x2:Int):Option (Step Int (Out Unit (aC×(List Int)))):=
  some (.next (aH (x2+1)))
def TU(h:aC)(c x2:Int)(x14 x15:List Int):Option (Step Int (Out Unit (aC×(List Int)))):=
  some (.stop (Out.ret ((⟨x15,h.Class.set x2.toNat c⟩:aC),x14)))
def BK(x2:Int)(x11:List Int)(x12:Int)(x17:List Int):Option (Step ((List Int)×Int×(List Int)) ((List Int)×(List Int))):=
  (nI x2 x12).bind fun x18=>need (x11.length+([x18]).length≤1073741824) (some (.next (x11++([x18]),aH (x12+1),x17)))
def uI(c x2:Int):((List Int)×Int×(List Int))→Option (Step ((List Int)×Int×(List Int)) ((List Int)×(List Int)))
  | (x11,x12,x13)=>(jG c).bind fun x16=>(if decide (x12 < x16) then (nI x2 x12).bind fun x19=>(qF x19 c).bind fun x20=>(nM x13 x20 4 1).bind fun x21=>BK x2 x11 x12 x21 else some (.stop ((x11,x13))))
def TV(h:aC)(c x2:Int):((List Int)×(List Int))→Option (Step Int (Out Unit (aC×(List Int))))
  | (x14,x15)=>TU h c x2 x14 x15
def iW(h:aC)(c:Int):Int→Option (Step Int (Out Unit (aC×(List Int))))
  | x2=>(if decide (x2 < 6) then (idx h.Class x2).bind fun x3=>(if x3 != (-1) then BJ x2 else (idx h.Bytes (aH (x2 * 64))).bind fun x4=>(idx (h.Bytes.set ((aH (x2 * 64)).toNat) 171) (aH ((aH (x2 * 64))+1))).bind fun x5=>(jG c).bind fun x6=>(idx ((h.Bytes.set ((aH (x2 * 64)).toNat) 171).set ((aH ((aH (x2 * 64))+1)).toNat) c) (aH ((aH (x2 * 64))+2))).bind fun x7=>(loop (uI c x2) (([]:List Int),0,((h.Bytes.set ((aH (x2 * 64)).toNat) 171).set ((aH ((aH (x2 * 64))+1)).toNat) c).set ((aH ((aH (x2 * 64))+2)).toNat) x6)).bind (TV h c x2)) else some (.stop (Out.brk ())))
def TW(h:aC):(Out Unit (aC×(List Int)))→Option (aC×(List Int))
  | .brk ()=>TS h
  | .ret r=>some r
def rO(h:aC)(c:Int):Option (aC×(List Int)):=
  (loop (iW h c) 0).bind (TW h)
def BL(m:Mem)(c:Int)(x1:aC×(List Int))(x2:aG)(x3:Int):Option (Mem×Int):=
  some ((⟨x1.1,(⟨m.aA.Global.set c.toNat (⟨x2.aO++((x1.2.take x1.2.length).drop ((1:Int).toNat))⟩:aG),m.aA.aU⟩:aA)⟩:Mem),x3)
def CB(m:Mem)(c:Int):Option (Mem×Int):=
  (rO m.aC c).bind fun x1=>(if (x1.2.length:Int) == 0 then some ((⟨x1.1,m.aA⟩:Mem),(-1)) else (idx m.aA.Global c).bind fun x2=>need (0≤(1:Int)∧(1:Int)≤(x1.2.length:Int)) (need (x2.aO.length+((x1.2.take x1.2.length).drop ((1:Int).toNat)).length≤1073741824) ((idx x1.2 0).bind fun x4=>BL m c x1 x2 x4)))
def oR(h:aC)(x1:Int)(x2:Bool):Option Int:=
  (if x2 then some (-1) else (idx h.Class x1).bind fun x3=>some x3)
def jH(h:aC)(slot:Int):Option Int:=
  (wD slot).bind fun x1=>(if decide (x1 < 0) then oR h x1 true else (idx h.Class x1).bind fun x4=>(if decide (x4 < 0) then oR h x1 true else (idx h.Class x1).bind fun x5=>(rN slot).bind fun x6=>(jG x5).bind fun x7=>oR h x1 (decide (x7≤x6))))
def XC(x5:Int):Option Int:=
  some x5
def qH(b:List Int)(at_ width:Int):(Int×Int)→Option (Step (Int×Int) Int)
  | (x3,x4)=>(if decide (x4 < width) then (idx b (aH (at_+x4))).bind fun x6=>some (.next (aH ((aH (x3 * 256))+x6),aH (x4+1))) else some (.stop (x3)))
def XD:Int→Option Int
  | x5=>XC x5
def qI(b:List Int)(at_ width:Int):Option Int:=
  (loop (qH b at_ width) (0,0)).bind (XD)
def qJ(h:aC)(slot:Int):Option Int:=
  (jH h slot).bind fun x1=>(qF slot x1).bind fun x2=>(qI h.Bytes x2 4).bind fun x3=>some x3
def rP(slot gen:Int)(x1:Bool):Option Int:=
  (if x1 then some 0 else some (aH ((aH (gen * 32))+slot)))
def G3(slot gen:Int):Option Int:=
  (bK slot 0 23).bind fun x2=>(if !x2 then rP slot gen true else (bK gen 1 6).bind fun x3=>rP slot gen (!x3))
def zS(m:Mem)(slot:Int):Option Int:=
  (qJ m.aC slot).bind fun x1=>(G3 slot x1).bind fun x2=>some x2
def JT(b:aB)(s:Sub)(slot pc:Int):Option Sub:=
  (if decide (0≤slot) then (zS b.Mem slot).bind fun x1=>(bR ({s with Out:=x1}:Sub) 0).bind fun x2=>some x2 else some ({s with Pc:=pc}:Sub))
def rQ(s:Sub)(x3:Int)(x5:Bool)(x6:aB):Option (aB×Sub):=
  (if x5 then (bR s 3).bind fun x7=>some (x6,x7) else (JT x6 s x3 (aH (s.Pc+1))).bind fun x8=>some (x6,x8))
def jV(s:Sub)(x3:Int)(x4:aB):Option (aB×Sub):=
  (if decide (x3 < 0) then rQ s x3 (s.Pc == 3) x4 else rQ s x3 false x4)
def rR(b:aB)(s:Sub)(x1:Int)(x12:Bool):Option (aB×Sub):=
  (if x12 then (idx b.Mem.aA.Global x1).bind fun x13=>(vS x13).bind fun x14=>jV s x14.2 ({b with Mem:=(⟨b.Mem.aC,(⟨b.Mem.aA.Global.set x1.toNat x14.1,b.Mem.aA.aU⟩:aA)⟩:Mem)}:aB) else (if s.Pc == 2 then (CB b.Mem x1).bind fun x15=>jV s x15.2 ({b with Mem:=x15.1}:aB) else (bR s 1).bind fun x16=>some (b,x16)))
def zT(b:aB)(w_:Int)(s:Sub):Option (aB×Sub):=
  (CA s.A).bind fun x1=>(if decide (x1 < 0) then (bR s 2).bind fun x2=>some (b,x2) else (if s.Pc == 0 then (qE w_ x1).bind fun x9=>(idx b.Mem.aA.aU x9).bind fun x10=>(vS x10).bind fun x11=>jV s x11.2 ({b with Mem:=(⟨b.Mem.aC,(⟨b.Mem.aA.Global,b.Mem.aA.aU.set x9.toNat x11.1⟩:aA)⟩:Mem)}:aB) else (if s.Pc == 1 then rR b s x1 true else rR b s x1 (s.Pc == 3))))
def rS(x1:Bool):Option Bool:=
  some x1
def fP(h:Int):Option Bool:=
  (bK h 32 223).bind fun x2=>(if x2 then rS (decide ((Int.tmod h 32) < 24)) else rS false)
def eF(h:Int):Option Int:=
  (fP h).bind fun x1=>(if !x1 then some (-1) else some (Int.tmod h 32))
def ZY(x10:List Int):Option (List Int):=
  some x10
def tF(l:aA):((List Int)×Int)→Option (Step ((List Int)×Int) (List Int))
  | (x8,x9)=>(if decide (x9 < (l.aU.length:Int)) then (idx l.aU x9).bind fun x11=>need (x8.length+x11.aO.length≤1073741824) (some (.next (x8++x11.aO,aH (x9+1)))) else some (.stop (x8)))
def ZZ:(List Int)→Option (List Int)
  | x10=>ZY x10
def OA(l:aA)(x5:List Int):Option (List Int):=
  (loop (tF l) (x5,0)).bind (ZZ)
def tG(l:aA):((List Int)×Int)→Option (Step ((List Int)×Int) (List Int))
  | (x3,x4)=>(if decide (x4 < (l.Global.length:Int)) then (idx l.Global x4).bind fun x12=>need (x3.length+x12.aO.length≤1073741824) (some (.next (x3++x12.aO,aH (x4+1)))) else some (.stop (x3)))
def OB(l:aA):(List Int)→Option (List Int)
  | x5=>OA l x5
def D4(l:aA):Option (List Int):=
  (loop (tG l) (([]:List Int),0)).bind (OB l)
def Z0:Option Bool:=
  some false
def pE(l:List Int)(x:Int):Int→Option (Step Int (Out Unit Bool))
  | x2=>(if decide (x2 < (l.length:Int)) then (idx l x2).bind fun x3=>(if x3 == x then some (.stop (Out.ret true)) else some (.next (aH (x2+1)))) else some (.stop (Out.brk ())))
def Z1:(Out Unit Bool)→Option Bool
  | .brk ()=>Z0
  | .ret r=>some r
def D5(l:List Int)(x:Int):Option Bool:=
  (loop (pE l x) 0).bind (Z1)
def FK(l:aA)(slot:Int):Option Bool:=
  (D4 l).bind fun x1=>(D5 x1 slot).bind fun x2=>some x2
def CC(m:Mem)(slot:Int):Option Int:=
  (jH m.aC slot).bind fun x1=>(if decide (x1 < 0) then some 0 else (FK m.aA slot).bind fun x2=>(if x2 then some 1 else (qJ m.aC slot).bind fun x3=>(if decide (6 < x3) then some 2 else some 3)))
def wX(h:Int):Option Int:=
  (fP h).bind fun x1=>(if !x1 then some 0 else some (aH (Int.tdiv h 32)))
def oS(x1:Bool):Option Bool:=
  some x1
def wY(m:Mem)(h:Int):Option Bool:=
  (fP h).bind fun x2=>(if x2 then (eF h).bind fun x3=>(CC m x3).bind fun x4=>(if x4 == 3 then (eF h).bind fun x5=>(qJ m.aC x5).bind fun x6=>(wX h).bind fun x7=>oS (x6 == x7) else oS false) else oS false)
def XE(x5:List bY):Option (List bY):=
  some x5
def qK(l:List aN):((List bY)×Int)→Option (Step ((List bY)×Int) (List bY))
  | (x3,x4)=>(if decide (x4 < (l.length:Int)) then (idx l x4).bind fun x6=>need (x3.length+x6.Rows.length≤1073741824) (some (.next (x3++x6.Rows,aH (x4+1)))) else some (.stop (x3)))
def XF:(List bY)→Option (List bY)
  | x5=>XE x5
def FL(l:List aN):Option (List bY):=
  (loop (qK l) (([]:List bY),0)).bind (XF)
def TX:Option Bool:=
  some false
def oT(x3:Int)(x4:Bool):Option (Step Int (Out Unit Bool)):=
  (if x4 then some (.stop (Out.ret true)) else some (.next (aH (x3+1))))
def kQ(slot:Int)(x1:(List bY)):Int→Option (Step Int (Out Unit Bool))
  | x3=>(if decide (x3 < (x1.length:Int)) then (idx x1 x3).bind fun x5=>(fP x5.Handle).bind fun x6=>(if x6 then (eF x5.Handle).bind fun x7=>oT x3 (x7 == slot) else oT x3 false) else some (.stop (Out.brk ())))
def TY:(Out Unit Bool)→Option Bool
  | .brk ()=>TX
  | .ret r=>some r
def CD(l:List aN)(slot:Int):Option Bool:=
  (FL l).bind fun x1=>(loop (kQ slot x1) 0).bind (TY)
def wZ(b:aB)(s:Sub)(x5:List aN):Option (aB×Sub):=
  (bR s 0).bind fun x6=>some (({b with aK:=x5}:aB),x6)
def pX(b:aB)(w_:Int)(s:Sub)(x3:Bool):Option (aB×Sub):=
  (if x3 then (bR s 4).bind fun x4=>some (b,x4) else (idx b.aK w_).bind fun x7=>need (x7.Rows.length+([(⟨s.A,s.E⟩:bY)]).length≤1073741824)<|wZ b s (b.aK.set w_.toNat (⟨x7.Rows++([(⟨s.A,s.E⟩:bY)])⟩:aN)))
def w3(b:aB)(w_:Int)(s:Sub):Option (aB×Sub):=
  (if s.Pc == 0 then some (b,({s with Pc:=1,E:=b.aD.aJ}:Sub)) else (if s.Pc == 1 then (bK s.E 0 b.aD.aJ).bind fun x1=>(if !x1 then (bR s 1).bind fun x2=>some (b,x2) else (wY b.Mem s.A).bind fun x8=>(if !x8 then pX b w_ s true else (eF s.A).bind fun x9=>(CD b.aK x9).bind fun x10=>pX b w_ s x10)) else (bR s 1).bind fun x11=>some (b,x11)))
def nN(c:aD):Option aD:=
  need (([]:List dK).length+c.aP.length≤1073741824) (some (⟨c.aJ,([]:List dK)++c.aP⟩:aD))
def KR:Option Bool:=
  some true
def iX(x3:Int)(x5:Bool):Option (Step Int (Out Unit Bool)):=
  (if x5 then some (.stop (Out.ret false)) else some (.next (aH (x3+1))))
def oV(c:aD):Int→Option (Step Int (Out Unit Bool))
  | x3=>(if decide (x3 < 3) then (idx c.aP x3).bind fun x4=>(if !x4.On then (if !(decide (x4=(⟨false,0,false,0⟩:dK))) then iX x3 true else (bK x4.aJ 0 c.aJ).bind fun x6=>(if !x6 then iX x3 true else (bK x4.Seen 0 2).bind fun x7=>iX x3 (!x7))) else (bK x4.aJ 0 c.aJ).bind fun x8=>(if !x8 then iX x3 true else (bK x4.Seen 0 2).bind fun x9=>iX x3 (!x9))) else some (.stop (Out.brk ())))
def BM:(Out Unit Bool)→Option Bool
  | .brk ()=>KR
  | .ret r=>some r
def kR(c:aD)(x1:Bool):Option Bool:=
  (if x1 then some false else (loop (oV c) 0).bind (BM))
def nO(c:aD):Option Bool:=
  (bK c.aJ 0 100000).bind fun x10=>(if !x10 then kR c true else kR c ((c.aP.length:Int) != 3))
def mP(w_:Int)(x1:aD)(x3:dK)(x4:Bool):Option (aD×Bool):=
  (if x4 then some (x1,true) else (if x3.Seen == 2 then (idx x1.aP w_).bind fun x5=>some ((⟨x1.aJ,x1.aP.set w_.toNat ({x5 with d9:=true,Seen:=0}:dK)⟩:aD),true) else (idx x1.aP w_).bind fun x6=>some ((⟨x1.aJ,x1.aP.set w_.toNat ({x6 with Seen:=aH (x3.Seen+1)}:dK)⟩:aD),false)))
def w4(c:aD)(w_ e_:Int)(x1:aD)(x2:Bool):Option (aD×Bool):=
  (if x2 then some (x1,false) else (idx c.aP w_).bind fun x3=>(if !x3.On then mP w_ x1 x3 true else (if x3.d9 then mP w_ x1 x3 true else mP w_ x1 x3 (x3.aJ == e_))))
def FM(c:aD)(w_ e_:Int):Option (aD×Bool):=
  (nN c).bind fun x1=>(nO c).bind fun x7=>(if !x7 then w4 c w_ e_ x1 true else (bK w_ 0 2).bind fun x8=>w4 c w_ e_ x1 (!x8))
def w5(e_:Int)(x1:aD)(x2:Bool):Option (aD×Bool):=
  (if x2 then some (x1,false) else some ((⟨aH (e_+1),x1.aP⟩:aD),true))
def NZ(c:aD)(e_:Int):Option (aD×Bool):=
  (nN c).bind fun x1=>(nO c).bind fun x3=>(if !x3 then w5 e_ x1 true else (if c.aJ != e_ then w5 e_ x1 true else w5 e_ x1 (e_ == 100000)))
def nP(b:aB)(s:Sub)(x3:aD×Bool)(x5:Int):Option (aB×Sub):=
  some (({b with aD:=x3.1}:aB),({s with Pc:=x5,B:=aH (s.B+1)}:Sub))
def nQ(b:aB)(s:Sub)(x6:aD×Bool)(x7:Int):Option (aB×Sub):=
  (bR ({s with Out:=x7}:Sub) 0).bind fun x8=>some (({b with aD:=x6.1}:aB),x8)
def uJ(b:aB)(s:Sub):Option (aB×Sub):=
  (if s.Pc == 0 then some (b,({s with Pc:=1,E:=b.aD.aJ,B:=0}:Sub)) else (if s.Pc == 1 then (bK s.B 0 2).bind fun x1=>(if !x1 then (bR s 1).bind fun x2=>some (b,x2) else (FM b.aD s.B s.E).bind fun x3=>(if !x3.2 then (bR s 8).bind fun x4=>some (({b with aD:=x3.1}:aB),x4) else (if (aH (s.B+1)) == 3 then nP b s x3 2 else nP b s x3 s.Pc))) else (if s.Pc == 2 then (NZ b.aD s.E).bind fun x6=>(if x6.2 then nQ b s x6 1 else nQ b s x6 s.Out) else (bR s 1).bind fun x9=>some (b,x9))))
def CE(x1:Bool):Option Bool:=
  some x1
def IC(r_:bY)(e_:Int):Option Bool:=
  (if decide (2≤e_) then CE (decide (r_.aJ≤(aH (e_ - 2)))) else CE false)
def TZ:Option Int:=
  some (-1)
def fS(l:List bY)(e_:Int):Int→Option (Step Int (Out Unit Int))
  | x2=>(if decide (x2 < (l.length:Int)) then (idx l x2).bind fun x3=>(IC x3 e_).bind fun x4=>(if x4 then some (.stop (Out.ret x2)) else some (.next (aH (x2+1)))) else some (.stop (Out.brk ())))
def T0:(Out Unit Int)→Option Int
  | .brk ()=>TZ
  | .ret r=>some r
def w6(l:List bY)(from_ e_:Int):Option Int:=
  (loop (fS l e_) (if 0 < from_ then from_ else 0)).bind (T0)
def D6(x2 x3:List aG):Option aA:=
  some (⟨x2,x3⟩:aA)
def L8(x:aA)(slot x1:Int)(x4:aG):Option aA:=
  D6 x.Global (x.aU.set x1.toNat (⟨x4.aO++([slot])⟩:aG))
def L9(x:aA)(x5:List aG):Option aA:=
  D6 x5 x.aU
def MA(x:aA)(w_ c slot:Int):Option aA:=
  (qE w_ c).bind fun x1=>(idx x.aU x1).bind fun x4=>(if decide ((x4.aO.length:Int) < 2) then need (x4.aO.length+([slot]).length≤1073741824)<|L8 x slot x1 x4 else (idx x.Global c).bind fun x6=>need (x6.aO.length+([slot]).length≤1073741824)<|L9 x (x.Global.set c.toNat (⟨x6.aO++([slot])⟩:aG)))
def D7(x:Mem)(x3:List Int)(x4 x5:List aG):Option Mem:=
  some (⟨(⟨x3,x.aC.Class⟩:aC),(⟨x4,x5⟩:aA)⟩:Mem)
def D8(x:Mem)(w_ slot x1 x2:Int)(x3:List Int):Option Mem:=
  (if decide ((aH (x2+1))≤6) then (MA x.aA w_ x1 slot).bind fun x6=>D7 x x3 x6.Global x6.aU else D7 x x3 x.aA.Global x.aA.aU)
def FN(x:Mem)(w_ slot:Int):Option Mem:=
  (jH x.aC slot).bind fun x1=>(qJ x.aC slot).bind fun x2=>(qF slot x1).bind fun x7=>(nM x.aC.Bytes x7 4 (aH (x2+1))).bind fun x8=>D8 x w_ slot x1 x2 x8
def nR(b:aB)(s:Sub)(x8:Int):Option (aB×Sub):=
  some (b,({s with Pc:=x8,B:=aH (s.B+1)}:Sub))
def dP(b:aB)(s:Sub)(x5:Bool):Option (aB×Sub):=
  (if x5 then (bR s 1).bind fun x6=>some (b,x6) else (idx b.b9 s.B).bind fun x7=>(if x7 == s.H then some (b,({s with Pc:=1,Row:=aH (s.Row+1)}:Sub)) else (if (aH (s.B+1)) == 3 then nR b s 3 else nR b s s.Pc)))
def vT(s:Sub)(x14:aB):Option (aB×Sub):=
  some (x14,({s with Pc:=1,Out:=aH (s.Out+1)}:Sub))
def dQ(b:aB)(w_:Int)(s:Sub)(x1:aN)(x12:Bool):Option (aB×Sub):=
  (if x12 then (bR s 1).bind fun x13=>some (b,x13) else need (0≤(s.Row:Int)∧(s.Row:Int)≤(x1.Rows.length:Int)) (need (0≤(aH (s.Row+1):Int)∧(aH (s.Row+1):Int)≤(x1.Rows.length:Int)) (need (s.Row.toNat≤(aH (s.Row+1)).toNat) ((eF s.H).bind fun x15=>(FN b.Mem w_ x15).bind fun x16=>vT s ({b with Mem:=x16,aK:=b.aK.set w_.toNat (⟨((cL x1.Rows s.Row.toNat (x1.Rows.drop ((aH (s.Row+1)).toNat))).take (s.Row.toNat+(x1.Rows.length - ((aH (s.Row+1)).toNat)))).drop 0⟩:aN)}:aB)))))
def uK(b:aB)(w_:Int)(s:Sub):Option (aB×Sub):=
  (idx b.aK w_).bind fun x1=>(if s.Pc == 0 then some (b,({s with Pc:=1,E:=b.aD.aJ,Row:=0}:Sub)) else (if s.Pc == 1 then (w6 x1.Rows s.Row s.E).bind fun x2=>(if decide (x2 < 0) then (bR s 0).bind fun x3=>some (b,x3) else (idx x1.Rows x2).bind fun x4=>some (b,({s with Pc:=2,Row:=x2,B:=0,H:=x4.Handle}:Sub))) else (if s.Pc == 2 then (bK s.B 0 2).bind fun x9=>(if !x9 then dP b s true else (bK s.Row 0 (aH ((x1.Rows.length:Int) - 1))).bind fun x10=>(if !x10 then dP b s true else (idx x1.Rows s.Row).bind fun x11=>dP b s (x11.Handle != s.H))) else (if s.Pc == 3 then (bK s.Row 0 (aH ((x1.Rows.length:Int) - 1))).bind fun x17=>(if !x17 then dQ b w_ s x1 true else (idx x1.Rows s.Row).bind fun x18=>(if x18.Handle != s.H then dQ b w_ s x1 true else (IC x18 s.E).bind fun x19=>dQ b w_ s x1 (!x19))) else (bR s 1).bind fun x20=>some (b,x20)))))
def tH(w_ e_:Int)(x1:aD)(x2:Bool):Option (aD×Bool):=
  (if x2 then some (x1,false) else (idx x1.aP w_).bind fun x3=>some ((⟨x1.aJ,x1.aP.set w_.toNat (⟨true,e_,false,0⟩:dK)⟩:aD),true))
def JU(c:aD)(w_ e_:Int):Option (aD×Bool):=
  (nN c).bind fun x1=>(nO c).bind fun x4=>(if !x4 then tH w_ e_ x1 true else (bK w_ 0 2).bind fun x5=>(if !x5 then tH w_ e_ x1 true else (bK e_ 0 c.aJ).bind fun x6=>tH w_ e_ x1 (!x6)))
def FO(b:aB)(w_:Int)(s:Sub):Option (aB×Sub):=
  (if s.Pc == 0 then some (b,({s with Pc:=1,E:=b.aD.aJ}:Sub)) else (if s.Pc == 1 then (JU b.aD w_ s.E).bind fun x1=>(if !x1.2 then (bR s 1).bind fun x2=>some (({b with aD:=x1.1}:aB),x2) else some (({b with aD:=x1.1}:aB),({s with Pc:=2}:Sub))) else (if s.Pc == 2 then (if b.aD.aJ == s.E then (bR s 0).bind fun x3=>some (b,x3) else some (b,({s with Pc:=0}:Sub))) else (bR s 1).bind fun x4=>some (b,x4))))
def vU(b:aB)(w_:Int)(s:Sub):Option (aB×Sub):=
  (if s.cH then some (b,s) else (if s.Kind == 1 then (zT b w_ s).bind fun x1=>some (x1.1,x1.2) else (if s.Kind == 2 then (w3 b w_ s).bind fun x2=>some (x2.1,x2.2) else (if s.Kind == 3 then (uJ b s).bind fun x3=>some (x3.1,x3.2) else (if s.Kind == 4 then (uK b w_ s).bind fun x4=>some (x4.1,x4.2) else (if s.Kind == 5 then (FO b w_ s).bind fun x5=>some (x5.1,x5.2) else (bR s 1).bind fun x6=>some (b,x6)))))))
def bH(j:bJ)(pc code:Int):Option bJ:=
  some ({j with Pc:=pc,Code:=code}:bJ)
def nJ(b:List Int):Option (List Int):=
  need (([]:List Int).length+b.length≤1073741824) (some (([]:List Int)++b))
def FP(h:aC):Option aC:=
  (nJ h.Bytes).bind fun x1=>(nJ h.Class).bind fun x2=>some (⟨x1,x2⟩:aC)
def XG(x5:List aG):Option (List aG):=
  some x5
def D9(l:List aG):((List aG)×Int)→Option (Step ((List aG)×Int) (List aG))
  | (x3,x4)=>(if decide (x4 < (l.length:Int)) then (idx l x4).bind fun x6=>(nJ x6.aO).bind fun x7=>need (x3.length+([(⟨x7⟩:aG)]).length≤1073741824) (some (.next (x3++([(⟨x7⟩:aG)]),aH (x4+1)))) else some (.stop (x3)))
def XH:(List aG)→Option (List aG)
  | x5=>XG x5
def A1(l:List aG):Option (List aG):=
  (loop (D9 l) (([]:List aG),0)).bind (XH)
def FQ(l:aA):Option aA:=
  (A1 l.Global).bind fun x1=>(A1 l.aU).bind fun x2=>some (⟨x1,x2⟩:aA)
def FR(m:Mem):Option Mem:=
  (FP m.aC).bind fun x1=>(FQ m.aA).bind fun x2=>some (⟨x1,x2⟩:Mem)
def KS(b:List Int):Option Bool:=
  some (decide ((b.length:Int)≤1000))
def kS(b:List Int):Int→Option (Step Int (Out Unit Bool))
  | x2=>(if decide (x2 < (b.length:Int)) then (idx b x2).bind fun x3=>(bK x3 0 255).bind fun x4=>(if !x4 then some (.stop (Out.ret false)) else some (.next (aH (x2+1)))) else some (.stop (Out.brk ())))
def BN(b:List Int):(Out Unit Bool)→Option Bool
  | .brk ()=>KS b
  | .ret r=>some r
def CF(b:List Int):Option Bool:=
  (loop (kS b) 0).bind (BN b)
def T1:Option Bool:=
  some true
def kT(h:aC):Int→Option (Step Int (Out Unit Bool))
  | x3=>(if decide (x3 < 6) then (idx h.Class x3).bind fun x4=>(bK x4 (-1) 2).bind fun x5=>(if !x5 then some (.stop (Out.ret false)) else some (.next (aH (x3+1)))) else some (.stop (Out.brk ())))
def T2:(Out Unit Bool)→Option Bool
  | .brk ()=>T1
  | .ret r=>some r
def oW(h:aC)(x1:Bool):Option Bool:=
  (if x1 then some false else (loop (kT h) 0).bind (T2))
def CG(h:aC):Option Bool:=
  (if (h.Bytes.length:Int) != 384 then oW h true else (if (h.Class.length:Int) != 6 then oW h true else (CF h.Bytes).bind fun x6=>oW h (!x6)))
def XI:Option Bool:=
  some true
def mQ(h:aC)(p:Int):Int→Option (Step Int (Out Unit Bool))
  | x3=>(if decide (x3 < (aH ((aH (p * 64))+64))) then (idx h.Bytes x3).bind fun x4=>(if x4 != 0 then some (.stop (Out.ret false)) else some (.next (aH (x3+1)))) else some (.stop (Out.brk ())))
def XJ:(Out Unit Bool)→Option Bool
  | .brk ()=>XI
  | .ret r=>some r
def XL:Option Bool:=
  some true
def mR(h:aC)(p x1:Int):Int→Option (Step Int (Out Unit Bool))
  | x9=>(jG x1).bind fun x10=>(if decide (x9 < x10) then (nI p x9).bind fun x11=>(qF x11 x1).bind fun x12=>(qI h.Bytes x12 4).bind fun x13=>(bK x13 1 7).bind fun x14=>(if !x14 then some (.stop (Out.ret false)) else some (.next (aH (x9+1)))) else some (.stop (Out.brk ())))
def XM:(Out Unit Bool)→Option Bool
  | .brk ()=>XL
  | .ret r=>some r
def MB(h:aC)(p x1:Int):Option Bool:=
  (loop (mR h p x1) 0).bind (XM)
def mS(h:aC)(p:Int):Int→Option (Step Int (Out Unit Bool))
  | x7=>(if decide (x7 < (aH ((aH (p * 64))+8))) then (idx h.Bytes x7).bind fun x15=>(if x15 != 0 then some (.stop (Out.ret false)) else some (.next (aH (x7+1)))) else some (.stop (Out.brk ())))
def MC(h:aC)(p x1:Int):(Out Unit Bool)→Option Bool
  | .brk ()=>MB h p x1
  | .ret r=>some r
def iG(h:aC)(p x1:Int)(x5:Bool):Option Bool:=
  (if x5 then some false else (loop (mS h p) (aH ((aH (p * 64))+3))).bind (MC h p x1))
def FT(h:aC)(p:Int):Option Bool:=
  (idx h.Class p).bind fun x1=>(if decide (x1 < 0) then (loop (mQ h p) (aH (p * 64))).bind (XJ) else (idx h.Bytes (aH (p * 64))).bind fun x16=>(if x16 != 171 then iG h p x1 true else (idx h.Bytes (aH ((aH (p * 64))+1))).bind fun x17=>(if x17 != x1 then iG h p x1 true else (idx h.Bytes (aH ((aH (p * 64))+2))).bind fun x18=>(jG x1).bind fun x19=>iG h p x1 (x18 != x19))))
def XN:Option Bool:=
  some true
def qL(h:aC):Int→Option (Step Int (Out Unit Bool))
  | x3=>(if decide (x3 < 6) then (FT h x3).bind fun x4=>(if !x4 then some (.stop (Out.ret false)) else some (.next (aH (x3+1)))) else some (.stop (Out.brk ())))
def XO:(Out Unit Bool)→Option Bool
  | .brk ()=>XN
  | .ret r=>some r
def FU(h:aC):Option Bool:=
  (CG h).bind fun x1=>(if !x1 then some false else (loop (qL h) 0).bind (XO))
def T3:Option Bool:=
  some true
def uL(x6:Int)(x7:Bool):Option (Step Int (Out Unit Bool)):=
  (if x7 then some (.stop (Out.ret false)) else some (.next (aH (x6+1))))
def kU(x4:(List Int)):Int→Option (Step Int (Out Unit Bool))
  | x6=>(if decide (x6 < (x4.length:Int)) then (idx x4 x6).bind fun x8=>(bK x8 0 23).bind fun x9=>(if !x9 then uL x6 true else need (0≤(x6:Int)∧(x6:Int)≤(x4.length:Int)) ((idx x4 x6).bind fun x10=>(D5 ((x4.take x6.toNat).drop 0) x10).bind fun x11=>uL x6 x11)) else some (.stop (Out.brk ())))
def T4:(Out Unit Bool)→Option Bool
  | .brk ()=>T3
  | .ret r=>some r
def KT(l:aA):Option Bool:=
  (D4 l).bind fun x4=>(loop (kU x4) 0).bind (T4)
def kV(l:aA):Int→Option (Step Int (Out Unit Bool))
  | x3=>(if decide (x3 < (l.aU.length:Int)) then (idx l.aU x3).bind fun x12=>(if decide (2 < (x12.aO.length:Int)) then some (.stop (Out.ret false)) else some (.next (aH (x3+1)))) else some (.stop (Out.brk ())))
def KU(l:aA):(Out Unit Bool)→Option Bool
  | .brk ()=>KT l
  | .ret r=>some r
def uM(l:aA)(x1:Bool):Option Bool:=
  (if x1 then some false else (loop (kV l) 0).bind (KU l))
def CH(l:aA):Option Bool:=
  (if (l.Global.length:Int) != 3 then uM l true else uM l ((l.aU.length:Int) != 9))
def R3:Option Bool:=
  some true
def rT(x2:Int)(x3:Bool):Option (Step Int (Out Unit Bool)):=
  (if x3 then some (.stop (Out.ret false)) else some (.next (aH (x2+1))))
def jW(h:aC)(l:List Int)(c:Int):Int→Option (Step Int (Out Unit Bool))
  | x2=>(if decide (x2 < (l.length:Int)) then (idx l x2).bind fun x4=>(jH h x4).bind fun x5=>(if x5 != c then rT x2 true else (idx l x2).bind fun x6=>(qJ h x6).bind fun x7=>rT x2 (decide (6 < x7))) else some (.stop (Out.brk ())))
def R4:(Out Unit Bool)→Option Bool
  | .brk ()=>R3
  | .ret r=>some r
def tI(h:aC)(l:List Int)(c:Int):Option Bool:=
  (loop (jW h l c) 0).bind (R4)
def Z2:Option Bool:=
  some true
def OC(x3:Int):Option (Step Int (Out Unit Bool)):=
  some (.next (aH (x3+1)))
def tJ(m:Mem)(x3:Int):Int→Option (Step Int (Out Unit Bool))
  | x7=>(if decide (x7 < 3) then (qE x7 x3).bind fun x8=>(idx m.aA.aU x8).bind fun x9=>(tI m.aC x9.aO x3).bind fun x10=>(if !x10 then some (.stop (Out.ret false)) else some (.next (aH (x7+1)))) else some (.stop (Out.brk ())))
def OD(x3:Int):(Out Unit Bool)→Option (Step Int (Out Unit Bool))
  | .brk ()=>OC x3
  | .ret r=>some (.stop (Out.ret r))
def tK(m:Mem):Int→Option (Step Int (Out Unit Bool))
  | x3=>(if decide (x3 < 3) then (idx m.aA.Global x3).bind fun x4=>(tI m.aC x4.aO x3).bind fun x5=>(if !x5 then some (.stop (Out.ret false)) else (loop (tJ m x3) 0).bind (OD x3)) else some (.stop (Out.brk ())))
def Z3:(Out Unit Bool)→Option Bool
  | .brk ()=>Z2
  | .ret r=>some r
def zU(m:Mem)(x1:Bool):Option Bool:=
  (if x1 then some false else (loop (tK m) 0).bind (Z3))
def JV(m:Mem):Option Bool:=
  (FU m.aC).bind fun x11=>(if !x11 then zU m true else (CH m.aA).bind fun x12=>zU m (!x12))
def w7(slot c:Int):Option Int:=
  (qF slot c).bind fun x1=>(if decide (x1 < 0) then some (-1) else some (aH (x1+4)))
def w8(at_ x3 x4:Int)(x5:Bool):Option (Int×Int):=
  (if x5 then some (0,2) else (w7 x3 x4).bind fun x6=>some (aH (x6+at_),0))
def w9(m:Mem)(h at_ width:Int)(x1:Bool):Option (Int×Int):=
  (if x1 then some (0,1) else (wY m h).bind fun x2=>(if !x2 then some (0,4) else (eF h).bind fun x3=>(jH m.aC x3).bind fun x4=>(lE x4).bind fun x7=>(bK at_ 0 (aH (x7 - 1))).bind fun x8=>(if !x8 then w8 at_ x3 x4 true else (lE x4).bind fun x9=>w8 at_ x3 x4 (decide ((aH (x9 - at_)) < width)))))
def MD(m:Mem)(h at_ width:Int):Option (Int×Int):=
  (JV m).bind fun x10=>(if !x10 then w9 m h at_ width true else (bK width 1 7).bind fun x11=>w9 m h at_ width (!x11))
def OE(x8:Int)(x9:List UInt8):Option (List UInt8):=
  (if decide (0 < x8) then some ([]) else some x9)
def zV(width:Int):(Int×(List UInt8)×Int)→Option (Step (Int×(List UInt8)×Int) (Int×(List UInt8)))
  | (x5,x6,x7)=>(if decide (x7 < width) then need (([u8 (Int.tmod x5 256)]).length+x6.length≤9223372036854775807) (some (.next (aH (Int.tdiv x5 256),([u8 (Int.tmod x5 256)])++x6,aH (x7+1)))) else some (.stop ((x5,x6))))
def OF:(Int×(List UInt8))→Option (List UInt8)
  | (x8,x9)=>OE x8 x9
def zW(n width:Int)(x1:Bool):Option (List UInt8):=
  (if x1 then some ([]) else (loop (zV width) (n,[],0)).bind (OF))
def EA(n width:Int):Option (List UInt8):=
  (bK width 1 7).bind fun x10=>(if !x10 then zW n width true else zW n width (decide (n < 0)))
def CI(m:Mem)(h at_ width n:Int):Option (Mem×Int):=
  (FR m).bind fun x1=>(MD m h at_ width).bind fun x2=>(if x2.2 != 0 then some (x1,x2.2) else (EA n width).bind fun x3=>(if x3 == ([]) then some (x1,1) else (nM x1.aC.Bytes x2.1 width n).bind fun x4=>some ((⟨(⟨x4,x1.aC.Class⟩:aC),x1.aA⟩:Mem),0)))
def FV(s:aI)(w_:Int)(j:bJ):Option (aI×bJ):=
  (if j.Pc == 0 then (vU s.aB w_ j.Sub).bind fun x1=>(if !x1.2.cH then some (({s with aB:=x1.1}:aI),({j with Sub:=x1.2}:bJ)) else (if x1.2.Code != 0 then (bH ({j with Sub:=x1.2}:bJ) 9 x1.2.Code).bind fun x2=>some (({s with aB:=x1.1}:aI),x2) else (fP x1.2.Out).bind fun x3=>(if !x3 then (bH ({j with Sub:=x1.2}:bJ) 9 1).bind fun x4=>some (({s with aB:=x1.1}:aI),x4) else (bH ({j with Sub:=x1.2,H:=x1.2.Out}:bJ) 1 0).bind fun x5=>some (({s with aB:=x1.1}:aI),x5)))) else (if j.Pc == 1 then (CI s.aB.Mem j.H 0 4 j.Op.dV).bind fun x6=>(if x6.2 != 0 then (bH j 9 x6.2).bind fun x7=>some (({s with aB:=(⟨x6.1,s.aB.aD,s.aB.aK,s.aB.b9⟩:aB)}:aI),x7) else (bH j 2 0).bind fun x8=>some (({s with aB:=(⟨x6.1,s.aB.aD,s.aB.aK,s.aB.b9⟩:aB)}:aI),x8)) else (if j.Pc == 2 then (idx s.Cells j.Op.Cell).bind fun x9=>need (s.Log.length+([(⟨2,w_,j.aM,j.Op.Cell,j.H,j.Op.dV,0⟩:Ev)]).length≤1073741824) ((if x9 == 0 then (bH ({j with Old:=x9}:bJ) 9 0).bind fun x10=>some (({s with Cells:=s.Cells.set j.Op.Cell.toNat j.H,Log:=s.Log++([(⟨2,w_,j.aM,j.Op.Cell,j.H,j.Op.dV,0⟩:Ev)])}:aI),x10) else (iF 2 x9).bind fun x11=>(bH ({j with Sub:=x11,Old:=x9}:bJ) 3 0).bind fun x12=>some (({s with Cells:=s.Cells.set j.Op.Cell.toNat j.H,Log:=s.Log++([(⟨2,w_,j.aM,j.Op.Cell,j.H,j.Op.dV,0⟩:Ev)])}:aI),x12))) else (if j.Pc == 3 then (vU s.aB w_ j.Sub).bind fun x13=>(if !x13.2.cH then some (({s with aB:=x13.1}:aI),({j with Sub:=x13.2}:bJ)) else (bH ({j with Sub:=x13.2}:bJ) 9 x13.2.Code).bind fun x14=>some (({s with aB:=x13.1}:aI),x14)) else (bH j 9 1).bind fun x15=>some (s,x15)))))
def jI(s:aI)(w_:Int)(j:bJ):Option aI:=
  need (s.Log.length+([(⟨3,w_,j.aM,j.Op.Cell,j.H,0,0⟩:Ev)]).length≤1073741824) (some ({s with Log:=s.Log++([(⟨3,w_,j.aM,j.Op.Cell,j.H,0,0⟩:Ev)])}:aI))
def mT(h:aC)(x at_ width x3:Int)(x4:Bool):Option (Int×Bool):=
  (if x4 then some (0,false) else (eF x).bind fun x5=>(w7 x5 x3).bind fun x6=>(qI h.Bytes (aH (x6+at_)) width).bind fun x7=>some (x7,true))
def xA(h:aC)(x at_ width:Int)(x1:Bool):Option (Int×Bool):=
  (if x1 then some (0,false) else (eF x).bind fun x2=>(jH h x2).bind fun x3=>(if decide (x3 < 0) then mT h x at_ width x3 true else (lE x3).bind fun x8=>(bK at_ 0 (aH (x8 - 1))).bind fun x9=>(if !x9 then mT h x at_ width x3 true else (lE x3).bind fun x10=>mT h x at_ width x3 (decide ((aH (x10 - at_)) < width)))))
def FW(h:aC)(x at_ width:Int):Option (Int×Bool):=
  (fP x).bind fun x11=>(if !x11 then xA h x at_ width true else (bK width 1 7).bind fun x12=>xA h x at_ width (!x12))
def nS(s:aI)(j:bJ):Option Int:=
  (FW s.aB.Mem.aC j.H 0 4).bind fun x1=>some x1.1
def mU(j:bJ)(pc:Int)(x2:Bool):Option bJ:=
  (if x2 then (bH j pc 0).bind fun x3=>some x3 else (bH ({j with dV:=0}:bJ) pc 6).bind fun x4=>some x4)
def tL(s:aI)(w_:Int)(j:bJ)(pc:Int):Option bJ:=
  (idx s.aB.aD.aP w_).bind fun x1=>(if x1.On then mU j pc (!x1.d9) else mU j pc false)
def tM(w_:Int)(x1:aD)(x2:Bool):Option (aD×Bool):=
  (if x2 then some (x1,false) else (idx x1.aP w_).bind fun x3=>some ((⟨x1.aJ,x1.aP.set w_.toNat (⟨false,0,false,0⟩:dK)⟩:aD),true))
def EB(c:aD)(w_:Int):Option (aD×Bool):=
  (nN c).bind fun x1=>(nO c).bind fun x4=>(if !x4 then tM w_ x1 true else (bK w_ 0 2).bind fun x5=>(if !x5 then tM w_ x1 true else (idx c.aP w_).bind fun x6=>tM w_ x1 (!x6.On)))
def FX(s:aI)(w_:Int)(j:bJ):Option (aI×bJ):=
  (if j.Pc == 0 then (vU s.aB w_ j.Sub).bind fun x1=>(if !x1.2.cH then some (({s with aB:=x1.1}:aI),({j with Sub:=x1.2}:bJ)) else (bH ({j with Sub:=x1.2}:bJ) 1 0).bind fun x2=>some (({s with aB:=x1.1}:aI),x2)) else (if j.Pc == 1 then (idx s.Cells j.Op.Cell).bind fun x3=>(jI s w_ ({j with H:=x3}:bJ)).bind fun x4=>(if x3 == 0 then (bH ({j with H:=x3}:bJ) 4 8).bind fun x5=>some (x4,x5) else (bH ({j with H:=x3}:bJ) 2 0).bind fun x6=>some (x4,x6)) else (if j.Pc == 2 then (nS s j).bind fun x7=>(bH ({j with dV:=x7}:bJ) 3 0).bind fun x8=>some (s,x8) else (if j.Pc == 3 then (tL s w_ j 4).bind fun x9=>some (s,x9) else (if j.Pc == 4 then (EB s.aB.aD w_).bind fun x10=>(bH j 9 j.Code).bind fun x11=>some (({s with aB:=(⟨s.aB.Mem,x10.1,s.aB.aK,s.aB.b9⟩:aB)}:aI),x11) else (bH j 9 1).bind fun x12=>some (s,x12))))))
def OG(z:List Int):Option Bool:=
  some ((z.length:Int) == 3)
def zX(x2:Int)(x3:Bool):Option (Step Int (Out Unit Bool)):=
  (if x3 then some (.stop (Out.ret false)) else some (.next (aH (x2+1))))
def tN(z:List Int):Int→Option (Step Int (Out Unit Bool))
  | x2=>(if decide (x2 < (z.length:Int)) then (idx z x2).bind fun x4=>(if x4 != 0 then (idx z x2).bind fun x5=>(fP x5).bind fun x6=>zX x2 (!x6) else zX x2 false) else some (.stop (Out.brk ())))
def OH(z:List Int):(Out Unit Bool)→Option Bool
  | .brk ()=>OG z
  | .ret r=>some r
def EC(z:List Int):Option Bool:=
  (loop (tN z) 0).bind (OH z)
def oX(w_ h:Int)(x1:(List Int))(x2:Bool):Option ((List Int)×Bool):=
  (if x2 then some (x1,false) else (idx x1 w_).bind fun x3=>some (x1.set w_.toNat h,true))
def CJ(z:List Int)(w_ h:Int):Option ((List Int)×Bool):=
  (nJ z).bind fun x1=>(EC z).bind fun x4=>(if !x4 then oX w_ h x1 true else (bK w_ 0 2).bind fun x5=>(if !x5 then oX w_ h x1 true else (fP h).bind fun x6=>oX w_ h x1 (!x6)))
def tO(w_:Int)(x1:(List Int))(x2:Bool):Option ((List Int)×Bool):=
  (if x2 then some (x1,false) else (idx x1 w_).bind fun x3=>some (x1.set w_.toNat 0,true))
def JW(z:List Int)(w_:Int):Option ((List Int)×Bool):=
  (nJ z).bind fun x1=>(EC z).bind fun x4=>(if !x4 then tO w_ x1 true else (bK w_ 0 2).bind fun x5=>(if !x5 then tO w_ x1 true else (idx z w_).bind fun x6=>tO w_ x1 (x6 == 0)))
def FY(s:aI)(w_:Int)(j:bJ):Option (aI×bJ):=
  (if j.Pc == 0 then (idx s.Cells j.Op.Cell).bind fun x1=>(if x1 == 0 then (jI s w_ ({j with H:=x1}:bJ)).bind fun x2=>(bH ({j with H:=x1}:bJ) 4 8).bind fun x3=>some (x2,x3) else (bH ({j with H:=x1}:bJ) 1 0).bind fun x4=>some (s,x4)) else (if j.Pc == 1 then (CJ s.aB.b9 w_ j.H).bind fun x5=>(bH j 2 0).bind fun x6=>some (({s with aB:=(⟨s.aB.Mem,s.aB.aD,s.aB.aK,x5.1⟩:aB)}:aI),x6) else (if j.Pc == 2 then (idx s.Cells j.Op.Cell).bind fun x7=>(if x7 != j.H then (bH j 0 0).bind fun x8=>some (s,x8) else (jI s w_ j).bind fun x9=>(bH j 3 0).bind fun x10=>some (x9,x10)) else (if j.Pc == 3 then (nS s j).bind fun x11=>(bH ({j with dV:=x11}:bJ) 4 0).bind fun x12=>some (s,x12) else (if j.Pc == 4 then (JW s.aB.b9 w_).bind fun x13=>(bH j 9 j.Code).bind fun x14=>some (({s with aB:=(⟨s.aB.Mem,s.aB.aD,s.aB.aK,x13.1⟩:aB)}:aI),x14) else (bH j 9 1).bind fun x15=>some (s,x15))))))
def CK(s:aI)(w_:Int)(j:bJ):Option (aI×bJ):=
  (idx s.aB.aD.aP w_).bind fun x1=>(if j.Pc == 0 then (if !x1.On then (bH j 9 5).bind fun x2=>some (s,x2) else (if x1.d9 then (bH j 9 6).bind fun x3=>some (s,x3) else (idx s.Cells j.Op.Cell).bind fun x4=>(jI s w_ ({j with H:=x4}:bJ)).bind fun x5=>(if x4 == 0 then (bH ({j with H:=x4}:bJ) 9 8).bind fun x6=>some (x5,x6) else (bH ({j with H:=x4}:bJ) 1 0).bind fun x7=>some (x5,x7)))) else (if j.Pc == 1 then (nS s j).bind fun x8=>(bH ({j with dV:=x8}:bJ) 2 0).bind fun x9=>some (s,x9) else (if j.Pc == 2 then (tL s w_ j 9).bind fun x10=>some (s,x10) else (bH j 9 1).bind fun x11=>some (s,x11))))
def jX(s:aI)(w_:Int)(j:bJ)(x5:Bool):Option (aI×bJ):=
  (if x5 then (bH j 9 1).bind fun x6=>some (s,x6) else (vU s.aB w_ j.Sub).bind fun x7=>(if !x7.2.cH then some (({s with aB:=x7.1}:aI),({j with Sub:=x7.2}:bJ)) else (if j.Op.Kind == 5 then (bH ({j with Sub:=x7.2}:bJ) 9 x7.2.Code).bind fun x8=>some (({s with aB:=x7.1}:aI),x8) else (if j.Pc == 0 then (iF 4 0).bind fun x9=>(bH ({j with Sub:=x9}:bJ) 1 0).bind fun x10=>some (({s with aB:=x7.1}:aI),x10) else (bH ({j with Sub:=x7.2,dV:=x7.2.Out}:bJ) 9 x7.2.Code).bind fun x11=>some (({s with aB:=x7.1}:aI),x11)))))
def rU(s:aI)(w_:Int)(j:bJ)(x1:Bool):Option (aI×bJ):=
  (if x1 then (EB s.aB.aD w_).bind fun x2=>(if !x2.2 then (bH j 9 5).bind fun x3=>some (({s with aB:=(⟨s.aB.Mem,x2.1,s.aB.aK,s.aB.b9⟩:aB)}:aI),x3) else (bH j 9 0).bind fun x4=>some (({s with aB:=(⟨s.aB.Mem,x2.1,s.aB.aK,s.aB.b9⟩:aB)}:aI),x4)) else (if j.Op.Kind == 6 then jX s w_ j true else (if j.Pc != 0 then (if j.Pc != 1 then jX s w_ j true else jX s w_ j (j.Op.Kind == 5)) else jX s w_ j false)))
def zY(s:aI)(w_:Int)(j:bJ):Option (aI×bJ):=
  (if j.Op.Kind == 6 then rU s w_ j (j.Pc == 0) else rU s w_ j false)
def dI(w_:Int)(x3:aI)(x4:bJ):Option aI:=
  (idx x3.aQ w_).bind fun x5=>some ({x3 with aQ:=x3.aQ.set w_.toNat x4}:aI)
def JX(s:aI)(w_:Int):Option aI:=
  (idx s.aQ w_).bind fun x1=>(if !x1.kI then (zQ s w_).bind fun x2=>some x2 else (if x1.Pc == 9 then need (s.Log.length+([(⟨4,w_,x1.aM,x1.Op.Cell,x1.H,x1.dV,x1.Code⟩:Ev)]).length≤1073741824) (some ({s with aQ:=s.aQ.set w_.toNat (⟨false,(⟨0,0,0,0⟩:cX),0,0,(⟨0,0,0,0,0,0,0,0,0,false⟩:Sub),0,0,0,0⟩:bJ),Log:=s.Log++([(⟨4,w_,x1.aM,x1.Op.Cell,x1.H,x1.dV,x1.Code⟩:Ev)])}:aI)) else (if x1.Op.Kind == 1 then (FV s w_ x1).bind fun x6=>dI w_ x6.1 x6.2 else (if x1.Op.Kind == 2 then (FX s w_ x1).bind fun x7=>dI w_ x7.1 x7.2 else (if x1.Op.Kind == 3 then (FY s w_ x1).bind fun x8=>dI w_ x8.1 x8.2 else (if x1.Op.Kind == 7 then (CK s w_ x1).bind fun x9=>dI w_ x9.1 x9.2 else (zY s w_ x1).bind fun x10=>dI w_ x10.1 x10.2))))))
def QH(x6:aI):Option aI:=
  some x6
def lF(x4:Int)(x9:aI):Option (Step (Int×aI) aI):=
  some (.next (aH (x4+1),x9))
def iM(x:fD)(x4:Int)(x7:Bool)(x8:aI):Option (Step (Int×aI) aI):=
  (if x7 then (idx x.cT x4).bind fun x10=>(bK x10 0 2).bind fun x11=>(if x11 then (idx x.cT x4).bind fun x12=>(JX x8 x12).bind fun x13=>lF x4 x13 else lF x4 x8) else some (.stop (x8)))
def lG(x:fD):(Int×aI)→Option (Step (Int×aI) aI)
  | (x4,x5)=>(if decide (x4 < (x.cT.length:Int)) then iM x x4 (decide (x4 < 400)) x5 else iM x x4 false x5)
def QI:aI→Option aI
  | x6=>QH x6
def xB(x:fD):Option aI:=
  (zP x.aY).bind fun x1=>(if (x1.aQ.length:Int) == 0 then some x1 else (loop (lG x) (0,x1)).bind (QI))
def R5(a_:cX):Option cX:=
  some a_
def OI(x5:List cX):Option (List cX):=
  some x5
def G4(a_:List cX):((List cX)×Int)→Option (Step ((List cX)×Int) (List cX))
  | (x3,x4)=>(if decide (x4 < (a_.length:Int)) then (idx a_ x4).bind fun x6=>(R5 x6).bind fun x7=>(idx x3 x4).bind fun x8=>some (.next (x3.set x4.toNat x7,aH (x4+1))) else some (.stop (x3)))
def OJ:(List cX)→Option (List cX)
  | x5=>OI x5
def JY(a_:List cX):Option (List cX):=
  need (0≤((a_.length:Int):Int)∧((a_.length:Int):Int)≤4294967296) ((loop (G4 a_) (List.replicate ((a_.length:Int).toNat) (⟨0,0,0,0⟩:cX),0)).bind (OJ))
def CL(a_:Queue):Option Queue:=
  (JY a_.fK).bind fun x1=>some (⟨x1⟩:Queue)
def ID(x5:List Queue):Option (List Queue):=
  some x5
def zE(a_:List Queue):((List Queue)×Int)→Option (Step ((List Queue)×Int) (List Queue))
  | (x3,x4)=>(if decide (x4 < (a_.length:Int)) then (idx a_ x4).bind fun x6=>(CL x6).bind fun x7=>(idx x3 x4).bind fun x8=>some (.next (x3.set x4.toNat x7,aH (x4+1))) else some (.stop (x3)))
def IE:(List Queue)→Option (List Queue)
  | x5=>ID x5
def zZ(a_:List Queue):Option (List Queue):=
  need (0≤((a_.length:Int):Int)∧((a_.length:Int):Int)≤4294967296) ((loop (zE a_) (List.replicate ((a_.length:Int).toNat) (⟨[]⟩:Queue),0)).bind (IE))
def ME(x5:List Int):Option (List Int):=
  some x5
def ED(a_:List Int):((List Int)×Int)→Option (Step ((List Int)×Int) (List Int))
  | (x3,x4)=>(if decide (x4 < (a_.length:Int)) then (idx a_ x4).bind fun x6=>(idx x3 x4).bind fun x7=>some (.next (x3.set x4.toNat x6,aH (x4+1))) else some (.stop (x3)))
def MF:(List Int)→Option (List Int)
  | x5=>ME x5
def FZ(a_:List Int):Option (List Int):=
  need (0≤((a_.length:Int):Int)∧((a_.length:Int):Int)≤4294967296) ((loop (ED a_) (List.replicate ((a_.length:Int).toNat) 0,0)).bind (MF))
def lX(a_:fD):Option fD:=
  (zZ a_.aY).bind fun x1=>(FZ a_.cT).bind fun x2=>some (⟨x1,x2⟩:fD)
def sS:Option Int:=
  some (-1)
def gM(s:List Queue)(f:(Queue→Option Bool)):Int→Option (Step Int (Out Unit Int))
  | x2=>(if decide (x2 < (s.length:Int)) then (idx s x2).bind fun x3=>(f x3).bind fun x4=>(if x4 then some (.stop (Out.ret x2)) else some (.next (aH (x2+1)))) else some (.stop (Out.brk ())))
def kL:(Out Unit Int)→Option Int
  | .brk ()=>sS
  | .ret r=>some r
def nT(s:List Queue)(f:(Queue→Option Bool)):Option Int:=
  (loop (gM s f) 0).bind (kL)
def gN(s:List Queue)(f:(Queue→Option Bool)):Option Bool:=
  (nT s f).bind fun x1=>some (decide (0≤x1))
def xC:Option Int:=
  some (-1)
def jJ(s:List cX)(f:(cX→Option Bool)):Int→Option (Step Int (Out Unit Int))
  | x2=>(if decide (x2 < (s.length:Int)) then (idx s x2).bind fun x3=>(f x3).bind fun x4=>(if x4 then some (.stop (Out.ret x2)) else some (.next (aH (x2+1)))) else some (.stop (Out.brk ())))
def nU:(Out Unit Int)→Option Int
  | .brk ()=>xC
  | .ret r=>some r
def sZ(s:List cX)(f:(cX→Option Bool)):Option Int:=
  (loop (jJ s f) 0).bind (nU)
def jK(s:List cX)(f:(cX→Option Bool)):Option Bool:=
  (sZ s f).bind fun x1=>some (decide (0≤x1))
def mV(x1:Bool):Option Bool:=
  some x1
def bZ(n low high:Int):Option Bool:=
  (if decide (low≤n) then mV (decide (n≤high)) else mV false)
def CM(x4:Bool):Option Bool:=
  some x4
def CN(x7:Bool):Option Bool:=
  some x7
def xD(o_:cX)(x3:Bool):Option Bool:=
  (if x3 then some false else (if o_.Kind == 1 then (bZ o_.dT 0 100).bind fun x5=>(if x5 then (bZ o_.dV 0 65535).bind fun x6=>CM x6 else CM false) else (if o_.dT == 0 then CN (o_.dV == 0) else CN false)))
def lH(o_:cX)(x1:Bool):Option Bool:=
  (bZ o_.Kind 1 7).bind fun x2=>(if !x2 then some false else (if x1 then (bZ o_.Cell 0 1).bind fun x8=>(if !x8 then xD o_ true else xD o_ false) else xD o_ (o_.Cell != 0)))
def IF(o_:cX):Option Bool:=
  (if o_.Kind == 1 then lH o_ true else (if o_.Kind == 2 then lH o_ true else (if o_.Kind == 3 then lH o_ true else lH o_ (o_.Kind == 7))))
def uN(o_:cX):Option Bool:=
  (IF o_).bind fun x1=>some (!x1)
def rV(x1:Bool):Option Bool:=
  some x1
def z5(q:Queue):Option Bool:=
  (if decide (12 < (q.fK.length:Int)) then rV true else (jK q.fK (fun y0=>uN y0)).bind fun x2=>rV x2)
def xE(x1:Bool):Option Bool:=
  some x1
def F5(todo:List Queue):Option Bool:=
  (if (todo.length:Int) == 3 then (gN todo (fun y0=>z5 y0)).bind fun x2=>xE (!x2) else xE false)
def KV(x y:Int):Option (Int×Int):=
  some (IntKind.u64.wrap ((IntKind.u64.wrap ((IntKind.u64.wrap ((DX .u64 x 32) * (DX .u64 y 32)))+(DX .u64 (IntKind.u64.wrap ((IntKind.u64.wrap ((DX .u64 x 32) * (mM .and .u64 y 4294967295)))+(DX .u64 (IntKind.u64.wrap ((mM .and .u64 x 4294967295) * (mM .and .u64 y 4294967295))) 32))) 32)))+(DX .u64 (IntKind.u64.wrap ((mM .and .u64 (IntKind.u64.wrap ((IntKind.u64.wrap ((DX .u64 x 32) * (mM .and .u64 y 4294967295)))+(DX .u64 (IntKind.u64.wrap ((mM .and .u64 x 4294967295) * (mM .and .u64 y 4294967295))) 32))) 4294967295)+(IntKind.u64.wrap ((mM .and .u64 x 4294967295) * (DX .u64 y 32))))) 32)),IntKind.u64.wrap (x * y))
def G5(x y:Int):Option (Int×Int):=
  (KV x y).bind fun x1=>some (x1.1,x1.2)
def MG(x7:List Int):Option (List Int):=
  some x7
def iH:((List Int)×Int)→Option (Step ((List Int)×Int) (List Int))
  | (x5,x6)=>(if decide (x6 < (x5.length:Int)) then need (0≤(x6:Int)∧(x6:Int)≤(x5.length:Int)) (need (0≤(x6:Int)∧(x6:Int)≤(x5.length:Int)) (some (.next (cL x5 x6.toNat ((x5.take x6.toNat).drop 0),aH (x6+((min ((x5.take x6.toNat).drop 0).length (x5.length - x6.toNat):Nat):Int)))))) else some (.stop (x5)))
def MH:(List Int)→Option (List Int)
  | x7=>MG x7
def lI(x:List Int)(x1:Int×Int)(x2:Bool):Option (List Int):=
  (if x2 then none else need (0≤(IntKind.i64.wrap x1.2:Int)∧(IntKind.i64.wrap x1.2:Int)≤4294967296) ((loop (iH) (cL (List.replicate ((IntKind.i64.wrap x1.2).toNat) 0) 0 x,((min x.length ((List.replicate ((IntKind.i64.wrap x1.2).toNat) 0:List Int).length - 0):Nat):Int))).bind (MH)))
def pY(x:List Int)(count:Int):Option (List Int):=
  (if decide (count < 0) then none else (G5 (IntKind.u64.wrap (x.length:Int)) (IntKind.u64.wrap count)).bind fun x1=>(if decide (0 < x1.1) then lI x x1 true else lI x x1 (decide (9223372036854775807 < x1.2))))
def KW(x1:List Int):Option aC:=
  some (⟨List.replicate ((384:Int).toNat) 0,x1⟩:aC)
def CP:Option aC:=
  need (0≤(384:Int)∧(384:Int)≤4294967296)<|(pY ([(-1)]) 6).bind fun x2=>KW x2
def IG:Option aA:=
  some (⟨List.replicate ((3:Int).toNat) (⟨[]⟩:aG),List.replicate ((9:Int).toNat) (⟨[]⟩:aG)⟩:aA)
def G6:Option aA:=
  need (0≤(3:Int)∧(3:Int)≤4294967296)<|need (0≤(9:Int)∧(9:Int)≤4294967296)<|IG
def MI:Option Mem:=
  (CP).bind fun x1=>(G6).bind fun x2=>some (⟨x1,x2⟩:Mem)
def G7:Option aD:=
  need (0≤(3:Int)∧(3:Int)≤4294967296) (some (⟨0,List.replicate ((3:Int).toNat) (⟨false,0,false,0⟩:dK)⟩:aD))
def G8:Option (List aN):=
  need (0≤(3:Int)∧(3:Int)≤4294967296) (some (List.replicate ((3:Int).toNat) (⟨[]⟩:aN)))
def MJ:Option (List Int):=
  need (0≤(3:Int)∧(3:Int)≤4294967296) (some (List.replicate ((3:Int).toNat) 0))
def CQ:Option aB:=
  (MI).bind fun x1=>(G7).bind fun x2=>(G8).bind fun x3=>(MJ).bind fun x4=>some (⟨x1,x2,x3,x4⟩:aB)
def BO(s:List cX):Option (List cX):=
  need (([]:List cX).length+s.length≤1073741824) (some (([]:List cX)++s))
def R6(x5:List Queue):Option (List Queue):=
  some x5
def zF(todo:List Queue):((List Queue)×Int)→Option (Step ((List Queue)×Int) (List Queue))
  | (x3,x4)=>(if decide (x4 < (todo.length:Int)) then (idx todo x4).bind fun x6=>(BO x6.fK).bind fun x7=>need (x3.length+([(⟨x7⟩:Queue)]).length≤1073741824) (some (.next (x3++([(⟨x7⟩:Queue)]),aH (x4+1)))) else some (.stop (x3)))
def R7:(List Queue)→Option (List Queue)
  | x5=>R6 x5
def z6(todo:List Queue):Option (List Queue):=
  (loop (zF todo) (([]:List Queue),0)).bind (R7)
def IH(x2:aI):Option aI:=
  some ({x2 with Log:=[]}:aI)
def z7(todo:List Queue):Option aI:=
  (F5 todo).bind fun x1=>(if !x1 then some (⟨(⟨(⟨(⟨[],[]⟩:aC),(⟨[],[]⟩:aA)⟩:Mem),(⟨0,[]⟩:aD),[],[]⟩:aB),[],[],[],[],0⟩:aI) else (CQ).bind fun x3=>need (0≤(2:Int)∧(2:Int)≤4294967296)<|need (0≤(3:Int)∧(3:Int)≤4294967296)<|(z6 todo).bind fun x4=>IH (⟨x3,List.replicate ((2:Int).toNat) 0,List.replicate ((3:Int).toNat) (⟨false,(⟨0,0,0,0⟩:cX),0,0,(⟨0,0,0,0,0,0,0,0,0,false⟩:Sub),0,0,0,0⟩:bJ),x4,[],0⟩:aI))
def d8(w_:Int):Option Bool:=
  (bZ w_ 0 2).bind fun x1=>some x1
def cS(s:aI)(kind w_ handle val code:Int)(x1:bJ):Option aI:=
  some ({s with Log:=s.Log++([(⟨kind,w_,x1.aM,x1.Op.Cell,handle,val,code⟩:Ev)])}:aI)
def cE(s:aI)(kind w_ handle val code:Int):Option aI:=
  (idx s.aQ w_).bind fun x1=>need (s.Log.length+([(⟨kind,w_,x1.aM,x1.Op.Cell,handle,val,code⟩:Ev)]).length≤1073741824)<|cS s kind w_ handle val code x1
def rW(s:List cX)(i j:Int):Option (List cX):=
  need (0≤(i:Int)∧(i:Int)≤(j:Int)∧(j:Int)≤((s.length:Int):Int)∧((s.length:Int):Int)≤(s.length:Int)) ((if i == j then some s else need (0≤(i:Int)∧(i:Int)≤(s.length:Int)) (need (0≤(j:Int)∧(j:Int)≤(s.length:Int)) (need (i.toNat≤j.toNat) (need (0≤(((((cL s i.toNat (s.drop j.toNat)).take (i.toNat+(s.length - j.toNat))).drop 0).length:Int):Int)∧(((((cL s i.toNat (s.drop j.toNat)).take (i.toNat+(s.length - j.toNat))).drop 0).length:Int):Int)≤((s.length:Int):Int)∧((s.length:Int):Int)≤((cL s i.toNat (s.drop j.toNat)).length:Int)) (some (((cL s i.toNat (s.drop j.toNat)).take (i.toNat+(s.length - j.toNat))).drop 0)))))))
def gG(kind a_:Int):Option Sub:=
  some (⟨kind,a_,0,0,0,0,0,0,0,false⟩:Sub)
def bG(j:bJ)(code:Int):Option bJ:=
  some ({j with Pc:=9,Code:=code}:bJ)
def c9(s:aI)(w_:Int)(x4:(List cX))(x5:bJ):Option aI:=
  (idx s.aQ w_).bind fun x6=>(cE ({s with aQ:=s.aQ.set w_.toNat x5,aY:=s.aY.set w_.toNat (⟨x4⟩:Queue),aM:=aH (s.aM+1)}:aI) 1 w_ 0 0 0).bind fun x7=>some x7
def gD(s:aI)(w_:Int)(x3:cX)(x4:(List cX))(x9:Bool):Option aI:=
  (if x9 then (gG 5 0).bind fun x10=>(idx s.aB.aD.aP w_).bind fun x11=>(if x11.On then (bG (⟨true,x3,aH (s.aM+1),0,x10,0,0,0,0⟩:bJ) 1).bind fun x12=>c9 s w_ x4 x12 else c9 s w_ x4 (⟨true,x3,aH (s.aM+1),0,x10,0,0,0,0⟩:bJ)) else (if x3.Kind == 4 then (gG 3 0).bind fun x13=>c9 s w_ x4 (⟨true,x3,aH (s.aM+1),0,x13,0,0,0,0⟩:bJ) else c9 s w_ x4 (⟨true,x3,aH (s.aM+1),0,(⟨0,0,0,0,0,0,0,0,0,false⟩:Sub),0,0,0,0⟩:bJ)))
def mB(s:aI)(w_:Int)(x1:Bool):Option aI:=
  (if x1 then some s else (idx s.aY w_).bind fun x2=>(idx x2.fK 0).bind fun x3=>(rW x2.fK 0 1).bind fun x4=>(if x3.Kind == 1 then (gG 1 x3.dT).bind fun x8=>c9 s w_ x4 (⟨true,x3,aH (s.aM+1),0,x8,0,0,0,0⟩:bJ) else (if x3.Kind == 2 then gD s w_ x3 x4 true else gD s w_ x3 x4 (x3.Kind == 5))))
def rX(s:aI)(w_:Int):Option aI:=
  (idx s.aY w_).bind fun x14=>(if (x14.fK.length:Int) == 0 then mB s w_ true else mB s w_ (s.aM == 1000000))
def bA(s:Sub)(code:Int):Option Sub:=
  some ({s with Code:=code,cH:=true}:Sub)
def g9(c:Int):Option Bool:=
  (bZ c 0 2).bind fun x1=>some x1
def wE(c:Int):Option Int:=
  (g9 c).bind fun x1=>(if !x1 then some 0 else (idx ([8,16,40]:List Int) c).bind fun x2=>some x2)
def T5:Option Int:=
  some (-1)
def uO(x2:Int)(x3:Bool):Option (Step Int (Out Unit Int)):=
  (if x3 then some (.stop (Out.ret x2)) else some (.next (aH (x2+1))))
def gH(size:Int):Int→Option (Step Int (Out Unit Int))
  | x2=>(if decide (x2 < 3) then (if decide (1≤size) then (wE x2).bind fun x4=>uO x2 (decide (size≤x4)) else uO x2 false) else some (.stop (Out.brk ())))
def T6:(Out Unit Int)→Option Int
  | .brk ()=>T5
  | .ret r=>some r
def CR(size:Int):Option Int:=
  (loop (gH size) 0).bind (T6)
def fE(s:List Int):Option (List Int):=
  need (([]:List Int).length+s.length≤1073741824) (some (([]:List Int)++s))
def QJ(x5 x10:List aG):Option aA:=
  some (⟨x5,x10⟩:aA)
def xF(x8:Int)(x12:List aG):Option (Step (Int×(List aG)) (List aG)):=
  some (.next (aH (x8+1),x12))
def xG(l:aA):(Int×(List aG))→Option (Step (Int×(List aG)) (List aG))
  | (x8,x9)=>(if decide (x8 < (l.aU.length:Int)) then (idx l.aU x8).bind fun x11=>(fE x11.aO).bind fun x13=>need (x9.length+([(⟨x13⟩:aG)]).length≤1073741824)<|xF x8 (x9++([(⟨x13⟩:aG)])) else some (.stop (x9)))
def QK(x5:List aG):(List aG)→Option aA
  | x10=>QJ x5 x10
def F6(l:aA)(x5:List aG):Option aA:=
  (loop (xG l) (0,[])).bind (QK x5)
def xH(x3:Int)(x15:List aG):Option (Step (Int×(List aG)) (List aG)):=
  some (.next (aH (x3+1),x15))
def xI(l:aA):(Int×(List aG))→Option (Step (Int×(List aG)) (List aG))
  | (x3,x4)=>(if decide (x3 < (l.Global.length:Int)) then (idx l.Global x3).bind fun x14=>(fE x14.aO).bind fun x16=>need (x4.length+([(⟨x16⟩:aG)]).length≤1073741824)<|xH x3 (x4++([(⟨x16⟩:aG)])) else some (.stop (x4)))
def F7(l:aA):(List aG)→Option aA
  | x5=>F6 l x5
def fQ(l:aA):Option aA:=
  (loop (xI l) (0,[])).bind (F7 l)
def z8(w_ c:Int)(x1:Bool):Option Int:=
  (if x1 then some (-1) else some (aH ((aH (w_ * 3))+c)))
def EE(w_ c:Int):Option Int:=
  (d8 w_).bind fun x2=>(if !x2 then z8 w_ c true else (g9 c).bind fun x3=>z8 w_ c (!x3))
def jQ(slot:Int):Option Bool:=
  (bZ slot 0 23).bind fun x1=>some x1
def nV(x10:List Raw):Option (List Raw):=
  some x10
def fF(slices:List (List Raw)):((List Raw)×Int)→Option (Step ((List Raw)×Int) (List Raw))
  | (x8,x9)=>(if decide (x9 < (slices.length:Int)) then (idx slices x9).bind fun x11=>need (x8.length+x11.length≤1073741824) (some (.next (x8++x11,aH (x9+1)))) else some (.stop (x8)))
def JZ:(List Raw)→Option (List Raw)
  | x10=>nV x10
def jL(slices:List (List Raw))(x5:Int):Option (List Raw):=
  need (0≤x5∧x5≤1073741824) ((loop (fF slices) ([],0)).bind (JZ))
def eD(slices:List (List Raw)):(Int×Int)→Option (Step (Int×Int) Int)
  | (x3,x4)=>(if decide (x4 < (slices.length:Int)) then (idx slices x4).bind fun x12=>(if decide ((aH (x3+(x12.length:Int))) < 0) then none else some (.next (aH (x3+(x12.length:Int)),aH (x4+1)))) else some (.stop (x3)))
def xJ(slices:List (List Raw)):Int→Option (List Raw)
  | x5=>jL slices x5
def mC(slices:List (List Raw)):Option (List Raw):=
  (loop (eD slices) (0,0)).bind (xJ slices)
theorem E6{u1 u2:List Raw}(h:u1.length+u2.length≤1073741824):loop (eD [u1,u2]) (0,0)=some ((u1.length+u2.length:Nat):Int):=by
  have e1:aH (u1.length:Int)=u1.length:=D2 (by omega)
  have e2:aH ((u1.length:Int)+(u2.length:Int))=((u1.length+u2.length:Nat):Int):=by rw [D2 (by omega)];rfl
  have e3:aH (0+1)=1:=D2 (by omega)
  have e4:aH 2=2:=D2 (by omega)
  have n1:¬(u1.length:Int) < 0:=by omega
  have n2:¬((u1.length+u2.length:Nat):Int) < 0:=by omega
  rw [bS (s':=((u1.length:Int),1)) ?_,bS (s':=(((u1.length+u2.length:Nat):Int),2)) ?_,bX (r:=((u1.length+u2.length:Nat):Int)) ?_]
  · simp [eD]
  · simp [eD,idx,e2,e4]
    omega
  · simp [eD,idx,e1,n1]
    exact e3
theorem II{u1 u2:List Raw}{n1 n2:Nat}(hl:u1.length=n1∧u2.length=n2)(h:n1+n2≤1073741824):mC [u1,u2]=some (u1++u2):=by
  obtain⟨rfl,rfl⟩:=hl
  have e3:aH (0+1)=1:=D2 (by omega)
  have e4:aH 2=2:=D2 (by omega)
  unfold mC
  rw [E6 h]
  simp only [Option.bind_some,xJ,jL]
  rw [aR (by omega),bS (s':=(u1,1)) ?_,bS (s':=(u1++u2,2)) ?_,bX (r:=u1++u2) ?_]
  · rfl
  · simp [fF]
  · simp [fF,idx,e4,aR h]
  · have h1:u1.length≤1073741824:=by omega
    simp [fF,idx,aR h1]
    exact e3
def BP:Option Bool:=
  some true
def uP(x4:Int)(x12:List Bool):Option (Step (Int×(List Bool)) (Out Unit Bool)):=
  some (.next (aH (x4+1),x12))
def kW(x10:Int)(x11:List Bool)(x13:Int)(x14:Bool):Option (Step (Int×(List Bool)) (Out (List Bool) Bool)):=
  (if x14 then some (.stop (Out.ret false)) else need (0≤(x13:Int)∧(x13:Int) < 24) ((idx (x11:List Bool) x13).bind fun x15=>some (.next (aH (x10+1),x11.set (x13.toNat) true))))
def iY(x6:aG):(Int×(List Bool))→Option (Step (Int×(List Bool)) (Out (List Bool) Bool))
  | (x10,x11)=>(if decide (x10 < (x6.aO.length:Int)) then (idx x6.aO x10).bind fun x13=>(jQ x13).bind fun x16=>(if !x16 then kW x10 x11 x13 true else need (0≤(x13:Int)∧(x13:Int) < 24) ((idx (x11:List Bool) x13).bind fun x17=>kW x10 x11 x13 x17)) else some (.stop (Out.brk x11)))
def KX(x4:Int):(Out (List Bool) Bool)→Option (Step (Int×(List Bool)) (Out Unit Bool))
  | .brk x12=>uP x4 x12
  | .ret r=>some (.stop (Out.ret r))
def iZ(x4:Int)(x5:List Bool)(x6:aG)(x7:Bool):Option (Step (Int×(List Bool)) (Out Unit Bool)):=
  (if x7 then some (.stop (Out.ret false)) else (loop (iY x6) (0,x5)).bind (KX x4))
def i3(l:aA):(Int×(List Bool))→Option (Step (Int×(List Bool)) (Out Unit Bool))
  | (x4,x5)=>(if decide (x4 < ((l.aU++l.Global).length:Int)) then (idx (l.aU++l.Global) x4).bind fun x6=>(if decide (x4 < (l.aU.length:Int)) then iZ x4 x5 x6 (decide (2 < (x6.aO.length:Int))) else iZ x4 x5 x6 false) else some (.stop (Out.brk ())))
def T7:(Out Unit Bool)→Option Bool
  | .brk ()=>BP
  | .ret r=>some r
def oY(l:aA)(x1:Bool):Option Bool:=
  (if x1 then some false else need (l.aU.length+l.Global.length≤1073741824) ((loop (i3 l) (0,[false,false,false,false,false,false,false,false,false,false,false,false,false,false,false,false,false,false,false,false,false,false,false,false])).bind (T7)))
def hC(l:aA):Option Bool:=
  (if (l.Global.length:Int) != 3 then oY l true else oY l ((l.aU.length:Int) != 9))
def qM(s:aG):Option (Int×aG):=
  (if decide ((aH ((s.aO.length:Int) - 1)) < 0) then some ((-1),s) else (idx s.aO (aH ((s.aO.length:Int) - 1))).bind fun x1=>need (0≤(aH ((s.aO.length:Int) - 1):Int)∧(aH ((s.aO.length:Int) - 1):Int)≤(aH ((s.aO.length:Int) - 1):Int)∧(aH ((s.aO.length:Int) - 1):Int)≤(s.aO.length:Int)) (some (x1,(⟨(s.aO.take ((aH ((s.aO.length:Int) - 1)).toNat)).drop 0⟩:aG))))
def uQ(x1:aA)(x2:Int)(x3:Bool):Option (aA×Int):=
  (if x3 then some (x1,(-1)) else (idx x1.aU x2).bind fun x4=>(qM x4).bind fun x5=>some ((⟨x1.Global,x1.aU.set x2.toNat x5.2⟩:aA),x5.1))
def CS(l:aA)(w_ c:Int):Option (aA×Int):=
  (fQ l).bind fun x1=>(EE w_ c).bind fun x2=>(hC l).bind fun x6=>(if !x6 then uQ x1 x2 true else uQ x1 x2 (decide (x2 < 0)))
def nW(c:Int)(x1:aA)(x2:Bool):Option (aA×Int):=
  (if x2 then some (x1,(-1)) else (idx x1.Global c).bind fun x3=>(qM x3).bind fun x4=>some ((⟨x1.Global.set c.toNat x4.2,x1.aU⟩:aA),x4.1))
def uR(l:aA)(c:Int):Option (aA×Int):=
  (fQ l).bind fun x1=>(hC l).bind fun x5=>(if !x5 then nW c x1 true else (g9 c).bind fun x6=>nW c x1 (!x6))
def hJ(width:Int):Option Bool:=
  (bZ width 1 7).bind fun x1=>some x1
def Z4(x8:List UInt8):Option (List UInt8):=
  some x8
def z9:(Int×(List UInt8)×Int)→Option (Step (Int×(List UInt8)×Int) (List UInt8))
  | (x5,x6,x7)=>(if decide (0≤x7) then (idx x6 x7).bind fun x9=>some (.next (DX .i64 x5 8,x6.set x7.toNat (u8 x5),aH (x7 - 1))) else some (.stop (x6)))
def Z5:(List UInt8)→Option (List UInt8)
  | x8=>Z4 x8
def tP(n width:Int)(x1:Bool):Option (List UInt8):=
  (if x1 then some ([]) else need (0≤(width:Int)∧(width:Int)≤4294967296) ((loop (z9) (n,List.replicate (width.toNat) 0,aH (width - 1))).bind (Z5)))
def vV(n width:Int):Option (List UInt8):=
  (hJ width).bind fun x10=>(if !x10 then tP n width true else (if decide (n < 0) then tP n width true else need (0≤(IntKind.u64.wrap (aH (8 * width)):Int)) (tP n width (decide ((aBJ .i64 1 (IntKind.u64.wrap (aH (8 * width))))≤n)))))
def MK(b x5:List Int):Option (List Int):=
  need (x5.length=b.length) (some x5)
def xK(b:List Int)(at_:Int)(text:List UInt8):((List Int)×Int)→Option (Step ((List Int)×Int) (List Int))
  | (x3,x4)=>need (x3.length=b.length) ((if decide (x4 < (text.length:Int)) then (idx text x4).bind fun x6=>(idx x3 (aH (at_+x4))).bind fun x7=>some (.next (x3.set ((aH (at_+x4)).toNat) (x6.toNat:Int),aH (x4+1))) else some (.stop (x3))))
def ML(b:List Int):(List Int)→Option (List Int)
  | x5=>MK b x5
def qN(b:List Int)(at_:Int)(text:List UInt8):Option (List Int):=
  (loop (xK b at_ text) (b,0)).bind (ML b)
def pG(h:aC):Option aC:=
  (fE h.Bytes).bind fun x1=>(fE h.Class).bind fun x2=>some (⟨x1,x2⟩:aC)
def wF:Option Int:=
  some (-1)
def fX(s:List Int)(f:(Int→Option Bool)):Int→Option (Step Int (Out Unit Int))
  | x2=>(if decide (x2 < (s.length:Int)) then (idx s x2).bind fun x3=>(f x3).bind fun x4=>(if x4 then some (.stop (Out.ret x2)) else some (.next (aH (x2+1)))) else some (.stop (Out.brk ())))
def mW:(Out Unit Int)→Option Int
  | .brk ()=>wF
  | .ret r=>some r
def qO(s:List Int)(f:(Int→Option Bool)):Option Int:=
  (loop (fX s f) 0).bind (mW)
def d4(s:List Int)(f:(Int→Option Bool)):Option Bool:=
  (qO s f).bind fun x1=>some (decide (0≤x1))
def MM(x:Int):Option Bool:=
  (bZ x 0 255).bind fun x1=>some x1
def xL(x:Int):Option Bool:=
  (MM x).bind fun x1=>some (!x1)
def uS(x1:Bool):Option Bool:=
  some x1
def CT(b:List Int):Option Bool:=
  (if decide ((b.length:Int)≤1000) then (d4 b (fun y0=>xL y0)).bind fun x2=>uS (!x2) else uS false)
def AA(c:Int):Option Bool:=
  (bZ c (-1) 2).bind fun x1=>some (!x1)
def mX(x1:Bool):Option Bool:=
  some x1
def A2(h:aC):Option Bool:=
  (if (h.Bytes.length:Int) == 384 then (CT h.Bytes).bind fun x2=>(if x2 then (if (h.Class.length:Int) == 6 then (d4 h.Class (fun y0=>AA y0)).bind fun x3=>mX (!x3) else mX false) else mX false) else mX false)
def T8(x5:Int):Option Int:=
  some x5
def oZ(b:List Int)(at_ width:Int):(Int×Int)→Option (Step (Int×Int) Int)
  | (x3,x4)=>(if decide (x4 < (((b.take ((aH (at_+width)).toNat)).drop at_.toNat).length:Int)) then (idx ((b.take ((aH (at_+width)).toNat)).drop at_.toNat) x4).bind fun x6=>some (.next (aH ((aH (256 * x3))+x6),aH (x4+1))) else some (.stop (x3)))
def T9:Int→Option Int
  | x5=>T8 x5
def jM(b:List Int)(at_ width:Int):Option Int:=
  need (0≤(at_:Int)∧(at_:Int)≤(aH (at_+width):Int)∧(aH (at_+width):Int)≤(b.length:Int)) ((loop (oZ b at_ width) (0,0)).bind (T9))
def pH(c:Int):Option Int:=
  (g9 c).bind fun x1=>(if !x1 then some 0 else (wE c).bind fun x2=>some (aH (4+x2)))
def lJ(c:Int):Option Int:=
  (g9 c).bind fun x1=>(if !x1 then some 0 else (pH c).bind fun x2=>need (x2≠0) (some (aH (Int.tdiv 56 x2))))
def AB(x:Int):Option Bool:=
  some (x != 0)
def A3(b:List Int):Option Bool:=
  (d4 b (fun y0=>AB y0)).bind fun x1=>some (!x1)
def XP:Option Bool:=
  some true
def mY(h:aC)(page x1 x4:Int):Int→Option (Step Int (Out Unit Bool))
  | x6=>(if decide (x6 < x4) then (pH x1).bind fun x7=>(jM ((h.Bytes.take ((aH ((aH (page+1)) * 64)).toNat)).drop ((aH (page * 64)).toNat)) (aH (8+(aH (x6 * x7)))) 4).bind fun x8=>(bZ x8 1 7).bind fun x9=>(if !x9 then some (.stop (Out.ret false)) else some (.next (aH (x6+1)))) else some (.stop (Out.brk ())))
def XQ:(Out Unit Bool)→Option Bool
  | .brk ()=>XP
  | .ret r=>some r
def f8(h:aC)(page x1:Int)(x3:Bool):Option Bool:=
  (if x3 then some false else (lJ x1).bind fun x4=>(loop (mY h page x1 x4) 0).bind (XQ))
def F8(h:aC)(page:Int):Option Bool:=
  (idx h.Class page).bind fun x1=>need (0≤(aH (page * 64):Int)∧(aH (page * 64):Int)≤(aH ((aH (page+1)) * 64):Int)∧(aH ((aH (page+1)) * 64):Int)≤(h.Bytes.length:Int)) ((if decide (x1 < 0) then (A3 ((h.Bytes.take ((aH ((aH (page+1)) * 64)).toNat)).drop ((aH (page * 64)).toNat))).bind fun x2=>some x2 else (idx ((h.Bytes.take ((aH ((aH (page+1)) * 64)).toNat)).drop ((aH (page * 64)).toNat)) 0).bind fun x10=>(if x10 != 171 then f8 h page x1 true else (idx ((h.Bytes.take ((aH ((aH (page+1)) * 64)).toNat)).drop ((aH (page * 64)).toNat)) 1).bind fun x11=>(if x11 != x1 then f8 h page x1 true else (idx ((h.Bytes.take ((aH ((aH (page+1)) * 64)).toNat)).drop ((aH (page * 64)).toNat)) 2).bind fun x12=>(lJ x1).bind fun x13=>(if x12 != x13 then f8 h page x1 true else need (0≤(3:Int)∧(3:Int)≤(8:Int)∧(8:Int)≤(((h.Bytes.take ((aH ((aH (page+1)) * 64)).toNat)).drop ((aH (page * 64)).toNat)).length:Int)) ((A3 ((((h.Bytes.take ((aH ((aH (page+1)) * 64)).toNat)).drop ((aH (page * 64)).toNat)).take ((8:Int).toNat)).drop ((3:Int).toNat))).bind fun x14=>f8 h page x1 (!x14)))))))
def XR:Option Bool:=
  some true
def qP(h:aC):Int→Option (Step Int (Out Unit Bool))
  | x3=>(if decide (x3 < 6) then (F8 h x3).bind fun x4=>(if !x4 then some (.stop (Out.ret false)) else some (.next (aH (x3+1)))) else some (.stop (Out.brk ())))
def XS:(Out Unit Bool)→Option Bool
  | .brk ()=>XR
  | .ret r=>some r
def A4(h:aC):Option Bool:=
  (A2 h).bind fun x1=>(if !x1 then some false else (loop (qP h) 0).bind (XS))
def tQ(slot c:Int)(x1:Bool):Option Int:=
  (if x1 then some (-1) else (pH c).bind fun x2=>some (aH ((aH ((aH ((aH (Int.tdiv slot 4)) * 64))+8))+(aH ((Int.tmod slot 4) * x2)))))
def qQ(slot c:Int):Option Int:=
  (jQ slot).bind fun x3=>(if !x3 then tQ slot c true else (g9 c).bind fun x4=>(if !x4 then tQ slot c true else (lJ c).bind fun x5=>tQ slot c (decide (x5≤(Int.tmod slot 4)))))
def BW:Option Int:=
  some (-1)
def dJ(s:List Int)(v:Int):Int→Option (Step Int (Out Unit Int))
  | x2=>(if decide (x2 < (s.length:Int)) then (idx s x2).bind fun x3=>(if v == x3 then some (.stop (Out.ret x2)) else some (.next (aH (x2+1)))) else some (.stop (Out.brk ())))
def mD:(Out Unit Int)→Option Int
  | .brk ()=>BW
  | .ret r=>some r
def jY(s:List Int)(v:Int):Option Int:=
  (loop (dJ s v) 0).bind (mD)
def xM(page index:Int)(x1:Bool):Option Int:=
  (if x1 then some (-1) else some (aH ((aH (page * 4))+index)))
def F9(page index:Int):Option Int:=
  (bZ page 0 5).bind fun x2=>(if !x2 then xM page index true else (bZ index 0 3).bind fun x3=>xM page index (!x3))
def Z6(c:Int)(x1:aC)(x2:Int)(x13 x14:List Int):Option (aC×(List Int)):=
  some ((⟨x14,x1.Class.set x2.toNat c⟩:aC),x13)
def G9(x10:List Int)(x11 x15:Int)(x16:List Int):Option (Step ((List Int)×Int×(List Int)) ((List Int)×(List Int))):=
  need (x10.length+([x15]).length≤1073741824) (some (.next (x10++([x15]),aH (x11+1),x16)))
def AD(c x2 x6:Int):((List Int)×Int×(List Int))→Option (Step ((List Int)×Int×(List Int)) ((List Int)×(List Int)))
  | (x10,x11,x12)=>(if decide (x11 < x6) then (F9 x2 x11).bind fun x15=>(qQ x15 c).bind fun x17=>(vV 1 4).bind fun x18=>(qN x12 x17 x18).bind fun x19=>G9 x10 x11 x15 x19 else some (.stop ((x10,x12))))
def Z7(c:Int)(x1:aC)(x2:Int):((List Int)×(List Int))→Option (aC×(List Int))
  | (x13,x14)=>Z6 c x1 x2 x13 x14
def HA(c:Int)(x1:aC)(x2:Int)(x5:List Int):Option (aC×(List Int)):=
  (lJ c).bind fun x6=>(loop (AD c x2 x6) (([]:List Int),0,x5)).bind (Z7 c x1 x2)
def tR(c:Int)(x1:aC)(x2:Int)(x3:Bool):Option (aC×(List Int)):=
  (if x3 then some (x1,([]:List Int)) else (idx x1.Class x2).bind fun x4=>need (0≤(aH (x2 * 64):Int)∧(aH (x2 * 64):Int)≤(x1.Bytes.length:Int))<|(lJ c).bind fun x20=>HA c x1 x2 (cL x1.Bytes ((aH (x2 * 64)).toNat) ([171,c,x20]:List Int)))
def zG(h:aC)(c:Int):Option (aC×(List Int)):=
  (pG h).bind fun x1=>(jY h.Class (-1)).bind fun x2=>(A4 h).bind fun x21=>(if !x21 then tR c x1 x2 true else (g9 c).bind fun x22=>(if !x22 then tR c x1 x2 true else tR c x1 x2 (decide (x2 < 0))))
def BQ(x4:Int)(x5:Mem):Option (Mem×Int):=
  some (x5,x4)
def BR(c:Int)(x1:aC×(List Int))(x2:Mem):Option (Mem×Int):=
  (if (x1.2.length:Int) == 0 then some (x2,(-1)) else (idx x2.aA.Global c).bind fun x3=>need (0≤(1:Int)∧(1:Int)≤(x1.2.length:Int)) (need (x3.aO.length+((x1.2.take x1.2.length).drop ((1:Int).toNat)).length≤1073741824) ((idx x1.2 0).bind fun x6=>BQ x6 (⟨x2.aC,(⟨x2.aA.Global.set c.toNat (⟨x3.aO++((x1.2.take x1.2.length).drop ((1:Int).toNat))⟩:aG),x2.aA.aU⟩:aA)⟩:Mem))))
def CU(m:Mem)(c:Int):Option (Mem×Int):=
  (zG m.aC c).bind fun x1=>(fQ m.aA).bind fun x7=>BR c x1 (⟨x1.1,x7⟩:Mem)
def rY(slot gen:Int)(x1:Bool):Option Int:=
  (if x1 then some 0 else some (aH ((aH (gen * 32))+slot)))
def HB(slot gen:Int):Option Int:=
  (jQ slot).bind fun x2=>(if !x2 then rY slot gen true else (bZ gen 1 6).bind fun x3=>rY slot gen (!x3))
def uT(h:aC)(slot:Int)(x1:Bool):Option Int:=
  (if x1 then some (-1) else (idx h.Class (aH (Int.tdiv slot 4))).bind fun x2=>some x2)
def lK(h:aC)(slot:Int):Option Int:=
  (jQ slot).bind fun x3=>(if !x3 then uT h slot true else (idx h.Class (aH (Int.tdiv slot 4))).bind fun x4=>(qQ slot x4).bind fun x5=>uT h slot (decide (x5 < 0)))
def nX(h:aC)(slot:Int):Option Int:=
  (A2 h).bind fun x1=>(if !x1 then some (-1) else (lK h slot).bind fun x2=>some x2)
def vW(h:aC)(slot:Int):Option Int:=
  (nX h slot).bind fun x1=>(if decide (x1 < 0) then some 0 else (qQ slot x1).bind fun x2=>(jM h.Bytes x2 4).bind fun x3=>some x3)
def AE(m:Mem)(slot:Int):Option Int:=
  (vW m.aC slot).bind fun x1=>(HB slot x1).bind fun x2=>some x2
def fN(s:Sub)(x3:Int)(x4:aB):Option (Sub×aB):=
  (if decide (0≤x3) then (AE x4.Mem x3).bind fun x5=>(bA ({s with Out:=x5}:Sub) 0).bind fun x6=>some (x6,x4) else (if s.Pc == 3 then (bA s 3).bind fun x7=>some (x7,x4) else some (({s with Pc:=aH (s.Pc+1)}:Sub),x4)))
def kH(s:Sub)(b:aB)(x1:Int)(x9:Bool):Option (Sub×aB):=
  (if x9 then (uR b.Mem.aA x1).bind fun x10=>fN s x10.2 ({b with Mem:=(⟨b.Mem.aC,x10.1⟩:Mem)}:aB) else (if s.Pc == 2 then (CU b.Mem x1).bind fun x11=>fN s x11.2 ({b with Mem:=x11.1}:aB) else (bA s 1).bind fun x12=>some (x12,b)))
def nY(s:Sub)(b:aB)(w_:Int):Option (Sub×aB):=
  (CR s.A).bind fun x1=>(if decide (x1 < 0) then (bA s 2).bind fun x2=>some (x2,b) else (if s.Pc == 0 then (CS b.Mem.aA w_ x1).bind fun x8=>fN s x8.2 ({b with Mem:=(⟨b.Mem.aC,x8.1⟩:Mem)}:aB) else (if s.Pc == 1 then kH s b x1 true else kH s b x1 (s.Pc == 3))))
def jZ(x1:Bool):Option Bool:=
  some x1
def fA(h:Int):Option Bool:=
  (bZ h 32 223).bind fun x2=>(if x2 then jZ (decide ((Int.tmod h 32) < 24)) else jZ false)
def mE(s:List Int)(v:Int):Option Bool:=
  (jY s v).bind fun x1=>some (decide (0≤x1))
def lY(s:aG)(k0:Int):Option Bool:=
  (mE s.aO k0).bind fun x1=>some x1
def sT:Option Int:=
  some (-1)
def gO(s:List aG)(f:(aG→Option Bool)):Int→Option (Step Int (Out Unit Int))
  | x2=>(if decide (x2 < (s.length:Int)) then (idx s x2).bind fun x3=>(f x3).bind fun x4=>(if x4 then some (.stop (Out.ret x2)) else some (.next (aH (x2+1)))) else some (.stop (Out.brk ())))
def kM:(Out Unit Int)→Option Int
  | .brk ()=>sT
  | .ret r=>some r
def nZ(s:List aG)(f:(aG→Option Bool)):Option Int:=
  (loop (gO s f) 0).bind (kM)
def fI(s:List aG)(f:(aG→Option Bool)):Option Bool:=
  (nZ s f).bind fun x1=>some (decide (0≤x1))
def xN(x1:Bool):Option Bool:=
  some x1
def A5(l:aA)(slot:Int):Option Bool:=
  (fI l.Global (fun y0=>lY y0 slot)).bind fun x2=>(if x2 then xN true else (fI l.aU (fun y0=>lY y0 slot)).bind fun x3=>xN x3)
def CV(m:Mem)(slot:Int):Option Int:=
  (lK m.aC slot).bind fun x1=>(if decide (x1 < 0) then some 0 else (A5 m.aA slot).bind fun x2=>(if x2 then some 1 else (vW m.aC slot).bind fun x3=>(if decide (6 < x3) then some 2 else some 3)))
def qR(x1:Bool):Option Bool:=
  some x1
def A6(m:Mem)(h:Int):Option Bool:=
  (fA h).bind fun x2=>(if x2 then (CV m (Int.tmod h 32)).bind fun x3=>(if x3 == 3 then (vW m.aC (Int.tmod h 32)).bind fun x4=>qR (x4 == (aH (Int.tdiv h 32))) else qR false) else qR false)
def sU:Option Int:=
  some (-1)
def gP(s:List aN)(f:(aN→Option Bool)):Int→Option (Step Int (Out Unit Int))
  | x2=>(if decide (x2 < (s.length:Int)) then (idx s x2).bind fun x3=>(f x3).bind fun x4=>(if x4 then some (.stop (Out.ret x2)) else some (.next (aH (x2+1)))) else some (.stop (Out.brk ())))
def kN:(Out Unit Int)→Option Int
  | .brk ()=>sU
  | .ret r=>some r
def n9(s:List aN)(f:(aN→Option Bool)):Option Int:=
  (loop (gP s f) 0).bind (kN)
def gQ(s:List aN)(f:(aN→Option Bool)):Option Bool:=
  (n9 s f).bind fun x1=>some (decide (0≤x1))
def tS:Option Int:=
  some (-1)
def hO(s:List bY)(f:(bY→Option Bool)):Int→Option (Step Int (Out Unit Int))
  | x2=>(if decide (x2 < (s.length:Int)) then (idx s x2).bind fun x3=>(f x3).bind fun x4=>(if x4 then some (.stop (Out.ret x2)) else some (.next (aH (x2+1)))) else some (.stop (Out.brk ())))
def lZ:(Out Unit Int)→Option Int
  | .brk ()=>tS
  | .ret r=>some r
def pO(s:List bY)(f:(bY→Option Bool)):Option Int:=
  (loop (hO s f) 0).bind (lZ)
def hQ(s:List bY)(f:(bY→Option Bool)):Option Bool:=
  (pO s f).bind fun x1=>some (decide (0≤x1))
def mF(x1:Bool):Option Bool:=
  some x1
def mZ(r_:bY)(k0:Int):Option Bool:=
  (fA r_.Handle).bind fun x2=>(if x2 then mF ((Int.tmod r_.Handle 32) == k0) else mF false)
def xO(own:aN)(k0:Int):Option Bool:=
  (hQ own.Rows (fun y0=>mZ y0 k0)).bind fun x1=>some x1
def CX(l:List aN)(slot:Int):Option Bool:=
  (gQ l (fun y0=>xO y0 slot)).bind fun x1=>some x1
def xP(x5:Int):Option Int:=
  some x5
def f9(l:List aN):(Int×Int)→Option (Step (Int×Int) Int)
  | (x3,x4)=>(if decide (x4 < (l.length:Int)) then (idx l x4).bind fun x6=>some (.next (aH (x3+(x6.Rows.length:Int)),aH (x4+1))) else some (.stop (x3)))
def QL:Int→Option Int
  | x5=>xP x5
def qS(l:List aN):Option Int:=
  (loop (f9 l) (0,0)).bind (QL)
def uU(l:List aN):Option Bool:=
  (qS l).bind fun x5=>some (decide (x5≤24))
def uV(x3:Int)(x11:List Bool):Option (Step (Int×(List Bool)) (Out Unit Bool)):=
  some (.next (aH (x3+1),x11))
def gI(x9:Int)(x10:List Bool)(x12:bY)(x13:Bool):Option (Step (Int×(List Bool)) (Out (List Bool) Bool)):=
  (if x13 then some (.stop (Out.ret false)) else need (0≤(Int.tmod x12.Handle 32:Int)∧(Int.tmod x12.Handle 32:Int) < 24) ((idx (x10:List Bool) (Int.tmod x12.Handle 32)).bind fun x14=>some (.next (aH (x9+1),x10.set ((Int.tmod x12.Handle 32).toNat) true))))
def i4(x6:aN):(Int×(List Bool))→Option (Step (Int×(List Bool)) (Out (List Bool) Bool))
  | (x9,x10)=>(if decide (x9 < (x6.Rows.length:Int)) then (idx x6.Rows x9).bind fun x12=>(fA x12.Handle).bind fun x15=>(if !x15 then gI x9 x10 x12 true else (bZ x12.aJ 0 100000).bind fun x16=>(if !x16 then gI x9 x10 x12 true else need (0≤(Int.tmod x12.Handle 32:Int)∧(Int.tmod x12.Handle 32:Int) < 24) ((idx (x10:List Bool) (Int.tmod x12.Handle 32)).bind fun x17=>gI x9 x10 x12 x17))) else some (.stop (Out.brk x10)))
def KY(x3:Int):(Out (List Bool) Bool)→Option (Step (Int×(List Bool)) (Out Unit Bool))
  | .brk x11=>uV x3 x11
  | .ret r=>some (.stop (Out.ret r))
def i5(l:List aN):(Int×(List Bool))→Option (Step (Int×(List Bool)) (Out Unit Bool))
  | (x3,x4)=>(if decide (x3 < (l.length:Int)) then (idx l x3).bind fun x6=>(loop (i4 x6) (0,x4)).bind (KY x3) else some (.stop (Out.brk ())))
def KZ(l:List aN):(Out Unit Bool)→Option Bool
  | .brk ()=>uU l
  | .ret r=>some r
def lL(l:List aN):Option Bool:=
  (if (l.length:Int) != 3 then some false else (loop (i5 l) (0,[false,false,false,false,false,false,false,false,false,false,false,false,false,false,false,false,false,false,false,false,false,false,false,false])).bind (KZ l))
def pZ(s:List bY):Option (List bY):=
  need (([]:List bY).length+s.length≤1073741824) (some (([]:List bY)++s))
def QM(x5:List aN):Option (List aN):=
  some x5
def xQ(l:List aN):((List aN)×Int)→Option (Step ((List aN)×Int) (List aN))
  | (x3,x4)=>(if decide (x4 < (l.length:Int)) then (idx l x4).bind fun x6=>(pZ x6.Rows).bind fun x7=>need (x3.length+([(⟨x7⟩:aN)]).length≤1073741824) (some (.next (x3++([(⟨x7⟩:aN)]),aH (x4+1)))) else some (.stop (x3)))
def QN:(List aN)→Option (List aN)
  | x5=>QM x5
def kB(l:List aN):Option (List aN):=
  (loop (xQ l) (([]:List aN),0)).bind (QN)
def rZ(l:List aN)(w_ h e_:Int)(x1:Bool):Option ((List aN)×Bool):=
  (if x1 then (kB l).bind fun x2=>some (x2,false) else (kB l).bind fun x3=>(idx x3 w_).bind fun x4=>need (x4.Rows.length+([(⟨h,e_⟩:bY)]).length≤1073741824) ((lL (x3.set w_.toNat (⟨x4.Rows++([(⟨h,e_⟩:bY)])⟩:aN))).bind fun x5=>(if !x5 then (kB l).bind fun x6=>some (x6,false) else some (x3.set w_.toNat (⟨x4.Rows++([(⟨h,e_⟩:bY)])⟩:aN),true))))
def AF(l:List aN)(w_ h e_:Int):Option ((List aN)×Bool):=
  (lL l).bind fun x7=>(if !x7 then rZ l w_ h e_ true else (d8 w_).bind fun x8=>rZ l w_ h e_ (!x8))
def jN(s:Sub)(b:aB)(w_:Int)(x3:Bool):Option (Sub×aB):=
  (if x3 then (bA s 4).bind fun x4=>some (x4,b) else (AF b.aK w_ s.A s.E).bind fun x5=>(bA s 0).bind fun x6=>some (x6,({b with aK:=x5.1}:aB)))
def jO(s:Sub)(b:aB)(w_:Int)(x1:Bool):Option (Sub×aB):=
  (if x1 then (bA s 1).bind fun x2=>some (x2,b) else (A6 b.Mem s.A).bind fun x7=>(if !x7 then jN s b w_ true else (CX b.aK (Int.tmod s.A 32)).bind fun x8=>jN s b w_ x8))
def mG(s:Sub)(b:aB)(w_:Int):Option (Sub×aB):=
  (if s.Pc == 0 then some (({s with Pc:=1,E:=b.aD.aJ}:Sub),b) else (if s.Pc != 1 then jO s b w_ true else (bZ s.E 0 b.aD.aJ).bind fun x9=>jO s b w_ (!x9)))
def r9(s:List dK):Option (List dK):=
  need (([]:List dK).length+s.length≤1073741824) (some (([]:List dK)++s))
def kC(c:aD):Option aD:=
  (r9 c.aP).bind fun x1=>some (⟨c.aJ,x1⟩:aD)
def wG:Option Int:=
  some (-1)
def fY(s:List dK)(f:(dK→Option Bool)):Int→Option (Step Int (Out Unit Int))
  | x2=>(if decide (x2 < (s.length:Int)) then (idx s x2).bind fun x3=>(f x3).bind fun x4=>(if x4 then some (.stop (Out.ret x2)) else some (.next (aH (x2+1)))) else some (.stop (Out.brk ())))
def m0:(Out Unit Int)→Option Int
  | .brk ()=>wG
  | .ret r=>some r
def qT(s:List dK)(f:(dK→Option Bool)):Option Int:=
  (loop (fY s f) 0).bind (m0)
def iN(s:List dK)(f:(dK→Option Bool)):Option Bool:=
  (qT s f).bind fun x1=>some (decide (0≤x1))
def iO(x1:Bool):Option Bool:=
  some x1
def qU(p:dK)(k0:aD):Option Bool:=
  (bZ p.aJ 0 k0.aJ).bind fun x2=>(if !x2 then iO true else (bZ p.Seen 0 2).bind fun x3=>(if !x3 then iO true else (if !p.On then iO (!(decide (p=(⟨false,0,false,0⟩:dK)))) else iO false)))
def o4(x1:Bool):Option Bool:=
  some x1
def oA(c:aD):Option Bool:=
  (bZ c.aJ 0 100000).bind fun x2=>(if x2 then (if (c.aP.length:Int) == 3 then (iN c.aP (fun y0=>qU y0 c)).bind fun x3=>o4 (!x3) else o4 false) else o4 false)
def m3(w_:Int)(x1:aD)(x4:Bool):Option (aD×Bool):=
  (if x4 then some (x1,true) else (idx x1.aP w_).bind fun x5=>(if decide (x5.Seen < 2) then some ((⟨x1.aJ,x1.aP.set w_.toNat ({x5 with Seen:=aH (x5.Seen+1)}:dK)⟩:aD),false) else some ((⟨x1.aJ,x1.aP.set w_.toNat ({x5 with d9:=true,Seen:=0}:dK)⟩:aD),true)))
def xR(w_ e_:Int)(x1:aD)(x2:Bool):Option (aD×Bool):=
  (if x2 then some (x1,false) else (idx x1.aP w_).bind fun x3=>(if !x3.On then m3 w_ x1 true else (if x3.d9 then m3 w_ x1 true else m3 w_ x1 (x3.aJ == e_))))
def GA(c:aD)(w_ e_:Int):Option (aD×Bool):=
  (kC c).bind fun x1=>(oA c).bind fun x6=>(if !x6 then xR w_ e_ x1 true else (d8 w_).bind fun x7=>xR w_ e_ x1 (!x7))
def xS(x1:aD)(x2:Bool):Option (aD×Bool):=
  (if x2 then some (x1,false) else some ((⟨aH (x1.aJ+1),x1.aP⟩:aD),true))
def N0(c:aD)(e_:Int):Option (aD×Bool):=
  (kC c).bind fun x1=>(oA c).bind fun x3=>(if !x3 then xS x1 true else (if c.aJ != e_ then xS x1 true else xS x1 (c.aJ == 100000)))
def iP(s:Sub)(b:aB)(x4:aD×Bool)(x5:Int):Option (Sub×aB):=
  (bA ({s with Out:=x5}:Sub) 0).bind fun x6=>some (x6,({b with aD:=x4.1}:aB))
def iQ(s:Sub)(b:aB)(x1:Bool):Option (Sub×aB):=
  (if x1 then (GA b.aD s.B s.E).bind fun x2=>(if !x2.2 then (bA s 8).bind fun x3=>some (x3,({b with aD:=x2.1}:aB)) else (if (aH (s.B+1)) == 3 then some (({s with Pc:=2,B:=aH (s.B+1)}:Sub),({b with aD:=x2.1}:aB)) else some (({s with B:=aH (s.B+1)}:Sub),({b with aD:=x2.1}:aB)))) else (if s.Pc == 2 then (N0 b.aD s.E).bind fun x4=>(if x4.2 then iP s b x4 1 else iP s b x4 s.Out) else (bA s 1).bind fun x7=>some (x7,b)))
def lM(s:Sub)(b:aB):Option (Sub×aB):=
  (if s.Pc == 0 then some (({s with Pc:=1,E:=b.aD.aJ,B:=0}:Sub),b) else (if s.Pc == 1 then (d8 s.B).bind fun x8=>iQ s b x8 else iQ s b false))
def xT(x1:Bool):Option Bool:=
  some x1
def A7(l:List aN)(w_ i:Int):Option Bool:=
  (d8 w_).bind fun x2=>(if x2 then (idx l w_).bind fun x3=>(bZ i 0 (aH ((x3.Rows.length:Int) - 1))).bind fun x4=>xT x4 else xT false)
def CY(x1:Bool):Option Bool:=
  some x1
def IJ(r_:bY)(e_:Int):Option Bool:=
  (if decide (2≤e_) then CY (decide (r_.aJ≤(aH (e_ - 2)))) else CY false)
def A8(s:Sub)(b:aB):Option (Sub×aB):=
  (bA s 0).bind fun x3=>some (x3,b)
def dL(s:Sub)(b:aB)(w_:Int):Int→Option (Step Int (Out Unit (Sub×aB)))
  | x2=>(idx b.aK w_).bind fun x4=>(if decide (x2 < (x4.Rows.length:Int)) then (idx x4.Rows x2).bind fun x5=>(IJ x5 s.E).bind fun x6=>(if x6 then some (.stop (Out.ret (({s with Pc:=2,Row:=x2,B:=0,H:=x5.Handle}:Sub),b))) else some (.next (aH (x2+1)))) else some (.stop (Out.brk ())))
def MN(s:Sub)(b:aB):(Out Unit (Sub×aB))→Option (Sub×aB)
  | .brk ()=>A8 s b
  | .ret r=>some r
def lN(s:Sub)(b:aB)(w_:Int):Option (Sub×aB):=
  (loop (dL s b w_) (if s.Row < 0 then 0 else s.Row)).bind (MN s b)
def vX(s:List bY)(i j:Int):Option (List bY):=
  need (0≤(i:Int)∧(i:Int)≤(j:Int)∧(j:Int)≤((s.length:Int):Int)∧((s.length:Int):Int)≤(s.length:Int)) ((if i == j then some s else need (0≤(i:Int)∧(i:Int)≤(s.length:Int)) (need (0≤(j:Int)∧(j:Int)≤(s.length:Int)) (need (i.toNat≤j.toNat) (need (0≤(((((cL s i.toNat (s.drop j.toNat)).take (i.toNat+(s.length - j.toNat))).drop 0).length:Int):Int)∧(((((cL s i.toNat (s.drop j.toNat)).take (i.toNat+(s.length - j.toNat))).drop 0).length:Int):Int)≤((s.length:Int):Int)∧((s.length:Int):Int)≤((cL s i.toNat (s.drop j.toNat)).length:Int)) (some (((cL s i.toNat (s.drop j.toNat)).take (i.toNat+(s.length - j.toNat))).drop 0)))))))
def uW(w_ i:Int)(x1:(List aN))(x2:Bool):Option ((List aN)×Bool):=
  (if x2 then some (x1,false) else (idx x1 w_).bind fun x3=>(vX x3.Rows i (aH (i+1))).bind fun x4=>some (x1.set w_.toNat (⟨x4⟩:aN),true))
def CZ(l:List aN)(w_ i:Int):Option ((List aN)×Bool):=
  (kB l).bind fun x1=>(lL l).bind fun x5=>(if !x5 then uW w_ i x1 true else (A7 l w_ i).bind fun x6=>uW w_ i x1 (!x6))
def EF(x3 x5:List Int):Option (aC×Bool):=
  some ((⟨x5,x3⟩:aC),true)
def xU(slot gen x1:Int)(x2 x3:List Int)(x4:Bool):Option (aC×Bool):=
  (if x4 then some ((⟨x2,x3⟩:aC),false) else (qQ slot x1).bind fun x6=>(vV gen 4).bind fun x7=>(qN x2 x6 x7).bind fun x8=>EF x3 x8)
def EG(slot gen x1:Int)(x2 x3:List Int):Option (aC×Bool):=
  (if decide (x1 < 0) then xU slot gen x1 x2 x3 true else (bZ gen 1 7).bind fun x9=>xU slot gen x1 x2 x3 (!x9))
def MO(h:aC)(slot gen:Int):Option (aC×Bool):=
  (pG h).bind fun x10=>(nX h slot).bind fun x11=>EG slot gen x11 x10.Bytes x10.Class
def sA(c slot:Int)(x1:aA)(x2:Int)(x3:Bool):Option (aA×Bool):=
  (if x3 then some (x1,false) else (idx x1.aU x2).bind fun x4=>(if decide (2≤(x4.aO.length:Int)) then (idx x1.Global c).bind fun x5=>need (x5.aO.length+([slot]).length≤1073741824) (some ((⟨x1.Global.set c.toNat (⟨x5.aO++([slot])⟩:aG),x1.aU⟩:aA),true)) else need (x4.aO.length+([slot]).length≤1073741824) (some ((⟨x1.Global,x1.aU.set x2.toNat (⟨x4.aO++([slot])⟩:aG)⟩:aA),true))))
def R8(l:aA)(w_ c slot:Int):Option (aA×Bool):=
  (fQ l).bind fun x1=>(EE w_ c).bind fun x2=>(hC l).bind fun x6=>(if !x6 then sA c slot x1 x2 true else (if decide (x2 < 0) then sA c slot x1 x2 true else (jQ slot).bind fun x7=>(if !x7 then sA c slot x1 x2 true else (A5 l slot).bind fun x8=>sA c slot x1 x2 x8)))
def HC(x3:Mem):Option Mem:=
  some x3
def HD(m:Mem)(w_ h:Int)(x2:Mem):Option Mem:=
  (if decide ((aH ((aH (Int.tdiv h 32))+1))≤6) then (lK m.aC (Int.tmod h 32)).bind fun x4=>(R8 m.aA w_ x4 (Int.tmod h 32)).bind fun x5=>HC (⟨x2.aC,x5.1⟩:Mem) else HC x2)
def J0(m:Mem)(w_ h:Int):Option Mem:=
  (MO m.aC (Int.tmod h 32) (aH ((aH (Int.tdiv h 32))+1))).bind fun x1=>(fQ m.aA).bind fun x6=>HD m w_ h (⟨x1.1,x6⟩:Mem)
def cP(s:Sub)(b:aB)(w_:Int)(x5:Bool):Option (Sub×aB):=
  (if x5 then (CZ b.aK w_ s.Row).bind fun x6=>(J0 b.Mem w_ s.H).bind fun x7=>some (({s with Pc:=1,Out:=aH (s.Out+1)}:Sub),({b with Mem:=x7,aK:=x6.1}:aB)) else (bA s 1).bind fun x8=>some (x8,b))
def dD(s:Sub)(b:aB)(w_:Int)(x1 x3:Bool):Option (Sub×aB):=
  (if x3 then (idx b.b9 s.B).bind fun x4=>(if x4 == s.H then some (({s with Pc:=1,Row:=aH (s.Row+1)}:Sub),b) else (if (aH (s.B+1)) == 3 then some (({s with Pc:=3,B:=aH (s.B+1)}:Sub),b) else some (({s with B:=aH (s.B+1)}:Sub),b))) else (if s.Pc == 3 then (if x1 then (idx b.aK w_).bind fun x9=>(idx x9.Rows s.Row).bind fun x10=>(IJ x10 s.E).bind fun x11=>cP s b w_ x11 else cP s b w_ false) else cP s b w_ false))
def d5(s:Sub)(b:aB)(w_:Int)(x1:Bool):Option (Sub×aB):=
  (if s.Pc == 0 then some (({s with Pc:=1,E:=b.aD.aJ,Row:=0}:Sub),b) else (if s.Pc == 1 then (lN s b w_).bind fun x2=>some (x2.1,x2.2) else (if s.Pc == 2 then (d8 s.B).bind fun x12=>(if x12 then dD s b w_ x1 x1 else dD s b w_ x1 false) else dD s b w_ x1 false)))
def lO(s:Sub)(b:aB)(w_:Int):Option (Sub×aB):=
  (A7 b.aK w_ s.Row).bind fun x13=>(if x13 then (idx b.aK w_).bind fun x14=>(idx x14.Rows s.Row).bind fun x15=>d5 s b w_ (x15.Handle == s.H) else d5 s b w_ false)
def tT(w_ e_:Int)(x1:aD)(x2:Bool):Option (aD×Bool):=
  (if x2 then some (x1,false) else (idx x1.aP w_).bind fun x3=>some ((⟨x1.aJ,x1.aP.set w_.toNat (⟨true,e_,false,0⟩:dK)⟩:aD),true))
def J1(c:aD)(w_ e_:Int):Option (aD×Bool):=
  (kC c).bind fun x1=>(oA c).bind fun x4=>(if !x4 then tT w_ e_ x1 true else (d8 w_).bind fun x5=>(if !x5 then tT w_ e_ x1 true else (bZ e_ 0 c.aJ).bind fun x6=>tT w_ e_ x1 (!x6)))
def tA(s:Sub)(b:aB)(x1:Bool)(x2:Int)(x3:List dK):Option (Sub×aB):=
  (if !x1 then (bA s 1).bind fun x4=>some (x4,b) else some (({s with Pc:=2}:Sub),({b with aD:=(⟨x2,x3⟩:aD)}:aB)))
def sB(s:Sub)(b:aB)(w_:Int):Option (Sub×aB):=
  (if s.Pc == 0 then some (({s with Pc:=1,E:=b.aD.aJ}:Sub),b) else (if s.Pc == 1 then (J1 b.aD w_ s.E).bind fun x5=>tA s b x5.2 x5.1.aJ x5.1.aP else (if s.Pc == 2 then (if b.aD.aJ == s.E then (bA s 0).bind fun x6=>some (x6,b) else some (({s with Pc:=0}:Sub),b)) else (bA s 1).bind fun x7=>some (x7,b))))
def hU(s:Sub)(b:aB)(w_:Int):Option (Sub×aB):=
  (if s.cH then some (s,b) else (if s.Kind == 1 then (nY s b w_).bind fun x1=>some (x1.1,x1.2) else (if s.Kind == 2 then (mG s b w_).bind fun x2=>some (x2.1,x2.2) else (if s.Kind == 3 then (lM s b).bind fun x3=>some (x3.1,x3.2) else (if s.Kind == 4 then (lO s b w_).bind fun x4=>some (x4.1,x4.2) else (if s.Kind == 5 then (sB s b w_).bind fun x5=>some (x5.1,x5.2) else (bA s 1).bind fun x6=>some (x6,b)))))))
def cM(j:bJ)(pc:Int):Option bJ:=
  some ({j with Pc:=pc,Code:=0}:bJ)
def C0(m:Mem):Option Mem:=
  (pG m.aC).bind fun x1=>(fQ m.aA).bind fun x2=>some (⟨x1,x2⟩:Mem)
def C1(slot c:Int):Option Int:=
  (qQ slot c).bind fun x1=>(if decide (x1 < 0) then some (-1) else some (aH (x1+4)))
def J2(slot c:Int):Option Span:=
  (C1 slot c).bind fun x1=>(if decide (x1 < 0) then some (⟨0,0⟩:Span) else (wE c).bind fun x2=>some (⟨x1,aH (x1+x2)⟩:Span))
def sC(h:aC)(slot at_ width:Int):Option Int:=
  (lK h slot).bind fun x1=>(J2 slot x1).bind fun x2=>(bZ at_ 0 (aH ((aH (x2.To - x2.aM2)) - width))).bind fun x3=>(if !x3 then some (-1) else some (aH (x2.aM2+at_)))
def R9:Option Bool:=
  some true
def sD(x2:Int)(x4:Bool):Option (Step Int (Out Unit Bool)):=
  (if x4 then some (.stop (Out.ret false)) else some (.next (aH (x2+1))))
def j4(h:aC)(s:aG)(c:Int):Int→Option (Step Int (Out Unit Bool))
  | x2=>(if decide (x2 < (s.aO.length:Int)) then (idx s.aO x2).bind fun x3=>(lK h x3).bind fun x5=>(if x5 != c then sD x2 true else (vW h x3).bind fun x6=>sD x2 (decide (6 < x6))) else some (.stop (Out.brk ())))
def SA:(Out Unit Bool)→Option Bool
  | .brk ()=>R9
  | .ret r=>some r
def tU(h:aC)(s:aG)(c:Int):Option Bool:=
  (loop (j4 h s c) 0).bind (SA)
def Z8:Option Bool:=
  some true
def pI(m:Mem):Int→Option (Step Int (Out Unit Bool))
  | x5=>(if decide (x5 < (m.aA.aU.length:Int)) then (idx m.aA.aU x5).bind fun x6=>(tU m.aC x6 (Int.tmod x5 3)).bind fun x7=>(if !x7 then some (.stop (Out.ret false)) else some (.next (aH (x5+1)))) else some (.stop (Out.brk ())))
def Z9:(Out Unit Bool)→Option Bool
  | .brk ()=>Z8
  | .ret r=>some r
def OK(m:Mem):Option Bool:=
  (loop (pI m) 0).bind (Z9)
def pJ(m:Mem):Int→Option (Step Int (Out Unit Bool))
  | x3=>(if decide (x3 < (m.aA.Global.length:Int)) then (idx m.aA.Global x3).bind fun x8=>(tU m.aC x8 x3).bind fun x9=>(if !x9 then some (.stop (Out.ret false)) else some (.next (aH (x3+1)))) else some (.stop (Out.brk ())))
def OL(m:Mem):(Out Unit Bool)→Option Bool
  | .brk ()=>OK m
  | .ret r=>some r
def AG(m:Mem)(x1:Bool):Option Bool:=
  (if x1 then some false else (loop (pJ m) 0).bind (OL m))
def J3(m:Mem):Option Bool:=
  (A4 m.aC).bind fun x10=>(if !x10 then AG m true else (hC m.aA).bind fun x11=>AG m (!x11))
def xV(m:Mem)(h at_ width:Int)(x1:Bool):Option (Int×Int):=
  (if x1 then some (0,1) else (A6 m h).bind fun x2=>(if !x2 then some (0,4) else (sC m.aC (Int.tmod h 32) at_ width).bind fun x3=>(if decide (x3 < 0) then some (0,2) else (jM m.aC.Bytes x3 width).bind fun x4=>some (x4,0))))
def MP(m:Mem)(h at_ width:Int):Option (Int×Int):=
  (J3 m).bind fun x5=>(if !x5 then xV m h at_ width true else (hJ width).bind fun x6=>xV m h at_ width (!x6))
def K0(x4:Mem):Option (Mem×Int):=
  some (x4,0)
def C2(m:Mem)(h at_ width n:Int):Option (Mem×Int):=
  (C0 m).bind fun x1=>(vV n width).bind fun x2=>(MP m h at_ width).bind fun x3=>(if x3.2 != 0 then some (x1,x3.2) else (if x2 == ([]) then some (x1,1) else (sC m.aC (Int.tmod h 32) at_ width).bind fun x5=>(qN x1.aC.Bytes x5 x2).bind fun x6=>K0 (⟨(⟨x6,x1.aC.Class⟩:aC),x1.aA⟩:Mem)))
def xW(s:aI)(w_ x7:Int)(x8:Mem):Option aI:=
  (if x7 != 0 then (idx s.aQ w_).bind fun x9=>(bG x9 x7).bind fun x10=>some ({s with aQ:=s.aQ.set w_.toNat x10}:aI) else (idx s.aQ w_).bind fun x11=>(cM x11 2).bind fun x12=>some ({s with aB:=(⟨x8,s.aB.aD,s.aB.aK,s.aB.b9⟩:aB),aQ:=s.aQ.set w_.toNat x12}:aI))
def xX(w_:Int)(x17:aI):Option aI:=
  (idx x17.aQ w_).bind fun x18=>(if x18.Old == 0 then (bG x18 0).bind fun x19=>some ({x17 with aQ:=x17.aQ.set w_.toNat x19}:aI) else (gG 2 x18.Old).bind fun x20=>(cM ({x18 with Sub:=x20}:bJ) 3).bind fun x21=>some ({x17 with aQ:=x17.aQ.set w_.toNat x21}:aI))
def xY(s:aI)(w_:Int)(x14:bJ)(x15:Int)(x16:List Int):Option aI:=
  (idx (s.aQ.set w_.toNat ({x14 with Old:=x15}:bJ)) w_).bind fun x22=>(cE ({s with Cells:=x16,aQ:=s.aQ.set w_.toNat ({x14 with Old:=x15}:bJ)}:aI) 2 w_ x22.H x22.Op.dV 0).bind fun x23=>xX w_ x23
def xZ(s:aI)(w_:Int):Option aI:=
  (idx s.aQ w_).bind fun x1=>(if x1.Pc == 0 then (hU x1.Sub s.aB w_).bind fun x2=>(if !x2.1.cH then some ({s with aB:=x2.2,aQ:=s.aQ.set w_.toNat ({x1 with Sub:=x2.1}:bJ)}:aI) else (if x2.1.Code != 0 then (bG ({x1 with Sub:=x2.1}:bJ) x2.1.Code).bind fun x3=>some ({s with aB:=x2.2,aQ:=s.aQ.set w_.toNat x3}:aI) else (fA x2.1.Out).bind fun x4=>(if !x4 then (bG ({x1 with Sub:=x2.1}:bJ) 1).bind fun x5=>some ({s with aB:=x2.2,aQ:=s.aQ.set w_.toNat x5}:aI) else (cM ({x1 with Sub:=x2.1,H:=x2.1.Out}:bJ) 1).bind fun x6=>some ({s with aB:=x2.2,aQ:=s.aQ.set w_.toNat x6}:aI)))) else (if x1.Pc == 1 then (C2 s.aB.Mem x1.H 0 4 x1.Op.dV).bind fun x13=>xW s w_ x13.2 x13.1 else (if x1.Pc == 2 then (idx s.aQ w_).bind fun x14=>(idx s.Cells x14.Op.Cell).bind fun x15=>(idx (s.aQ.set w_.toNat ({x14 with Old:=x15}:bJ)) w_).bind fun x24=>(idx s.Cells x24.Op.Cell).bind fun x25=>xY s w_ x14 x15 (s.Cells.set x24.Op.Cell.toNat x24.H) else (if x1.Pc == 3 then (hU x1.Sub s.aB w_).bind fun x26=>(if x26.1.cH then (bG ({x1 with Sub:=x26.1}:bJ) x26.1.Code).bind fun x27=>some ({s with aB:=x26.2,aQ:=s.aQ.set w_.toNat x27}:aI) else some ({s with aB:=x26.2,aQ:=s.aQ.set w_.toNat ({x1 with Sub:=x26.1}:bJ)}:aI)) else (bG x1 1).bind fun x28=>some ({s with aQ:=s.aQ.set w_.toNat x28}:aI)))))
def qV(s:aI)(w_:Int):Option aI:=
  (idx s.aQ w_).bind fun x1=>(idx s.aQ w_).bind fun x2=>(idx s.Cells x2.Op.Cell).bind fun x3=>(cE ({s with aQ:=s.aQ.set w_.toNat ({x2 with H:=x3}:bJ)}:aI) 3 w_ x3 0 0).bind fun x4=>some x4
def o5(b:aB)(h at_ width:Int)(x1:Bool):Option (Int×Bool):=
  (if x1 then some (0,false) else (sC b.Mem.aC (Int.tmod h 32) at_ width).bind fun x2=>(if decide (x2 < 0) then some (0,false) else (jM b.Mem.aC.Bytes x2 width).bind fun x3=>some (x3,true)))
def C3(b:aB)(h at_ width:Int):Option (Int×Bool):=
  (fA h).bind fun x4=>(if !x4 then o5 b h at_ width true else (nX b.Mem.aC (Int.tmod h 32)).bind fun x5=>(if decide (x5 < 0) then o5 b h at_ width true else (hJ width).bind fun x6=>o5 b h at_ width (!x6)))
def i6(s:aI)(w_:Int):Option aI:=
  (idx s.aQ w_).bind fun x1=>(C3 s.aB x1.H 0 4).bind fun x2=>some ({s with aQ:=s.aQ.set w_.toNat ({x1 with dV:=x2.1}:bJ)}:aI)
def gX(x1:Bool):Option Bool:=
  some x1
def oB(p:dK):Option Bool:=
  (if p.On then gX (!p.d9) else gX false)
def jE(s:aI)(w_ pc:Int):Option aI:=
  (idx s.aQ w_).bind fun x1=>(cM x1 pc).bind fun x2=>(idx s.aB.aD.aP w_).bind fun x3=>(oB x3).bind fun x4=>(if !x4 then some ({s with aQ:=s.aQ.set w_.toNat ({x2 with dV:=0,Code:=6}:bJ)}:aI) else some ({s with aQ:=s.aQ.set w_.toNat x2}:aI))
def tV(w_:Int)(x1:aD)(x2:Bool):Option (aD×Bool):=
  (if x2 then some (x1,false) else (idx x1.aP w_).bind fun x3=>some ((⟨x1.aJ,x1.aP.set w_.toNat (⟨false,0,false,0⟩:dK)⟩:aD),true))
def J4(c:aD)(w_:Int):Option (aD×Bool):=
  (kC c).bind fun x1=>(oA c).bind fun x4=>(if !x4 then tV w_ x1 true else (d8 w_).bind fun x5=>(if !x5 then tV w_ x1 true else (idx c.aP w_).bind fun x6=>tV w_ x1 (!x6.On)))
def o6(b:aB)(w_:Int):Option (Bool×aB):=
  (J4 b.aD w_).bind fun x1=>some (x1.2,({b with aD:=x1.1}:aB))
def yA(s:aI)(w_:Int):Option aI:=
  (idx s.aQ w_).bind fun x1=>(if x1.Pc == 0 then (hU x1.Sub s.aB w_).bind fun x2=>(if x2.1.cH then (cM ({x1 with Sub:=x2.1}:bJ) 1).bind fun x3=>some ({s with aB:=x2.2,aQ:=s.aQ.set w_.toNat x3}:aI) else some ({s with aB:=x2.2,aQ:=s.aQ.set w_.toNat ({x1 with Sub:=x2.1}:bJ)}:aI)) else (if x1.Pc == 1 then (qV s w_).bind fun x4=>(idx x4.aQ w_).bind fun x5=>(cM x5 2).bind fun x6=>(if x6.H == 0 then some ({x4 with aQ:=x4.aQ.set w_.toNat ({x6 with Pc:=4,Code:=8}:bJ)}:aI) else some ({x4 with aQ:=x4.aQ.set w_.toNat x6}:aI)) else (if x1.Pc == 2 then (i6 s w_).bind fun x7=>(idx x7.aQ w_).bind fun x8=>(cM x8 3).bind fun x9=>some ({x7 with aQ:=x7.aQ.set w_.toNat x9}:aI) else (if x1.Pc == 3 then (jE s w_ 4).bind fun x10=>some x10 else (if x1.Pc == 4 then (o6 s.aB w_).bind fun x11=>(bG x1 x1.Code).bind fun x12=>some ({s with aB:=x11.2,aQ:=s.aQ.set w_.toNat x12}:aI) else (bG x1 1).bind fun x13=>some ({s with aQ:=s.aQ.set w_.toNat x13}:aI))))))
def yB(x1:Bool):Option Bool:=
  some x1
def MQ(h:Int):Option Bool:=
  (if h == 0 then yB true else (fA h).bind fun x2=>yB x2)
def C4(h:Int):Option Bool:=
  (MQ h).bind fun x1=>some (!x1)
def AH(x1:Bool):Option Bool:=
  some x1
def EH(z:List Int):Option Bool:=
  (if (z.length:Int) == 3 then (d4 z (fun y0=>C4 y0)).bind fun x2=>AH (!x2) else AH false)
def o7(w_ h:Int)(x1:(List Int))(x2:Bool):Option ((List Int)×Bool):=
  (if x2 then some (x1,false) else (idx x1 w_).bind fun x3=>some (x1.set w_.toNat h,true))
def C5(z:List Int)(w_ h:Int):Option ((List Int)×Bool):=
  (fE z).bind fun x1=>(EH z).bind fun x4=>(if !x4 then o7 w_ h x1 true else (d8 w_).bind fun x5=>(if !x5 then o7 w_ h x1 true else (fA h).bind fun x6=>o7 w_ h x1 (!x6)))
def tW(w_:Int)(x1:(List Int))(x2:Bool):Option ((List Int)×Bool):=
  (if x2 then some (x1,false) else (idx x1 w_).bind fun x3=>some (x1.set w_.toNat 0,true))
def J5(z:List Int)(w_:Int):Option ((List Int)×Bool):=
  (fE z).bind fun x1=>(EH z).bind fun x4=>(if !x4 then tW w_ x1 true else (d8 w_).bind fun x5=>(if !x5 then tW w_ x1 true else (idx z w_).bind fun x6=>tW w_ x1 (x6 == 0)))
def yC(s:aI)(w_:Int)(x7:List Int):Option aI:=
  (idx s.aQ w_).bind fun x8=>(cM x8 2).bind fun x9=>some ({s with aB:=(⟨s.aB.Mem,s.aB.aD,s.aB.aK,x7⟩:aB),aQ:=s.aQ.set w_.toNat x9}:aI)
def yD(s:aI)(w_:Int)(x11:Bool):Option aI:=
  (if x11 then (idx s.aQ w_).bind fun x12=>(cM x12 0).bind fun x13=>some ({s with aQ:=s.aQ.set w_.toNat x13}:aI) else (idx s.aQ w_).bind fun x14=>(cE s 3 w_ x14.H 0 0).bind fun x15=>(idx x15.aQ w_).bind fun x16=>(cM x16 3).bind fun x17=>some ({x15 with aQ:=x15.aQ.set w_.toNat x17}:aI))
def yE(s:aI)(w_:Int):Option aI:=
  (idx s.aQ w_).bind fun x1=>(if x1.Pc == 0 then (idx s.aQ w_).bind fun x2=>(idx s.Cells x2.Op.Cell).bind fun x3=>(cM ({x2 with H:=x3}:bJ) 1).bind fun x4=>(if x4.H == 0 then (cE ({s with aQ:=s.aQ.set w_.toNat x4}:aI) 3 w_ 0 0 0).bind fun x5=>(idx x5.aQ w_).bind fun x6=>some ({x5 with aQ:=x5.aQ.set w_.toNat ({x6 with Pc:=4,Code:=8}:bJ)}:aI) else some ({s with aQ:=s.aQ.set w_.toNat x4}:aI)) else (if x1.Pc == 1 then (C5 s.aB.b9 w_ x1.H).bind fun x10=>yC s w_ x10.1 else (if x1.Pc == 2 then (idx s.aQ w_).bind fun x18=>(idx s.Cells x18.Op.Cell).bind fun x19=>yD s w_ (x19 != x18.H) else (if x1.Pc == 3 then (i6 s w_).bind fun x20=>(idx x20.aQ w_).bind fun x21=>(cM x21 4).bind fun x22=>some ({x20 with aQ:=x20.aQ.set w_.toNat x22}:aI) else (if x1.Pc == 4 then (J5 s.aB.b9 w_).bind fun x23=>(bG x1 x1.Code).bind fun x24=>some ({s with aB:=(⟨s.aB.Mem,s.aB.aD,s.aB.aK,x23.1⟩:aB),aQ:=s.aQ.set w_.toNat x24}:aI) else (bG x1 1).bind fun x25=>some ({s with aQ:=s.aQ.set w_.toNat x25}:aI))))))
def oC(s:aI)(w_:Int)(x5:Bool):Option aI:=
  (if x5 then (idx s.aQ w_).bind fun x6=>(bG x6 6).bind fun x7=>some ({s with aQ:=s.aQ.set w_.toNat x7}:aI) else (idx s.aQ w_).bind fun x8=>(if x8.Pc == 0 then (qV s w_).bind fun x9=>(idx x9.aQ w_).bind fun x10=>(cM x10 1).bind fun x11=>(if x11.H == 0 then (bG x11 8).bind fun x12=>some ({x9 with aQ:=x9.aQ.set w_.toNat x12}:aI) else some ({x9 with aQ:=x9.aQ.set w_.toNat x11}:aI)) else (if x8.Pc == 1 then (i6 s w_).bind fun x13=>(idx x13.aQ w_).bind fun x14=>(cM x14 2).bind fun x15=>some ({x13 with aQ:=x13.aQ.set w_.toNat x15}:aI) else (if x8.Pc == 2 then (jE s w_ 9).bind fun x16=>some x16 else (bG x8 1).bind fun x17=>some ({s with aQ:=s.aQ.set w_.toNat x17}:aI)))))
def oD(s:aI)(w_:Int)(x1:dK)(x2:Bool):Option aI:=
  (if x2 then (idx s.aQ w_).bind fun x3=>(bG x3 5).bind fun x4=>some ({s with aQ:=s.aQ.set w_.toNat x4}:aI) else (idx s.aQ w_).bind fun x18=>(if x18.Pc == 0 then oC s w_ x1.d9 else oC s w_ false))
def vY(s:aI)(w_:Int)(x1:dK):Option aI:=
  (idx s.aQ w_).bind fun x19=>(if x19.Pc == 0 then oD s w_ x1 (!x1.On) else oD s w_ x1 false)
def uX(s:aI)(w_:Int):Option aI:=
  (idx s.aQ w_).bind fun x20=>(idx s.aB.aD.aP w_).bind fun x21=>vY s w_ x21
def mH(w_ x3:Int)(x4:aI):Option aI:=
  (idx x4.aQ w_).bind fun x5=>(bG x5 x3).bind fun x6=>some ({x4 with aQ:=x4.aQ.set w_.toNat x6}:aI)
def mI(s:aI)(w_:Int)(x17:Bool):Option aI:=
  (if x17 then (idx s.aQ w_).bind fun x18=>(hU x18.Sub s.aB w_).bind fun x19=>(if x19.1.cH then (bG ({x18 with Sub:=x19.1,dV:=x19.1.Out}:bJ) x19.1.Code).bind fun x20=>some ({s with aB:=x19.2,aQ:=s.aQ.set w_.toNat x20}:aI) else some ({s with aB:=x19.2,aQ:=s.aQ.set w_.toNat ({x18 with Sub:=x19.1}:bJ)}:aI)) else (idx s.aQ w_).bind fun x21=>(bG x21 1).bind fun x22=>some ({s with aQ:=s.aQ.set w_.toNat x22}:aI))
def mJ(s:aI)(w_:Int)(x12:Bool):Option aI:=
  (if x12 then (idx s.aQ w_).bind fun x13=>(hU x13.Sub s.aB w_).bind fun x14=>(if x14.1.cH then (gG 4 0).bind fun x15=>(cM ({x13 with Sub:=x15}:bJ) 1).bind fun x16=>some ({s with aB:=x14.2,aQ:=s.aQ.set w_.toNat x16}:aI) else some ({s with aB:=x14.2,aQ:=s.aQ.set w_.toNat ({x13 with Sub:=x14.1}:bJ)}:aI)) else (idx s.aQ w_).bind fun x23=>(if x23.Op.Kind == 4 then mI s w_ (x23.Pc == 1) else mI s w_ false))
def mK(s:aI)(w_:Int)(x8:Bool):Option aI:=
  (if x8 then (idx s.aQ w_).bind fun x9=>(hU x9.Sub s.aB w_).bind fun x10=>(if x10.1.cH then (bG ({x9 with Sub:=x10.1}:bJ) x10.1.Code).bind fun x11=>some ({s with aB:=x10.2,aQ:=s.aQ.set w_.toNat x11}:aI) else some ({s with aB:=x10.2,aQ:=s.aQ.set w_.toNat ({x9 with Sub:=x10.1}:bJ)}:aI)) else (idx s.aQ w_).bind fun x24=>(if x24.Op.Kind == 4 then mJ s w_ (x24.Pc == 0) else mJ s w_ false))
def mL(s:aI)(w_:Int)(x2:Bool):Option aI:=
  (if x2 then (o6 s.aB w_).bind fun x7=>(if !x7.1 then mH w_ 5 ({s with aB:=x7.2}:aI) else mH w_ 0 ({s with aB:=x7.2}:aI)) else (idx s.aQ w_).bind fun x25=>(if x25.Op.Kind == 5 then mK s w_ (x25.Pc == 0) else mK s w_ false))
def sE(s:aI)(w_:Int):Option aI:=
  (idx s.aQ w_).bind fun x1=>(if x1.Op.Kind == 6 then mL s w_ (x1.Pc == 0) else mL s w_ false)
def uY(s:aI)(w_:Int):Option aI:=
  (idx s.aQ w_).bind fun x1=>(if !x1.kI then (rX s w_).bind fun x2=>some x2 else (if x1.Pc == 9 then (cE s 4 w_ x1.H x1.dV x1.Code).bind fun x3=>(idx x3.aQ w_).bind fun x4=>some ({x3 with aQ:=x3.aQ.set w_.toNat (⟨false,(⟨0,0,0,0⟩:cX),0,0,(⟨0,0,0,0,0,0,0,0,0,false⟩:Sub),0,0,0,0⟩:bJ)}:aI) else (if x1.Op.Kind == 1 then (xZ s w_).bind fun x5=>some x5 else (if x1.Op.Kind == 2 then (yA s w_).bind fun x6=>some x6 else (if x1.Op.Kind == 3 then (yE s w_).bind fun x7=>some x7 else (if x1.Op.Kind == 7 then (uX s w_).bind fun x8=>some x8 else (sE s w_).bind fun x9=>some x9))))))
def QO(x6:aI):Option aI:=
  some x6
def lP(x4:Int)(x7:aI):Option (Step (Int×aI) aI):=
  some (.next (aH (x4+1),x7))
def lQ(x:fD):(Int×aI)→Option (Step (Int×aI) aI)
  | (x4,x5)=>(if decide (x4 < (((x.cT.take ((if 400 < (x.cT.length:Int) then 400 else (x.cT.length:Int)).toNat)).drop 0).length:Int)) then (idx ((x.cT.take ((if 400 < (x.cT.length:Int) then 400 else (x.cT.length:Int)).toNat)).drop 0) x4).bind fun x8=>(d8 x8).bind fun x9=>(if x9 then (uY x5 x8).bind fun x10=>lP x4 x10 else lP x4 x5) else some (.stop (x5)))
def QP:aI→Option aI
  | x6=>QO x6
def qW(x:fD):Option aI:=
  (z7 x.aY).bind fun x1=>(if (x1.aQ.length:Int) == 0 then some x1 else need (0≤(if 400 < (x.cT.length:Int) then 400 else (x.cT.length:Int):Int)∧(if 400 < (x.cT.length:Int) then 400 else (x.cT.length:Int):Int)≤(x.cT.length:Int)) ((loop (lQ x) (0,x1)).bind (QP)))
def MR:Option Bool:=
  some true
def qX(a_ b:List Int):Int→Option (Step Int (Out Unit Bool))
  | x2=>(if decide (x2 < (a_.length:Int)) then (idx a_ x2).bind fun x3=>(idx b x2).bind fun x4=>(if x3 != x4 then some (.stop (Out.ret false)) else some (.next (aH (x2+1)))) else some (.stop (Out.brk ())))
def MS:(Out Unit Bool)→Option Bool
  | .brk ()=>MR
  | .ret r=>some r
def lR(a_ b:List Int):Option Bool:=
  (if (a_.length:Int) != (b.length:Int) then some false else (loop (qX a_ b) 0).bind (MS))
def GB(a_ b:aC):Option Bool:=
  (lR a_.Bytes b.Bytes).bind fun x1=>(if !x1 then some false else (lR a_.Class b.Class).bind fun x2=>(if !x2 then some false else some true))
def C6(a_ b:aG):Option Bool:=
  (lR a_.aO b.aO).bind fun x1=>(if !x1 then some false else some true)
def IK:Option Bool:=
  some true
def m4(a_ b:List aG):Int→Option (Step Int (Out Unit Bool))
  | x2=>(if decide (x2 < (a_.length:Int)) then (idx a_ x2).bind fun x3=>(idx b x2).bind fun x4=>(C6 x3 x4).bind fun x5=>(if !x5 then some (.stop (Out.ret false)) else some (.next (aH (x2+1)))) else some (.stop (Out.brk ())))
def IL:(Out Unit Bool)→Option Bool
  | .brk ()=>IK
  | .ret r=>some r
def tX(a_ b:List aG):Option Bool:=
  (if (a_.length:Int) != (b.length:Int) then some false else (loop (m4 a_ b) 0).bind (IL))
def C7(a_ b:aA):Option Bool:=
  (tX a_.Global b.Global).bind fun x1=>(if !x1 then some false else (tX a_.aU b.aU).bind fun x2=>(if !x2 then some false else some true))
def J6(a_ b:Mem):Option Bool:=
  (GB a_.aC b.aC).bind fun x1=>(if !x1 then some false else (C7 a_.aA b.aA).bind fun x2=>(if !x2 then some false else some true))
def J7(a_ b:dK):Option Bool:=
  (if !(a_.On == b.On) then some false else (if a_.aJ != b.aJ then some false else (if !(a_.d9 == b.d9) then some false else (if a_.Seen != b.Seen then some false else some true))))
def MT:Option Bool:=
  some true
def qY(a_ b:List dK):Int→Option (Step Int (Out Unit Bool))
  | x2=>(if decide (x2 < (a_.length:Int)) then (idx a_ x2).bind fun x3=>(idx b x2).bind fun x4=>(J7 x3 x4).bind fun x5=>(if !x5 then some (.stop (Out.ret false)) else some (.next (aH (x2+1)))) else some (.stop (Out.brk ())))
def MU:(Out Unit Bool)→Option Bool
  | .brk ()=>MT
  | .ret r=>some r
def GC(a_ b:List dK):Option Bool:=
  (if (a_.length:Int) != (b.length:Int) then some false else (loop (qY a_ b) 0).bind (MU))
def C8(a_ b:aD):Option Bool:=
  (if a_.aJ != b.aJ then some false else (GC a_.aP b.aP).bind fun x1=>(if !x1 then some false else some true))
def GD(a_ b:bY):Option Bool:=
  (if a_.Handle != b.Handle then some false else (if a_.aJ != b.aJ then some false else some true))
def K1:Option Bool:=
  some true
def o8(a_ b:List bY):Int→Option (Step Int (Out Unit Bool))
  | x2=>(if decide (x2 < (a_.length:Int)) then (idx a_ x2).bind fun x3=>(idx b x2).bind fun x4=>(GD x3 x4).bind fun x5=>(if !x5 then some (.stop (Out.ret false)) else some (.next (aH (x2+1)))) else some (.stop (Out.brk ())))
def K2:(Out Unit Bool)→Option Bool
  | .brk ()=>K1
  | .ret r=>some r
def C9(a_ b:List bY):Option Bool:=
  (if (a_.length:Int) != (b.length:Int) then some false else (loop (o8 a_ b) 0).bind (K2))
def DA(a_ b:aN):Option Bool:=
  (C9 a_.Rows b.Rows).bind fun x1=>(if !x1 then some false else some true)
def IM:Option Bool:=
  some true
def m5(a_ b:List aN):Int→Option (Step Int (Out Unit Bool))
  | x2=>(if decide (x2 < (a_.length:Int)) then (idx a_ x2).bind fun x3=>(idx b x2).bind fun x4=>(DA x3 x4).bind fun x5=>(if !x5 then some (.stop (Out.ret false)) else some (.next (aH (x2+1)))) else some (.stop (Out.brk ())))
def IN:(Out Unit Bool)→Option Bool
  | .brk ()=>IM
  | .ret r=>some r
def AI(a_ b:List aN):Option Bool:=
  (if (a_.length:Int) != (b.length:Int) then some false else (loop (m5 a_ b) 0).bind (IN))
def GF(a_ b:aB):Option Bool:=
  (J6 a_.Mem b.Mem).bind fun x1=>(if !x1 then some false else (C8 a_.aD b.aD).bind fun x2=>(if !x2 then some false else (AI a_.aK b.aK).bind fun x3=>(if !x3 then some false else (lR a_.b9 b.b9).bind fun x4=>(if !x4 then some false else some true))))
def IP(a_ b:cX):Option Bool:=
  (if a_.Kind != b.Kind then some false else (if a_.Cell != b.Cell then some false else (if a_.dT != b.dT then some false else (if a_.dV != b.dV then some false else some true))))
def J8(a_ b:Sub):Option Bool:=
  (if a_.Kind != b.Kind then some false else (if a_.A != b.A then some false else (if a_.Pc != b.Pc then some false else (if a_.E != b.E then some false else (if a_.Row != b.Row then some false else (if a_.B != b.B then some false else (if a_.H != b.H then some false else (if a_.Out != b.Out then some false else (if a_.Code != b.Code then some false else (if !(a_.cH == b.cH) then some false else some true))))))))))
def J9(a_ b:bJ):Option Bool:=
  (if !(a_.kI == b.kI) then some false else (IP a_.Op b.Op).bind fun x1=>(if !x1 then some false else (if a_.aM != b.aM then some false else (if a_.Pc != b.Pc then some false else (J8 a_.Sub b.Sub).bind fun x2=>(if !x2 then some false else (if a_.H != b.H then some false else (if a_.Old != b.Old then some false else (if a_.dV != b.dV then some false else (if a_.Code != b.Code then some false else some true)))))))))
def MV:Option Bool:=
  some true
def qZ(a_ b:List bJ):Int→Option (Step Int (Out Unit Bool))
  | x2=>(if decide (x2 < (a_.length:Int)) then (idx a_ x2).bind fun x3=>(idx b x2).bind fun x4=>(J9 x3 x4).bind fun x5=>(if !x5 then some (.stop (Out.ret false)) else some (.next (aH (x2+1)))) else some (.stop (Out.brk ())))
def MW:(Out Unit Bool)→Option Bool
  | .brk ()=>MV
  | .ret r=>some r
def GG(a_ b:List bJ):Option Bool:=
  (if (a_.length:Int) != (b.length:Int) then some false else (loop (qZ a_ b) 0).bind (MW))
def OM:Option Bool:=
  some true
def tY(a_ b:List cX):Int→Option (Step Int (Out Unit Bool))
  | x2=>(if decide (x2 < (a_.length:Int)) then (idx a_ x2).bind fun x3=>(idx b x2).bind fun x4=>(IP x3 x4).bind fun x5=>(if !x5 then some (.stop (Out.ret false)) else some (.next (aH (x2+1)))) else some (.stop (Out.brk ())))
def ON:(Out Unit Bool)→Option Bool
  | .brk ()=>OM
  | .ret r=>some r
def KA(a_ b:List cX):Option Bool:=
  (if (a_.length:Int) != (b.length:Int) then some false else (loop (tY a_ b) 0).bind (ON))
def DB(a_ b:Queue):Option Bool:=
  (KA a_.fK b.fK).bind fun x1=>(if !x1 then some false else some true)
def IQ:Option Bool:=
  some true
def m6(a_ b:List Queue):Int→Option (Step Int (Out Unit Bool))
  | x2=>(if decide (x2 < (a_.length:Int)) then (idx a_ x2).bind fun x3=>(idx b x2).bind fun x4=>(DB x3 x4).bind fun x5=>(if !x5 then some (.stop (Out.ret false)) else some (.next (aH (x2+1)))) else some (.stop (Out.brk ())))
def IS:(Out Unit Bool)→Option Bool
  | .brk ()=>IQ
  | .ret r=>some r
def tZ(a_ b:List Queue):Option Bool:=
  (if (a_.length:Int) != (b.length:Int) then some false else (loop (m6 a_ b) 0).bind (IS))
def N2(a_ b:Ev):Option Bool:=
  (if a_.Kind != b.Kind then some false else (if a_.Who != b.Who then some false else (if a_.aM != b.aM then some false else (if a_.Cell != b.Cell then some false else (if a_.Handle != b.Handle then some false else (if a_.dV != b.dV then some false else (if a_.Code != b.Code then some false else some true)))))))
def OO:Option Bool:=
  some true
def t7(a_ b:List Ev):Int→Option (Step Int (Out Unit Bool))
  | x2=>(if decide (x2 < (a_.length:Int)) then (idx a_ x2).bind fun x3=>(idx b x2).bind fun x4=>(N2 x3 x4).bind fun x5=>(if !x5 then some (.stop (Out.ret false)) else some (.next (aH (x2+1)))) else some (.stop (Out.brk ())))
def OQ:(Out Unit Bool)→Option Bool
  | .brk ()=>OO
  | .ret r=>some r
def KB(a_ b:List Ev):Option Bool:=
  (if (a_.length:Int) != (b.length:Int) then some false else (loop (t7 a_ b) 0).bind (OQ))
def oE(a_ b:aI):Option Bool:=
  (GF a_.aB b.aB).bind fun x1=>(if !x1 then some false else (lR a_.Cells b.Cells).bind fun x2=>(if !x2 then some false else (GG a_.aQ b.aQ).bind fun x3=>(if !x3 then some false else (tZ a_.aY b.aY).bind fun x4=>(if !x4 then some false else (KB a_.Log b.Log).bind fun x5=>(if !x5 then some false else (if a_.aM != b.aM then some false else some true))))))
def AJ(a_ b:fD):Option Bool:=
  (tZ a_.aY b.aY).bind fun x1=>(if !x1 then some false else (lR a_.cT b.cT).bind fun x2=>(if !x2 then some false else some true))
def K3(a_ x7:List cX)(x8:Int):Option (Int×(List cX)):=
  need (x7.length=a_.length) (some (x8,x7))
def uZ(a_:List cX):((List cX)×Int×Int)→Option (Step ((List cX)×Int×Int) ((List cX)×Int))
  | (x4,x5,x6)=>need (x4.length=a_.length) ((if decide (x6 < (x4.length:Int)) then (idx x4 x6).bind fun x9=>some (.next (x4.set x6.toNat (⟨x5,aH (x5+1),aH ((aH (x5+1))+1),aH ((aH ((aH (x5+1))+1))+1)⟩:cX),aH ((aH ((aH ((aH (x5+1))+1))+1))+1),aH (x6+1))) else some (.stop ((x4,x5)))))
def K4(a_:List cX):((List cX)×Int)→Option (Int×(List cX))
  | (x7,x8)=>K3 a_ x7 x8
def DC(a_:List cX)(k:Int):Option (Int×(List cX)):=
  (loop (uZ a_) (a_,k,0)).bind (K4 a_)
def EI(a_ x7:List Queue)(x8:Int):Option (Int×(List Queue)):=
  need (x7.length=a_.length) (some (x8,x7))
def oF(a_:List Queue):((List Queue)×Int×Int)→Option (Step ((List Queue)×Int×Int) ((List Queue)×Int))
  | (x4,x5,x6)=>need (x4.length=a_.length) ((if decide (x6 < (x4.length:Int)) then (idx x4 x6).bind fun x9=>(DC x9.fK x5).bind fun x10=>some (.next (x4.set x6.toNat (⟨x10.2⟩:Queue),x10.1,aH (x6+1))) else some (.stop ((x4,x5)))))
def EJ(a_:List Queue):((List Queue)×Int)→Option (Int×(List Queue))
  | (x7,x8)=>EI a_ x7 x8
def o9(a_:List Queue)(k:Int):Option (Int×(List Queue)):=
  (loop (oF a_) (a_,k,0)).bind (EJ a_)
def IT(a_ x7:List Int)(x8:Int):Option (Int×(List Int)):=
  need (x7.length=a_.length) (some (x8,x7))
def sG(a_:List Int):((List Int)×Int×Int)→Option (Step ((List Int)×Int×Int) ((List Int)×Int))
  | (x4,x5,x6)=>need (x4.length=a_.length) ((if decide (x6 < (x4.length:Int)) then (idx x4 x6).bind fun x9=>some (.next (x4.set x6.toNat x5,aH (x5+1),aH (x6+1))) else some (.stop ((x4,x5)))))
def IU(a_:List Int):((List Int)×Int)→Option (Int×(List Int))
  | (x7,x8)=>IT a_ x7 x8
def hY(a_:List Int)(k:Int):Option (Int×(List Int)):=
  (loop (sG a_) (a_,k,0)).bind (IU a_)
def vA(a_:fD)(k:Int):Option (Int×(List Queue)×(List Int)):=
  (o9 a_.aY k).bind fun x1=>(hY a_.cT x1.1).bind fun x2=>some (x2.1,x1.2,x2.2)
def AK(a_:aC)(k:Int):Option (Int×(List Int)×(List Int)):=
  (hY a_.Bytes k).bind fun x1=>(hY a_.Class x1.1).bind fun x2=>some (x2.1,x1.2,x2.2)
def EK(a_ x7:List aG)(x8:Int):Option (Int×(List aG)):=
  need (x7.length=a_.length) (some (x8,x7))
def oG(a_:List aG):((List aG)×Int×Int)→Option (Step ((List aG)×Int×Int) ((List aG)×Int))
  | (x4,x5,x6)=>need (x4.length=a_.length) ((if decide (x6 < (x4.length:Int)) then (idx x4 x6).bind fun x9=>(hY x9.aO x5).bind fun x10=>some (.next (x4.set x6.toNat (⟨x10.2⟩:aG),x10.1,aH (x6+1))) else some (.stop ((x4,x5)))))
def EL(a_:List aG):((List aG)×Int)→Option (Int×(List aG))
  | (x7,x8)=>EK a_ x7 x8
def pA(a_:List aG)(k:Int):Option (Int×(List aG)):=
  (loop (oG a_) (a_,k,0)).bind (EL a_)
def yF(a_:aA)(k:Int):Option (Int×(List aG)×(List aG)):=
  (pA a_.Global k).bind fun x1=>(pA a_.aU x1.1).bind fun x2=>some (x2.1,x1.2,x2.2)
def DD(a_:Mem)(k:Int):Option (Int×(List Int)×(List Int)×(List aG)×(List aG)):=
  (AK a_.aC k).bind fun x1=>(yF a_.aA x1.1).bind fun x2=>some (x2.1,x1.2.1,x1.2.2,x2.2.1,x2.2.2)
def IV(a_ x7:List dK)(x8:Int):Option (Int×(List dK)):=
  need (x7.length=a_.length) (some (x8,x7))
def sH(a_:List dK):((List dK)×Int×Int)→Option (Step ((List dK)×Int×Int) ((List dK)×Int))
  | (x4,x5,x6)=>need (x4.length=a_.length) ((if decide (x6 < (x4.length:Int)) then (idx x4 x6).bind fun x9=>some (.next (x4.set x6.toNat (⟨(Int.tmod x5 3) == 0,aH (x5+1),(Int.tmod (aH ((aH (x5+1))+1)) 3) == 0,aH ((aH ((aH (x5+1))+1))+1)⟩:dK),aH ((aH ((aH ((aH (x5+1))+1))+1))+1),aH (x6+1))) else some (.stop ((x4,x5)))))
def IW(a_:List dK):((List dK)×Int)→Option (Int×(List dK))
  | (x7,x8)=>IV a_ x7 x8
def AL(a_:List dK)(k:Int):Option (Int×(List dK)):=
  (loop (sH a_) (a_,k,0)).bind (IW a_)
def yG(a_:aD)(k:Int):Option (Int×(List dK)):=
  (AL a_.aP k).bind fun x1=>some (x1.1,x1.2)
def GH(a_ x7:List bY)(x8:Int):Option (Int×(List bY)):=
  need (x7.length=a_.length) (some (x8,x7))
def p5(a_:List bY):((List bY)×Int×Int)→Option (Step ((List bY)×Int×Int) ((List bY)×Int))
  | (x4,x5,x6)=>need (x4.length=a_.length) ((if decide (x6 < (x4.length:Int)) then (idx x4 x6).bind fun x9=>some (.next (x4.set x6.toNat (⟨x5,aH (x5+1)⟩:bY),aH ((aH (x5+1))+1),aH (x6+1))) else some (.stop ((x4,x5)))))
def GI(a_:List bY):((List bY)×Int)→Option (Int×(List bY))
  | (x7,x8)=>GH a_ x7 x8
def yH(a_:List bY)(k:Int):Option (Int×(List bY)):=
  (loop (p5 a_) (a_,k,0)).bind (GI a_)
def EM(a_ x7:List aN)(x8:Int):Option (Int×(List aN)):=
  need (x7.length=a_.length) (some (x8,x7))
def oH(a_:List aN):((List aN)×Int×Int)→Option (Step ((List aN)×Int×Int) ((List aN)×Int))
  | (x4,x5,x6)=>need (x4.length=a_.length) ((if decide (x6 < (x4.length:Int)) then (idx x4 x6).bind fun x9=>(yH x9.Rows x5).bind fun x10=>some (.next (x4.set x6.toNat (⟨x10.2⟩:aN),x10.1,aH (x6+1))) else some (.stop ((x4,x5)))))
def EN(a_:List aN):((List aN)×Int)→Option (Int×(List aN))
  | (x7,x8)=>EM a_ x7 x8
def vB(a_:List aN)(k:Int):Option (Int×(List aN)):=
  (loop (oH a_) (a_,k,0)).bind (EN a_)
def AM(a_:aB)(k:Int):Option (Int×(List Int)×(List Int)×(List aG)×(List aG)×(List dK)×(List aN)×(List Int)):=
  (DD a_.Mem k).bind fun x1=>(yG a_.aD x1.1).bind fun x2=>(vB a_.aK x2.1).bind fun x3=>(hY a_.b9 x3.1).bind fun x4=>some (x4.1,x1.2.1,x1.2.2.1,x1.2.2.2.1,x1.2.2.2.2,x2.2,x3.2,x4.2)
def IX(a_ x7:List bJ)(x8:Int):Option (Int×(List bJ)):=
  need (x7.length=a_.length) (some (x8,x7))
def sI(a_:List bJ):((List bJ)×Int×Int)→Option (Step ((List bJ)×Int×Int) ((List bJ)×Int))
  | (x4,x5,x6)=>need (x4.length=a_.length) ((if decide (x6 < (x4.length:Int)) then (idx x4 x6).bind fun x9=>some (.next (x4.set x6.toNat (⟨(Int.tmod x5 3) == 0,(⟨aH (x5+1),aH ((aH (x5+1))+1),aH ((aH ((aH (x5+1))+1))+1),aH ((aH ((aH ((aH (x5+1))+1))+1))+1)⟩:cX),aH ((aH ((aH ((aH ((aH (x5+1))+1))+1))+1))+1),aH ((aH ((aH ((aH ((aH ((aH (x5+1))+1))+1))+1))+1))+1),(⟨aH ((aH ((aH ((aH ((aH ((aH ((aH (x5+1))+1))+1))+1))+1))+1))+1),aH ((aH ((aH ((aH ((aH ((aH ((aH ((aH (x5+1))+1))+1))+1))+1))+1))+1))+1),aH ((aH ((aH ((aH ((aH ((aH ((aH ((aH ((aH (x5+1))+1))+1))+1))+1))+1))+1))+1))+1),aH ((aH ((aH ((aH ((aH ((aH ((aH ((aH ((aH ((aH (x5+1))+1))+1))+1))+1))+1))+1))+1))+1))+1),aH ((aH ((aH ((aH ((aH ((aH ((aH ((aH ((aH ((aH ((aH (x5+1))+1))+1))+1))+1))+1))+1))+1))+1))+1))+1),aH ((aH ((aH ((aH ((aH ((aH ((aH ((aH ((aH ((aH ((aH ((aH (x5+1))+1))+1))+1))+1))+1))+1))+1))+1))+1))+1))+1),aH ((aH ((aH ((aH ((aH ((aH ((aH ((aH ((aH ((aH ((aH ((aH ((aH (x5+1))+1))+1))+1))+1))+1))+1))+1))+1))+1))+1))+1))+1),aH ((aH ((aH ((aH ((aH ((aH ((aH ((aH ((aH ((aH ((aH ((aH ((aH ((aH (x5+1))+1))+1))+1))+1))+1))+1))+1))+1))+1))+1))+1))+1))+1),aH ((aH ((aH ((aH ((aH ((aH ((aH ((aH ((aH ((aH ((aH ((aH ((aH ((aH ((aH (x5+1))+1))+1))+1))+1))+1))+1))+1))+1))+1))+1))+1))+1))+1))+1),(Int.tmod (aH ((aH ((aH ((aH ((aH ((aH ((aH ((aH ((aH ((aH ((aH ((aH ((aH ((aH ((aH ((aH (x5+1))+1))+1))+1))+1))+1))+1))+1))+1))+1))+1))+1))+1))+1))+1))+1)) 3) == 0⟩:Sub),aH ((aH ((aH ((aH ((aH ((aH ((aH ((aH ((aH ((aH ((aH ((aH ((aH ((aH ((aH ((aH ((aH (x5+1))+1))+1))+1))+1))+1))+1))+1))+1))+1))+1))+1))+1))+1))+1))+1))+1),aH ((aH ((aH ((aH ((aH ((aH ((aH ((aH ((aH ((aH ((aH ((aH ((aH ((aH ((aH ((aH ((aH ((aH (x5+1))+1))+1))+1))+1))+1))+1))+1))+1))+1))+1))+1))+1))+1))+1))+1))+1))+1),aH ((aH ((aH ((aH ((aH ((aH ((aH ((aH ((aH ((aH ((aH ((aH ((aH ((aH ((aH ((aH ((aH ((aH ((aH (x5+1))+1))+1))+1))+1))+1))+1))+1))+1))+1))+1))+1))+1))+1))+1))+1))+1))+1))+1),aH ((aH ((aH ((aH ((aH ((aH ((aH ((aH ((aH ((aH ((aH ((aH ((aH ((aH ((aH ((aH ((aH ((aH ((aH ((aH (x5+1))+1))+1))+1))+1))+1))+1))+1))+1))+1))+1))+1))+1))+1))+1))+1))+1))+1))+1))+1)⟩:bJ),aH ((aH ((aH ((aH ((aH ((aH ((aH ((aH ((aH ((aH ((aH ((aH ((aH ((aH ((aH ((aH ((aH ((aH ((aH ((aH ((aH (x5+1))+1))+1))+1))+1))+1))+1))+1))+1))+1))+1))+1))+1))+1))+1))+1))+1))+1))+1))+1))+1),aH (x6+1))) else some (.stop ((x4,x5)))))
def IY(a_:List bJ):((List bJ)×Int)→Option (Int×(List bJ))
  | (x7,x8)=>IX a_ x7 x8
def AN(a_:List bJ)(k:Int):Option (Int×(List bJ)):=
  (loop (sI a_) (a_,k,0)).bind (IY a_)
def K5(a_ x7:List Ev)(x8:Int):Option (Int×(List Ev)):=
  need (x7.length=a_.length) (some (x8,x7))
def vC(a_:List Ev):((List Ev)×Int×Int)→Option (Step ((List Ev)×Int×Int) ((List Ev)×Int))
  | (x4,x5,x6)=>need (x4.length=a_.length) ((if decide (x6 < (x4.length:Int)) then (idx x4 x6).bind fun x9=>some (.next (x4.set x6.toNat (⟨x5,aH (x5+1),aH ((aH (x5+1))+1),aH ((aH ((aH (x5+1))+1))+1),aH ((aH ((aH ((aH (x5+1))+1))+1))+1),aH ((aH ((aH ((aH ((aH (x5+1))+1))+1))+1))+1),aH ((aH ((aH ((aH ((aH ((aH (x5+1))+1))+1))+1))+1))+1)⟩:Ev),aH ((aH ((aH ((aH ((aH ((aH ((aH (x5+1))+1))+1))+1))+1))+1))+1),aH (x6+1))) else some (.stop ((x4,x5)))))
def K6(a_:List Ev):((List Ev)×Int)→Option (Int×(List Ev))
  | (x7,x8)=>K5 a_ x7 x8
def DE(a_:List Ev)(k:Int):Option (Int×(List Ev)):=
  (loop (vC a_) (a_,k,0)).bind (K6 a_)
def rA(a_:aI)(k:Int):Option (Int×(List Int)×(List Int)×(List aG)×(List aG)×(List dK)×(List aN)×(List Int)×(List Int)×(List bJ)×(List Queue)×(List Ev)):=
  (AM a_.aB k).bind fun x1=>(hY a_.Cells x1.1).bind fun x2=>(AN a_.aQ x2.1).bind fun x3=>(o9 a_.aY x3.1).bind fun x4=>(DE a_.Log x4.1).bind fun x5=>some (x5.1,x1.2.1,x1.2.2.1,x1.2.2.2.1,x1.2.2.2.2.1,x1.2.2.2.2.2.1,x1.2.2.2.2.2.2.1,x1.2.2.2.2.2.2.2,x2.2,x3.2,x4.2,x5.2)
def SB(x5:Int):Option Int:=
  some x5
def j5(a_:List Int):(Int×Int)→Option (Step (Int×Int) (Out Int Int))
  | (x3,x4)=>(if decide (x4 < (a_.length:Int)) then (idx a_ x4).bind fun x6=>(if x6 != x3 then some (.stop (Out.ret (-1))) else some (.next (aH (x3+1),aH (x4+1)))) else some (.stop (Out.brk x3)))
def SC:(Out Int Int)→Option Int
  | .brk x5=>SB x5
  | .ret r=>some r
def f6(a_:List Int)(k:Int):Option Int:=
  (loop (j5 a_) (k,0)).bind (SC)
def AO(a_:aC)(k:Int):Option Int:=
  (f6 a_.Bytes k).bind fun x1=>(if decide (x1 < 0) then some (-1) else (f6 a_.Class x1).bind fun x2=>(if decide (x2 < 0) then some (-1) else some x2))
def PH(x5:Int):Option Int:=
  some x5
def oJ(a_:List aG):(Int×Int)→Option (Step (Int×Int) (Out Int Int))
  | (x3,x4)=>(if decide (x4 < (a_.length:Int)) then (idx a_ x4).bind fun x6=>(f6 x6.aO x3).bind fun x7=>(if decide (x7 < 0) then some (.stop (Out.ret (-1))) else some (.next (x7,aH (x4+1)))) else some (.stop (Out.brk x3)))
def PI:(Out Int Int)→Option Int
  | .brk x5=>PH x5
  | .ret r=>some r
def pB(a_:List aG)(k:Int):Option Int:=
  (loop (oJ a_) (k,0)).bind (PI)
def yI(a_:aA)(k:Int):Option Int:=
  (pB a_.Global k).bind fun x1=>(if decide (x1 < 0) then some (-1) else (pB a_.aU x1).bind fun x2=>(if decide (x2 < 0) then some (-1) else some x2))
def DF(a_:Mem)(k:Int):Option Int:=
  (AO a_.aC k).bind fun x1=>(if decide (x1 < 0) then some (-1) else (yI a_.aA x1).bind fun x2=>(if decide (x2 < 0) then some (-1) else some x2))
def SD(x5:Int):Option Int:=
  some x5
def j6(a_:List dK):(Int×Int)→Option (Step (Int×Int) (Out Int Int))
  | (x3,x4)=>(if decide (x4 < (a_.length:Int)) then (idx a_ x4).bind fun x6=>(if !(x6.On == ((Int.tmod x3 3) == 0)) then some (.stop (Out.ret (-1))) else (idx a_ x4).bind fun x7=>(if x7.aJ != (aH (x3+1)) then some (.stop (Out.ret (-1))) else (idx a_ x4).bind fun x8=>(if !(x8.d9 == ((Int.tmod (aH ((aH (x3+1))+1)) 3) == 0)) then some (.stop (Out.ret (-1))) else (idx a_ x4).bind fun x9=>(if x9.Seen != (aH ((aH ((aH (x3+1))+1))+1)) then some (.stop (Out.ret (-1))) else some (.next (aH ((aH ((aH ((aH (x3+1))+1))+1))+1),aH (x4+1))))))) else some (.stop (Out.brk x3)))
def SF:(Out Int Int)→Option Int
  | .brk x5=>SD x5
  | .ret r=>some r
def AP(a_:List dK)(k:Int):Option Int:=
  (loop (j6 a_) (k,0)).bind (SF)
def yJ(a_:aD)(k:Int):Option Int:=
  (AP a_.aP k).bind fun x1=>(if decide (x1 < 0) then some (-1) else some x1)
def QQ(x5:Int):Option Int:=
  some x5
def iS(a_:List bY):(Int×Int)→Option (Step (Int×Int) (Out Int Int))
  | (x3,x4)=>(if decide (x4 < (a_.length:Int)) then (idx a_ x4).bind fun x6=>(if x6.Handle != x3 then some (.stop (Out.ret (-1))) else (idx a_ x4).bind fun x7=>(if x7.aJ != (aH (x3+1)) then some (.stop (Out.ret (-1))) else some (.next (aH ((aH (x3+1))+1),aH (x4+1))))) else some (.stop (Out.brk x3)))
def QT:(Out Int Int)→Option Int
  | .brk x5=>QQ x5
  | .ret r=>some r
def m7(a_:List bY)(k:Int):Option Int:=
  (loop (iS a_) (k,0)).bind (QT)
def PJ(x5:Int):Option Int:=
  some x5
def oK(a_:List aN):(Int×Int)→Option (Step (Int×Int) (Out Int Int))
  | (x3,x4)=>(if decide (x4 < (a_.length:Int)) then (idx a_ x4).bind fun x6=>(m7 x6.Rows x3).bind fun x7=>(if decide (x7 < 0) then some (.stop (Out.ret (-1))) else some (.next (x7,aH (x4+1)))) else some (.stop (Out.brk x3)))
def PK:(Out Int Int)→Option Int
  | .brk x5=>PJ x5
  | .ret r=>some r
def vD(a_:List aN)(k:Int):Option Int:=
  (loop (oK a_) (k,0)).bind (PK)
def AQ(a_:aB)(k:Int):Option Int:=
  (DF a_.Mem k).bind fun x1=>(if decide (x1 < 0) then some (-1) else (yJ a_.aD x1).bind fun x2=>(if decide (x2 < 0) then some (-1) else (vD a_.aK x2).bind fun x3=>(if decide (x3 < 0) then some (-1) else (f6 a_.b9 x3).bind fun x4=>(if decide (x4 < 0) then some (-1) else some x4))))
def SG(x5:Int):Option Int:=
  some x5
def j7(a_:List bJ):(Int×Int)→Option (Step (Int×Int) (Out Int Int))
  | (x3,x4)=>(if decide (x4 < (a_.length:Int)) then (idx a_ x4).bind fun x6=>(if !(x6.kI == ((Int.tmod x3 3) == 0)) then some (.stop (Out.ret (-1))) else (idx a_ x4).bind fun x7=>(if x7.Op.Kind != (aH (x3+1)) then some (.stop (Out.ret (-1))) else (idx a_ x4).bind fun x8=>(if x8.Op.Cell != (aH ((aH (x3+1))+1)) then some (.stop (Out.ret (-1))) else (idx a_ x4).bind fun x9=>(if x9.Op.dT != (aH ((aH ((aH (x3+1))+1))+1)) then some (.stop (Out.ret (-1))) else (idx a_ x4).bind fun x10=>(if x10.Op.dV != (aH ((aH ((aH ((aH (x3+1))+1))+1))+1)) then some (.stop (Out.ret (-1))) else (idx a_ x4).bind fun x11=>(if x11.aM != (aH ((aH ((aH ((aH ((aH (x3+1))+1))+1))+1))+1)) then some (.stop (Out.ret (-1))) else (idx a_ x4).bind fun x12=>(if x12.Pc != (aH ((aH ((aH ((aH ((aH ((aH (x3+1))+1))+1))+1))+1))+1)) then some (.stop (Out.ret (-1))) else (idx a_ x4).bind fun x13=>(if x13.Sub.Kind != (aH ((aH ((aH ((aH ((aH ((aH ((aH (x3+1))+1))+1))+1))+1))+1))+1)) then some (.stop (Out.ret (-1))) else (idx a_ x4).bind fun x14=>(if x14.Sub.A != (aH ((aH ((aH ((aH ((aH ((aH ((aH ((aH (x3+1))+1))+1))+1))+1))+1))+1))+1)) then some (.stop (Out.ret (-1))) else (idx a_ x4).bind fun x15=>(if x15.Sub.Pc != (aH ((aH ((aH ((aH ((aH ((aH ((aH ((aH ((aH (x3+1))+1))+1))+1))+1))+1))+1))+1))+1)) then some (.stop (Out.ret (-1))) else (idx a_ x4).bind fun x16=>(if x16.Sub.E != (aH ((aH ((aH ((aH ((aH ((aH ((aH ((aH ((aH ((aH (x3+1))+1))+1))+1))+1))+1))+1))+1))+1))+1)) then some (.stop (Out.ret (-1))) else (idx a_ x4).bind fun x17=>(if x17.Sub.Row != (aH ((aH ((aH ((aH ((aH ((aH ((aH ((aH ((aH ((aH ((aH (x3+1))+1))+1))+1))+1))+1))+1))+1))+1))+1))+1)) then some (.stop (Out.ret (-1))) else (idx a_ x4).bind fun x18=>(if x18.Sub.B != (aH ((aH ((aH ((aH ((aH ((aH ((aH ((aH ((aH ((aH ((aH ((aH (x3+1))+1))+1))+1))+1))+1))+1))+1))+1))+1))+1))+1)) then some (.stop (Out.ret (-1))) else (idx a_ x4).bind fun x19=>(if x19.Sub.H != (aH ((aH ((aH ((aH ((aH ((aH ((aH ((aH ((aH ((aH ((aH ((aH ((aH (x3+1))+1))+1))+1))+1))+1))+1))+1))+1))+1))+1))+1))+1)) then some (.stop (Out.ret (-1))) else (idx a_ x4).bind fun x20=>(if x20.Sub.Out != (aH ((aH ((aH ((aH ((aH ((aH ((aH ((aH ((aH ((aH ((aH ((aH ((aH ((aH (x3+1))+1))+1))+1))+1))+1))+1))+1))+1))+1))+1))+1))+1))+1)) then some (.stop (Out.ret (-1))) else (idx a_ x4).bind fun x21=>(if x21.Sub.Code != (aH ((aH ((aH ((aH ((aH ((aH ((aH ((aH ((aH ((aH ((aH ((aH ((aH ((aH ((aH (x3+1))+1))+1))+1))+1))+1))+1))+1))+1))+1))+1))+1))+1))+1))+1)) then some (.stop (Out.ret (-1))) else (idx a_ x4).bind fun x22=>(if !(x22.Sub.cH == ((Int.tmod (aH ((aH ((aH ((aH ((aH ((aH ((aH ((aH ((aH ((aH ((aH ((aH ((aH ((aH ((aH ((aH (x3+1))+1))+1))+1))+1))+1))+1))+1))+1))+1))+1))+1))+1))+1))+1))+1)) 3) == 0)) then some (.stop (Out.ret (-1))) else (idx a_ x4).bind fun x23=>(if x23.H != (aH ((aH ((aH ((aH ((aH ((aH ((aH ((aH ((aH ((aH ((aH ((aH ((aH ((aH ((aH ((aH ((aH (x3+1))+1))+1))+1))+1))+1))+1))+1))+1))+1))+1))+1))+1))+1))+1))+1))+1)) then some (.stop (Out.ret (-1))) else (idx a_ x4).bind fun x24=>(if x24.Old != (aH ((aH ((aH ((aH ((aH ((aH ((aH ((aH ((aH ((aH ((aH ((aH ((aH ((aH ((aH ((aH ((aH ((aH (x3+1))+1))+1))+1))+1))+1))+1))+1))+1))+1))+1))+1))+1))+1))+1))+1))+1))+1)) then some (.stop (Out.ret (-1))) else (idx a_ x4).bind fun x25=>(if x25.dV != (aH ((aH ((aH ((aH ((aH ((aH ((aH ((aH ((aH ((aH ((aH ((aH ((aH ((aH ((aH ((aH ((aH ((aH ((aH (x3+1))+1))+1))+1))+1))+1))+1))+1))+1))+1))+1))+1))+1))+1))+1))+1))+1))+1))+1)) then some (.stop (Out.ret (-1))) else (idx a_ x4).bind fun x26=>(if x26.Code != (aH ((aH ((aH ((aH ((aH ((aH ((aH ((aH ((aH ((aH ((aH ((aH ((aH ((aH ((aH ((aH ((aH ((aH ((aH ((aH (x3+1))+1))+1))+1))+1))+1))+1))+1))+1))+1))+1))+1))+1))+1))+1))+1))+1))+1))+1))+1)) then some (.stop (Out.ret (-1))) else some (.next (aH ((aH ((aH ((aH ((aH ((aH ((aH ((aH ((aH ((aH ((aH ((aH ((aH ((aH ((aH ((aH ((aH ((aH ((aH ((aH ((aH (x3+1))+1))+1))+1))+1))+1))+1))+1))+1))+1))+1))+1))+1))+1))+1))+1))+1))+1))+1))+1))+1),aH (x4+1)))))))))))))))))))))))) else some (.stop (Out.brk x3)))
def SH:(Out Int Int)→Option Int
  | .brk x5=>SG x5
  | .ret r=>some r
def AR(a_:List bJ)(k:Int):Option Int:=
  (loop (j7 a_) (k,0)).bind (SH)
def UA(x5:Int):Option Int:=
  some x5
def kX(a_:List cX):(Int×Int)→Option (Step (Int×Int) (Out Int Int))
  | (x3,x4)=>(if decide (x4 < (a_.length:Int)) then (idx a_ x4).bind fun x6=>(if x6.Kind != x3 then some (.stop (Out.ret (-1))) else (idx a_ x4).bind fun x7=>(if x7.Cell != (aH (x3+1)) then some (.stop (Out.ret (-1))) else (idx a_ x4).bind fun x8=>(if x8.dT != (aH ((aH (x3+1))+1)) then some (.stop (Out.ret (-1))) else (idx a_ x4).bind fun x9=>(if x9.dV != (aH ((aH ((aH (x3+1))+1))+1)) then some (.stop (Out.ret (-1))) else some (.next (aH ((aH ((aH ((aH (x3+1))+1))+1))+1),aH (x4+1))))))) else some (.stop (Out.brk x3)))
def UB:(Out Int Int)→Option Int
  | .brk x5=>UA x5
  | .ret r=>some r
def sJ(a_:List cX)(k:Int):Option Int:=
  (loop (kX a_) (k,0)).bind (UB)
def PL(x5:Int):Option Int:=
  some x5
def oL(a_:List Queue):(Int×Int)→Option (Step (Int×Int) (Out Int Int))
  | (x3,x4)=>(if decide (x4 < (a_.length:Int)) then (idx a_ x4).bind fun x6=>(sJ x6.fK x3).bind fun x7=>(if decide (x7 < 0) then some (.stop (Out.ret (-1))) else some (.next (x7,aH (x4+1)))) else some (.stop (Out.brk x3)))
def PM:(Out Int Int)→Option Int
  | .brk x5=>PL x5
  | .ret r=>some r
def vF(a_:List Queue)(k:Int):Option Int:=
  (loop (oL a_) (k,0)).bind (PM)
def UC(x5:Int):Option Int:=
  some x5
def kY(a_:List Ev):(Int×Int)→Option (Step (Int×Int) (Out Int Int))
  | (x3,x4)=>(if decide (x4 < (a_.length:Int)) then (idx a_ x4).bind fun x6=>(if x6.Kind != x3 then some (.stop (Out.ret (-1))) else (idx a_ x4).bind fun x7=>(if x7.Who != (aH (x3+1)) then some (.stop (Out.ret (-1))) else (idx a_ x4).bind fun x8=>(if x8.aM != (aH ((aH (x3+1))+1)) then some (.stop (Out.ret (-1))) else (idx a_ x4).bind fun x9=>(if x9.Cell != (aH ((aH ((aH (x3+1))+1))+1)) then some (.stop (Out.ret (-1))) else (idx a_ x4).bind fun x10=>(if x10.Handle != (aH ((aH ((aH ((aH (x3+1))+1))+1))+1)) then some (.stop (Out.ret (-1))) else (idx a_ x4).bind fun x11=>(if x11.dV != (aH ((aH ((aH ((aH ((aH (x3+1))+1))+1))+1))+1)) then some (.stop (Out.ret (-1))) else (idx a_ x4).bind fun x12=>(if x12.Code != (aH ((aH ((aH ((aH ((aH ((aH (x3+1))+1))+1))+1))+1))+1)) then some (.stop (Out.ret (-1))) else some (.next (aH ((aH ((aH ((aH ((aH ((aH ((aH (x3+1))+1))+1))+1))+1))+1))+1),aH (x4+1)))))))))) else some (.stop (Out.brk x3)))
def UD:(Out Int Int)→Option Int
  | .brk x5=>UC x5
  | .ret r=>some r
def DG(a_:List Ev)(k:Int):Option Int:=
  (loop (kY a_) (k,0)).bind (UD)
def m8(a_:aI)(k:Int):Option Int:=
  (AQ a_.aB k).bind fun x1=>(if decide (x1 < 0) then some (-1) else (f6 a_.Cells x1).bind fun x2=>(if decide (x2 < 0) then some (-1) else (AR a_.aQ x2).bind fun x3=>(if decide (x3 < 0) then some (-1) else (vF a_.aY x3).bind fun x4=>(if decide (x4 < 0) then some (-1) else (DG a_.Log x4).bind fun x5=>(if decide (x5 < 0) then some (-1) else some x5)))))
def iA(aX:fD)(x10:Bool)(x11 x12:aI):Option Bool:=
  (if x10 then some false else (rA x12 1).bind fun x13=>(m8 (⟨(⟨(⟨(⟨x13.2.1,x13.2.2.1⟩:aC),(⟨x13.2.2.2.1,x13.2.2.2.2.1⟩:aA)⟩:Mem),(⟨x12.aB.aD.aJ,x13.2.2.2.2.2.1⟩:aD),x13.2.2.2.2.2.2.1,x13.2.2.2.2.2.2.2.1⟩:aB),x13.2.2.2.2.2.2.2.2.1,x13.2.2.2.2.2.2.2.2.2.1,x13.2.2.2.2.2.2.2.2.2.2.1,x13.2.2.2.2.2.2.2.2.2.2.2,x12.aM⟩:aI) 1).bind fun x14=>(if decide (x14 < 0) then some false else (if x14 != x13.1 then some false else (lX aX).bind fun x15=>(qW x15).bind fun x16=>(oE x16 x11).bind fun x17=>(if !x17 then some false else (m8 (⟨(⟨(⟨(⟨x13.2.1,x13.2.2.1⟩:aC),(⟨x13.2.2.2.1,x13.2.2.2.2.1⟩:aA)⟩:Mem),(⟨x12.aB.aD.aJ,x13.2.2.2.2.2.1⟩:aD),x13.2.2.2.2.2.2.1,x13.2.2.2.2.2.2.2.1⟩:aB),x13.2.2.2.2.2.2.2.2.1,x13.2.2.2.2.2.2.2.2.2.1,x13.2.2.2.2.2.2.2.2.2.2.1,x13.2.2.2.2.2.2.2.2.2.2.2,x12.aM⟩:aI) 1).bind fun x18=>(if decide (x18 < 0) then some false else (if x18 != x13.1 then some false else some true))))))
def pP(aX:fD):Option Bool:=
  (zO aX 1048576).bind fun x1=>(if decide (x1 < 0) then some true else (lX aX).bind fun x2=>(xB x2).bind fun x3=>(lX aX).bind fun x4=>(qW x4).bind fun x5=>(oE x5 x3).bind fun x6=>(if !x6 then some false else (lX aX).bind fun x7=>(AJ x4 x7).bind fun x8=>(if !x8 then some false else (vA x4 1).bind fun x9=>(if decide (x9.1 < 0) then iA aX true x3 x5 else (oE x5 x3).bind fun x19=>iA aX (!x19) x3 x5))))
end
end Go.Gv
end
noncomputable section
set_option linter.unusedVariables false
set_option maxHeartbeats 4000000
set_option maxRecDepth 100000
namespace Go.Proofs.YtgjpcfdgefopgabGreat
open Go.Gv
theorem a8:P1 Tryz.prog 3 1 (.int .i64 0):=D0 (b:=8) (by kernel_rfl) rfl
theorem cN:P1 Tryz.prog 184 1 (.agg #[.slice none 0 0]):=D0 (b:=24) (by kernel_rfl) rfl
theorem wH:P1 Tryz.prog 113 4 (.agg #[.bool false,.int .i64 0,.bool false,.int .i64 0]):=D0 (b:=32) (by kernel_rfl) rfl
theorem A9:P1 Tryz.prog 143 1 (.agg #[.slice none 0 0]):=D0 (b:=24) (by kernel_rfl) rfl
theorem vZ:P1 Tryz.prog 91 1 (.agg #[.slice none 0 0]):=D0 (b:=24) (by kernel_rfl) rfl
theorem zH:P1 Tryz.prog 80 4 (.agg #[.int .i64 0,.int .i64 0,.int .i64 0,.int .i64 0]):=D0 (b:=32) (by kernel_rfl) rfl
theorem eJ:P1 Tryz.prog 84 21 (.agg #[.bool false,.int .i64 0,.int .i64 0,.int .i64 0,.int .i64 0,.int .i64 0,.int .i64 0,.int .i64 0,.int .i64 0,.int .i64 0,.int .i64 0,.int .i64 0,.int .i64 0,.int .i64 0,.int .i64 0,.int .i64 0,.bool false,.int .i64 0,.int .i64 0,.int .i64 0,.int .i64 0]):=D0 (b:=168) (by kernel_rfl) rfl
theorem i7:P1 Tryz.prog 86 7 (.agg #[.int .i64 0,.int .i64 0,.int .i64 0,.int .i64 0,.int .i64 0,.int .i64 0,.int .i64 0]):=D0 (b:=56) (by kernel_rfl) rfl
theorem iI:P1 Tryz.prog 180 2 (.agg #[.int .i64 0,.int .i64 0]):=D0 (b:=16) (by kernel_rfl) rfl
theorem aBX:P1 Tryz.prog 5 1 (.int .u8 0):=D0 (b:=1) (by kernel_rfl) rfl
theorem aGR:P1 Tryz.prog 29 1 (.slice none 0 0):=D0 (b:=24) (by kernel_rfl) rfl
theorem aE:Tryz.prog.follows .mixedOrders=true:=by kernel_rfl
theorem TB(D:Nat)(d d':dK)(w:World):(Op.eqFields (D+2) #[.bool (d.On),.int .i64 (d.aJ),.bool (d.d9),.int .i64 (d.Seen)] #[.bool (d'.On),.int .i64 (d'.aJ),.bool (d'.d9),.int .i64 (d'.Seen)] (match Tryz.prog.underlying 113 with | some (.struct fs)=>fs | _=>#[]).toList).run Tryz.prog w=.ok (decide (d=d')) w:=by
  rw [Tryz.underlying113]
  have h:(d.On == d'.On && (d.aJ == d'.aJ && (d.d9 == d'.d9 && (d.Seen == d'.Seen && true))))=decide (d=d'):=by
    cases d;cases d';rw [Bool.eq_iff_iff];simp
  rw [←h]
  exact P3 _ _ _ _ _ rfl (S7 Tryz.isAgg4 rfl) (S7 Tryz.isAgg4 rfl) (aHI Tryz.underlying4)<|
    P3 _ _ _ _ _ rfl (S7 Tryz.isAgg3 rfl) (S7 Tryz.isAgg3 rfl) (aKQ Tryz.underlying3)<|
    P3 _ _ _ _ _ rfl (S7 Tryz.isAgg4 rfl) (S7 Tryz.isAgg4 rfl) (aHI Tryz.underlying4)<|
    P3 _ _ _ _ _ rfl (S7 Tryz.isAgg3 rfl) (S7 Tryz.isAgg3 rfl) (aKQ Tryz.underlying3)<|
    aOG _ _ _
set_option maxRecDepth 100000 in
theorem IZ{w0:World}{n:Int}(hn:0≤n∧n≤1073741824) :
    Calls Tryz.prog 296 #[.slice none 0 0,.int .i64 n] w0 (Ret fun v w'=>∃s0_0:Value,v=s0_0∧St (cG w0) w' [cR [s0_0] ([]:List Raw)] []):=by
  have hS:St (cG w0) w0 [] []:=St.enter (by intro f hf;cases hf)
  have hw:aH (n - aH (0 - 0))=n:=by
    rw [D2 (x:=0 - 0) (by omega),D2 (by omega)];omega
  refine aKJ (args:=[_,_]) Tryz.func296 rfl Tryz.ntmps296 rfl ?_
  intro a hA
  refine bI ?_
  refine bW hA ?_
  clear hA
  refine dW (zA rfl rfl) (bM rfl) rfl rfl ?_
  refine bD ?_
  intro a hA
  refine bI ?_
  refine bI ?_
  refine bW hA ?_
  clear hA
  refine dW (lD rfl rfl) (bM rfl) rfl rfl ?_
  refine dW (BI rfl rfl rfl) (bM rfl) rfl rfl ?_
  refine bD ?_
  intro a hA
  refine jF hA rfl (fun hc=>?_) (fun hc=>?_)
  · exfalso;simp at hc;omega
  refine l8 ?_
  refine bI ?_
  refine bI ?_
  refine bW hA ?_
  clear hA
  refine dW (lD rfl rfl) (bM rfl) rfl rfl ?_
  refine dW (lD rfl rfl) (bM rfl) rfl rfl ?_
  refine dW (aBO Tryz.underlying29 rfl rfl) (bM rfl) rfl rfl ?_
  refine dW (lD rfl rfl) (bM rfl) rfl rfl ?_
  refine dW (l9 (aKN (α:=Raw) (S:=F0)) Tryz.underlying29 rfl rfl) (bM rfl) rfl rfl ?_
  refine dW (aF0 rfl rfl rfl) (bM rfl) rfl rfl ?_
  refine dW (aF0 rfl rfl rfl) (bM rfl) rfl rfl ?_
  refine dW (zA rfl rfl) (bM rfl) rfl rfl ?_
  refine bD ?_
  intro a hA
  refine bI ?_
  refine bW hA ?_
  clear hA
  refine dW (lD rfl rfl) (bM rfl) rfl rfl ?_
  refine dW (aF3 rfl rfl rfl) (bM rfl) rfl rfl ?_
  refine bD ?_
  intro a hA
  refine jF hA rfl (fun hc=>?_) (fun hc=>?_)
  · have hn1:0 < n:=by
      have h2:decide (0 < aH (n - aH (0 - 0)))=true:=hc
      rw [hw] at h2;simpa using h2
    refine bW hA ?_
    clear hA
    refine dW (lD rfl rfl) (bM rfl) rfl rfl ?_
    refine dW (lD rfl rfl) (bM rfl) rfl rfl ?_
    refine dW (aBO Tryz.underlying29 rfl rfl) (bM rfl) rfl rfl ?_
    refine dW (aHP (s:=.slice none 0 0) ⟨_,_,_,rfl⟩ Tryz.underlying29 Tryz.sizeOf184 rfl rfl rfl) (bM rfl) rfl rfl ?_
    refine dW (lD rfl rfl) (bM rfl) rfl rfl ?_
    refine GS (aOR (i:=aH (n - aH (0 - 0))) hS Tryz.underlying29 Tryz.underlying3 cN rfl rfl (by rw [hw];omega) rfl rfl rfl) (bM rfl) rfl rfl ?_
    clear hS
    intro s w hS
    refine dW (lD rfl rfl) (bM rfl) rfl rfl ?_
    refine dW (l9 (aKN (α:=Raw) (S:=F0)) Tryz.underlying29 rfl rfl) (bM rfl) rfl rfl ?_
    refine dW (aHP (hS.aK8 0 rfl) Tryz.underlying29 Tryz.sizeOf184 rfl rfl rfl) (bM rfl) rfl rfl ?_
    refine dW (zA rfl rfl) (bM rfl) rfl rfl ?_
    refine bD ?_
    intro a hA
    replace hS:=hS.aRE (α:=Raw) 0 rfl rfl
    refine bI ?_
    refine bW hA ?_
    clear hA
    refine dW (lD rfl rfl) (bM rfl) rfl rfl ?_
    refine dW (zA rfl rfl) (bM rfl) rfl rfl ?_
    refine bD ?_
    intro a hA
    refine vP ?_
    exact aOE Tryz.results296 hA (VU rfl) ⟨_,rfl,(hS.JH [0] rfl).weaken (R':=[]) (fun _ h=>nomatch h)⟩
  · refine l8 ?_
    replace hS:=hS.aQ7 (α:=Raw)
    refine bI ?_
    refine bW hA ?_
    clear hA
    refine dW (lD rfl rfl) (bM rfl) rfl rfl ?_
    refine dW (zA rfl rfl) (bM rfl) rfl rfl ?_
    refine bD ?_
    intro a hA
    refine vP ?_
    exact aOE Tryz.results296 hA (VU rfl) ⟨_,rfl,(hS.JH [0] rfl).weaken (R':=[]) (fun _ h=>nomatch h)⟩
theorem LK{w0:World}{slices:List (List Raw)}{s1:Value}{r:(List Raw)}(h1:aL.rd (KL w0) w0 [s1] (slices:List (List Raw)))(hF:mC slices=some r) :
    Calls Tryz.prog 281 #[s1] w0 (Ret fun v w'=>∃(s0_0:Value),v=s0_0∧St (cG w0) w' [cR [s0_0] (r:List Raw)] []):=by
 have hS:St (cG w0) w0 [] [wN [s1] (slices:List (List Raw))]:=St.enter (by
   intro f hf
   simp only [List.mem_cons,List.not_mem_nil,or_false] at hf
   subst hf;exact h1)
 refine wA (args:=[_]) Tryz.func281 rfl Tryz.ntmps281 rfl ?_
 unfold mC at hF
 intro a hA
 refine bI<|bW hA ?_
 clear hA
 refine oa rfl rfl<|bD fun a hA=>bI<|bW hA ?_
 clear hA
 refine oa rfl rfl<|bD fun a hA=>bI<|bI<|bW hA ?_
 clear hA
 refine om rfl rfl<|oy (l9 (hS.rd 0 rfl) Tryz.underlying262 rfl rfl) rfl<|om rfl rfl<|bD fun a hA=>?_
 obtain⟨o1,hl1,hF⟩:=pT hF
 refine zB (J:=fun a' w'=>∃(x5:Int),o1=x5∧jA 36 [(0,s1),(3,.int .i64 (x5))] a'∧St (cG w0) w' [] [wN [s1] (slices:List (List Raw))]) ?_ ?_
 ·refine jB ?_
  refine FA (body:=eD slices) (r:=o1) (fun sg a' w'=>jA 36 [(0,s1),(3,.int .i64 (sg.1)),(9,s1),(10,.int .i64 ((slices.length:Int))),(11,.int .i64 (sg.2))] a'∧St (cG w0) w' [] [wN [s1] (slices:List (List Raw))]) ?_ hl1 ⟨hA.part ⟨rfl,rfl,rfl,rfl,rfl,trivial⟩,((hS).JH [] rfl).rK [0] rfl⟩
  clear hA hS hl1
  rintro⟨x3,x4⟩ a w q1 ⟨hA,hS⟩ hG1 hr1
  try dsimp only at hA hS
  unfold eD at hG1
  refine bI<|bW hA ?_
  clear hA
  refine oy (BI rfl rfl rfl) rfl<|bD fun a hA=>bI<|jF hA rfl (fun hc2=>?_) (fun hc2=>?_)
  ·replace hG1:=H0 hc2 hG1
   refine l8<|bI<|jB<|bI<|bW hA ?_
   clear hA
   obtain⟨x12,hx12,hG1⟩:=pT hG1
   refine oy (LU (m:=1) (hS.rd 0 rfl) rfl hx12 Tryz.underlying262 Tryz.sizeOf29 rfl rfl rfl) rfl ?_
   obtain⟨s8,hel,hS⟩:=hS.aED 0 rfl (iB hx12).2.2
   refine oy (f7 rfl rfl Tryz.isAgg29 (aKM hel)) rfl<|oa rfl rfl<|bD fun a hA=>bI<|bW hA ?_
   clear hA
   refine om rfl rfl<|om rfl rfl<|oy (l9 (hS.rd 1 rfl) Tryz.underlying29 rfl rfl) rfl<|oy (GU rfl rfl rfl) rfl<|oa rfl rfl<|bD fun a hA=>bI<|bW hA ?_
   clear hA
   refine om rfl rfl<|oy (BI rfl rfl rfl) rfl<|bD fun a hA=>jF hA rfl (fun hc3=>?_) (fun hc3=>?_)
   ·replace hG1:=H0 hc3 hG1
    refine bW hA ?_
    clear hA
    cases hG1
   ·replace hG1:=H3 hc3 hG1
    refine l8<|bW hA ?_
    clear hA
    refine oy (GU rfl rfl rfl) rfl<|om rfl rfl<|bD fun a hA=>?_
    cases hG1
    exact⟨_,rfl,⟨hA.part ⟨rfl,rfl,rfl,rfl,rfl,trivial⟩,((hS).JH [] rfl).rK [0] rfl⟩⟩
  ·replace hG1:=H3 hc2 hG1
   refine E9<|y9 ?_
   cases hG1
   have ho:=hr1 _ rfl;subst ho
   exact⟨x3,rfl,hA.part ⟨rfl,rfl,trivial⟩,((hS).JH [] rfl).rK [0] rfl⟩
 ·skip
  clear hA hS hl1
  rintro a w ⟨x5,heq,hA,hS⟩
  replace hF:jL slices x5=some r:=by rw [heq] at hF;exact hF
  clear heq
  unfold jL at hF
  refine bI<|bW hA ?_
  clear hA
  refine om rfl rfl ?_
  obtain⟨hn1,hF⟩:=iC hF
  refine S6 (FD Tryz.call296 rfl rfl) (bM rfl) rfl rfl (IZ hn1) ?_
  rintro s2 w ⟨_,rfl,hk⟩
  replace hS:=hS.after hk;clear hk
  refine oa rfl rfl<|bD fun a hA=>bI<|bI<|bW hA ?_
  clear hA
  refine om rfl rfl<|oy (l9 (hS.rd 0 rfl) Tryz.underlying262 rfl rfl) rfl<|om rfl rfl<|bD fun a hA=>?_
  obtain⟨o2,hl2,hF⟩:=pT hF
  refine zB (J:=fun a' w'=>∃(x10:List Raw) (s5:Value),o2=x10∧jA 36 [(6,s5)] a'∧St (cG w0) w' [cR [s5] (x10:List Raw)] []) ?_ ?_
  ·refine jB ?_
   refine FA (body:=fF slices) (r:=o2) (fun sg a' w'=>∃(s4:Value),jA 36 [(6,s4),(25,s1),(26,.int .i64 ((slices.length:Int))),(27,.int .i64 (sg.2))] a'∧St (cG w0) w' [cR [s4] (sg.1:List Raw)] [wN [s1] (slices:List (List Raw))]) ?_ hl2 ⟨s2,hA.part ⟨rfl,rfl,rfl,rfl,trivial⟩,((hS).JH [0] rfl).rK [0] rfl⟩
   clear hA hS hl2
   rintro⟨x8,x9⟩ a w q2 ⟨s4,hA,hS⟩ hG2 hr2
   try dsimp only at hA hS
   unfold fF at hG2
   refine bI<|bW hA ?_
   clear hA
   refine oy (BI rfl rfl rfl) rfl<|bD fun a hA=>bI<|jF hA rfl (fun hc1=>?_) (fun hc1=>?_)
   ·replace hG2:=H0 hc1 hG2
    refine l8<|bI<|jB<|bI<|bW hA ?_
    clear hA
    obtain⟨x11,hx11,hG2⟩:=pT hG2
    refine oy (LU (m:=1) (hS.rd 0 rfl) rfl hx11 Tryz.underlying262 Tryz.sizeOf29 rfl rfl rfl) rfl ?_
    obtain⟨s6,hel,hS⟩:=hS.aED 0 rfl (iB hx11).2.2
    refine oy (f7 rfl rfl Tryz.isAgg29 (aKM hel)) rfl<|oa rfl rfl<|bD fun a hA=>bW hA ?_
    clear hA
    refine om rfl rfl<|om rfl rfl ?_
    obtain⟨hn2,hG2⟩:=iC hG2
    refine GS (aBK (α:=Raw) 0 hS rfl (hS.rd 1 rfl) rfl Tryz.underlying29 cN rfl hn2 rfl rfl rfl) (bM rfl) rfl rfl ?_
    clear hS
    rintro s7 w hS
    refine oa rfl rfl<|bD fun a hA=>bW hA ?_
    clear hA
    refine oy (GU rfl rfl rfl) rfl<|om rfl rfl<|bD fun a hA=>?_
    cases hG2
    exact⟨_,rfl,⟨s7,hA.part ⟨rfl,rfl,rfl,rfl,trivial⟩,((hS).JH [0] rfl).rK [0] rfl⟩⟩
   ·replace hG2:=H3 hc1 hG2
    refine E9<|y9 ?_
    cases hG2
    have ho:=hr2 _ rfl;subst ho
    exact⟨x8,s4,rfl,hA.part ⟨rfl,trivial⟩,((hS).JH [0] rfl).rK [] rfl⟩
  ·skip
   clear hA hS hl2
   rintro a w ⟨x10,s5,heq,hA,hS⟩
   replace hF:nV x10=some r:=by rw [heq] at hF;exact hF
   clear heq
   unfold nV at hF
   refine bI<|bW hA ?_
   clear hA
   refine om rfl rfl<|oa rfl rfl<|bD fun a hA=>vP ?_
   cases hF
   exact aOE Tryz.results281 hA (VU rfl) ⟨s5,rfl,(hS.JH [0] rfl).weaken (R':=[]) (fun _ h=>nomatch h)⟩
theorem HE{w0:World}{n:Int}{low:Int}{high:Int}{r:Bool}(hF:bZ n low high=some r) :
    Calls Tryz.prog 52 #[.int .i64 (n),.int .i64 (low),.int .i64 (high)] w0 (Ret fun v w'=>v=.bool (r)∧St (cG w0) w' [] []):=by
 have hS:St (cG w0) w0 [] []:=St.enter (by
   intro f hf;cases hf)
 refine wA (args:=[_,_,_]) Tryz.func52 rfl Tryz.ntmps52 rfl ?_
 unfold bZ at hF
 intro a hA
 refine bI<|bW hA ?_
 clear hA
 refine oa rfl rfl<|bD fun a hA=>bI<|zB (J:=fun a' w'=>∃(x1:Bool),mV x1=some r∧jA 15 [(6,.bool (x1))] a'∧St (cG w0) w' [] []) ?_ ?_
 ·skip
  refine bW hA ?_
  clear hA
  refine om rfl rfl<|om rfl rfl<|oy (aKF rfl rfl rfl) rfl<|om rfl rfl<|DY (s:=10) rfl (fun hc1=>?_) (fun hc1=>?_)
  ·replace hF:=H0 hc1 hF
   refine dW (lD rfl rfl) (bT rfl rfl rfl (by rw [hc1];rfl)) rfl rfl ?_
   refine dW (lD rfl rfl) (bT rfl rfl rfl (by rw [hc1];rfl)) rfl rfl ?_
   refine dW (aF2 rfl rfl rfl) (bT rfl rfl rfl (by rw [hc1];rfl)) rfl rfl ?_
   refine oy (rJ rfl rfl hc1 rfl) rfl<|oa rfl rfl<|bD fun a hA=>?_
   exact⟨decide (n≤high),hF,hA.part ⟨rfl,trivial⟩,((hS).JH [] rfl).rK [] rfl⟩
  ·replace hF:=H3 hc1 hF
   refine d7 (bT rfl rfl rfl (by rw [hc1];rfl)) rfl rfl ?_
   refine d7 (bT rfl rfl rfl (by rw [hc1];rfl)) rfl rfl ?_
   refine d7 (bT rfl rfl rfl (by rw [hc1];rfl)) rfl rfl ?_
   refine oy (v9 rfl rfl hc1 rfl) rfl<|oa rfl rfl<|bD fun a hA=>?_
   exact⟨false,hF,hA.part ⟨rfl,trivial⟩,((hS).JH [] rfl).rK [] rfl⟩
 ·skip
  clear hA hS hF
  rintro a w ⟨x1,hF,hA,hS⟩
  unfold mV at hF
  refine vP ?_
  cases hF
  exact fy Tryz.results52 hA rfl hS
theorem aAA{w0:World}{slot:Int}{r:Bool}(hF:jQ slot=some r) :
    Calls Tryz.prog 264 #[.int .i64 (slot)] w0 (Ret fun v w'=>v=.bool (r)∧St (cG w0) w' [] []):=by
 have hS:St (cG w0) w0 [] []:=St.enter (by
   intro f hf;cases hf)
 refine wA (args:=[_]) Tryz.func264 rfl Tryz.ntmps264 rfl ?_
 unfold jQ at hF
 intro a hA
 refine bI<|bW hA ?_
 clear hA
 refine oa rfl rfl<|bD fun a hA=>bI<|bW hA ?_
 clear hA
 refine om rfl rfl ?_
 obtain⟨x1,hx1,hF⟩:=pT hF
 refine S6 (FD Tryz.call52 rfl rfl) (bM rfl) rfl rfl (HE (n:=slot) (low:=0) (high:=23) hx1) ?_
 rintro _ w ⟨rfl,hk⟩
 replace hS:=hS.after hk;clear hk
 refine oa rfl rfl<|bD fun a hA=>vP ?_
 cases hF
 exact fy Tryz.results264 hA rfl hS
theorem XT{w0:World}{l:aA}{s1:Value}{s2:Value}{r:Bool}(h1:aL.rd (KL w0) w0 [s1] (l.Global:List aG))(h2:aL.rd (KL w0) w0 [s2] (l.aU:List aG))(hF:hC l=some r) :
    Calls Tryz.prog 245 #[.agg #[s1,s2]] w0 (Ret fun v w'=>v=.bool (r)∧St (cG w0) w' [] []):=by
 have hS:St (cG w0) w0 [] [wN [s1] (l.Global:List aG),wN [s2] (l.aU:List aG)]:=St.enter (by
   intro f hf
   simp only [List.mem_cons,List.not_mem_nil,or_false] at hf
   rcases hf with rfl | rfl
   · exact h1
   · exact h2)
 refine wA (args:=[_]) Tryz.func245 rfl Tryz.ntmps245 rfl ?_
 unfold hC at hF
 intro a hA
 refine bI<|bW hA ?_
 clear hA
 refine GS (aQ4 (cs:=[s1,s2]) hS rfl rfl rfl) (bM rfl) rfl rfl ?_
 clear hS
 rintro _ w ⟨b1,rfl,hS⟩
 refine oa rfl rfl<|bD fun a hA=>bI<|bI<|zB (J:=fun a' w'=>∃(x1:Bool),oY l x1=some r∧jA 61 [(1,.pointer (some ⟨b1,0,none⟩)),(17,.bool (x1))] a'∧St (cG w0) w' [y5 b1 [s1,s2]] [wN [s1] (l.Global:List aG),wN [s2] (l.aU:List aG)]) ?_ ?_
 ·skip
  refine bW hA ?_
  clear hA
  refine oy (vQ (m:=0) Tryz.underlying31 rfl rfl Tryz.sizeOf29 rfl rfl) rfl<|oy (f7 rfl rfl Tryz.isAgg29 (hS.cell 0 rfl rfl)) rfl<|oy (l9 (hS.rd 0 rfl) Tryz.underlying29 rfl rfl) rfl<|oy (aCE rfl rfl rfl) rfl<|om rfl rfl<|DY (s:=12) rfl (fun hc8=>?_) (fun hc8=>?_)
  ·replace hF:=H0 hc8 hF
   refine d7 (bT rfl rfl rfl (by rw [hc8];rfl)) rfl rfl ?_
   refine d7 (bT rfl rfl rfl (by rw [hc8];rfl)) rfl rfl ?_
   refine d7 (bT rfl rfl rfl (by rw [hc8];rfl)) rfl rfl ?_
   refine d7 (bT rfl rfl rfl (by rw [hc8];rfl)) rfl rfl ?_
   refine oy (rJ rfl rfl hc8 rfl) rfl<|bD fun a hA=>?_
   exact⟨true,hF,hA.part ⟨rfl,rfl,trivial⟩,((hS).JH [0] rfl).rK [0,1] rfl⟩
  ·replace hF:=H3 hc8 hF
   refine dW (vQ (m:=0) Tryz.underlying31 rfl rfl Tryz.sizeOf29 rfl rfl) (bT rfl rfl rfl (by rw [hc8];rfl)) rfl rfl ?_
   refine dW (f7 rfl rfl Tryz.isAgg29 (hS.cell 0 rfl rfl)) (bT rfl rfl rfl (by rw [hc8];rfl)) rfl rfl ?_
   refine dW (l9 (hS.rd 1 rfl) Tryz.underlying29 rfl rfl) (bT rfl rfl rfl (by rw [hc8];rfl)) rfl rfl ?_
   refine dW (aCE rfl rfl rfl) (bT rfl rfl rfl (by rw [hc8];rfl)) rfl rfl ?_
   refine oy (v9 rfl rfl hc8 rfl) rfl<|bD fun a hA=>?_
   exact⟨(l.aU.length:Int) != 9,hF,hA.part ⟨rfl,rfl,trivial⟩,((hS).JH [0] rfl).rK [0,1] rfl⟩
 ·skip
  clear hA hS hF
  rintro a w ⟨x1,hF,hA,hS⟩
  unfold oY at hF
  refine jF hA rfl (fun hc1=>?_) (fun hc1=>?_)
  ·replace hF:=H0 hc1 hF
   refine bI<|bW hA ?_
   clear hA
   refine oa rfl rfl<|bD fun a hA=>vP ?_
   cases hF
   exact fy Tryz.results245 hA rfl hS
  ·replace hF:=H3 hc1 hF
   refine l8<|bI<|bW hA ?_
   clear hA
   refine oy (RT (cells:=#[.bool (false),.bool (false),.bool (false),.bool (false),.bool (false),.bool (false),.bool (false),.bool (false),.bool (false),.bool (false),.bool (false),.bool (false),.bool (false),.bool (false),.bool (false),.bool (false),.bool (false),.bool (false),.bool (false),.bool (false),.bool (false),.bool (false),.bool (false),.bool (false)]) rfl Tryz.zeroValue254 Tryz.underlying254 Tryz.sizeOf4 rfl rfl) rfl<|GS (HZ (cs:=List.map (fun q:Bool=>Value.bool q) [false,false,false,false,false,false,false,false,false,false,false,false,false,false,false,false,false,false,false,false,false,false,false,false]) hS rfl Tryz.zeroValue254 rfl) (bM rfl) rfl rfl ?_
   clear hS
   rintro _ w ⟨b2,rfl,hS⟩
   refine LR (O7 (vs:=[.bool (false),.bool (false),.bool (false),.bool (false),.bool (false),.bool (false),.bool (false),.bool (false),.bool (false),.bool (false),.bool (false),.bool (false),.bool (false),.bool (false),.bool (false),.bool (false),.bool (false),.bool (false),.bool (false),.bool (false),.bool (false),.bool (false),.bool (false),.bool (false)]) hS (i:=1) rfl rfl rfl rfl rfl Tryz.sizeOf254 rfl rfl rfl) (bM rfl) rfl ?_
   clear hS
   intro w hS
   refine bD fun a hA=>bI<|bI<|bW hA ?_
   clear hA
   refine oy (vQ (m:=0) Tryz.underlying31 rfl rfl Tryz.sizeOf29 rfl rfl) rfl<|oy (f7 rfl rfl Tryz.isAgg29 (hS.cell 0 rfl rfl)) rfl<|oy (vQ (m:=0) Tryz.underlying31 rfl rfl Tryz.sizeOf29 rfl rfl) rfl<|oy (f7 rfl rfl Tryz.isAgg29 (hS.cell 0 rfl rfl)) rfl<|GS (aF9 hS (hS.rd 1 rfl) (hS.rd 0 rfl) Tryz.underlying262 aGR rfl rfl rfl) (bM rfl) rfl rfl ?_
   clear hS
   rintro s3 w hS
   obtain⟨hn1,hF⟩:=iC hF
   replace hS:=hS.aSU 2 rfl
   obtain⟨u1,u2,hu1,hl1,hS⟩:=hS.aOS rfl 2 1 0 rfl rfl rfl
   refine S6 (FD Tryz.call281 rfl rfl) (bM rfl) rfl rfl (LK hu1 (II hl1 hn1)) ?_
   rintro s4 w ⟨_,rfl,hk⟩
   replace hS:=hS.after hk;clear hk
   replace hS:=hS.aSU 3 rfl
   replace hS:=hS.aS0 rfl 4 3 rfl rfl
   refine oy (l9 (hS.rd 5 rfl) Tryz.underlying29 rfl rfl) rfl<|om rfl rfl<|bD fun a hA=>?_
   obtain⟨o1,hl2,hF⟩:=pT hF
   refine zB (J:=fun a' w'=>o1=Out.brk ()∧jA 61 [] a'∧St (cG w0) w' [] []) ?_ ?_
   ·refine jB ?_
    refine FA (body:=i3 l) (r:=o1) (fun sg a' w'=>jA 61 [(1,.pointer (some ⟨b1,0,none⟩)),(3,.pointer (some ⟨b2,0,none⟩)),(24,s4),(25,.int .i64 (((l.aU++l.Global).length:Int))),(26,.int .i64 (sg.1))] a'∧St (cG w0) w' [y5 b1 [s1,s2],y5 b2 (List.map (fun q:Bool=>Value.bool q) (sg.2:List Bool))] [wN [s4] (l.aU++l.Global:List aG),wN [s1] (l.Global:List aG),wN [s2] (l.aU:List aG)]) ?_ hl2 ⟨hA.part ⟨rfl,rfl,rfl,rfl,rfl,trivial⟩,((hS).JH [0,1] rfl).rK [5,0,1] rfl⟩
    clear hA hS hl2
    rintro⟨x4,x5⟩ a w q2 ⟨hA,hS⟩ hG2 hr2
    try dsimp only at hA hS
    unfold i3 at hG2
    refine bI<|bW hA ?_
    clear hA
    refine oy (BI rfl rfl rfl) rfl<|bD fun a hA=>bI<|jF hA rfl (fun hc2=>?_) (fun hc2=>?_)
    ·replace hG2:=H0 hc2 hG2
     refine l8<|bI<|jB<|bI<|bW hA ?_
     clear hA
     refine om rfl rfl ?_
     obtain⟨x6,hx6,hG2⟩:=pT hG2
     refine oy (LU (m:=1) (hS.rd 0 rfl) rfl hx6 Tryz.underlying29 Tryz.sizeOf184 rfl rfl rfl) rfl ?_
     obtain⟨s5,hel,hS⟩:=hS.aMZ 0 rfl (iB hx6).2.2
     refine oy (LS rfl rfl Tryz.isAgg184 Tryz.sizeOf184 rfl hel) rfl<|GS (HZ (cs:=[(.slice none 0 0)]) hS rfl Tryz.zeroValue184 rfl) (bM rfl) rfl rfl ?_
     clear hS
     rintro _ w ⟨b3,rfl,hS⟩
     refine oa rfl rfl<|LR (O7 (vs:=[s5]) hS (i:=2) rfl rfl rfl rfl rfl Tryz.sizeOf184 rfl rfl (aQ8 (WQ (hS.rd 3 rfl)) rfl)) (bM rfl) rfl ?_
     clear hS
     intro w hS
     refine bD fun a hA=>bI<|bI<|zB (J:=fun a' w'=>∃(x7:Bool),iZ x4 x5 x6 x7=some q2∧jA 61 [(1,.pointer (some ⟨b1,0,none⟩)),(3,.pointer (some ⟨b2,0,none⟩)),(5,.pointer (some ⟨b3,0,none⟩)),(24,s4),(25,.int .i64 (((l.aU++l.Global).length:Int))),(26,.int .i64 (x4)),(41,.bool (x7))] a'∧St (cG w0) w' [y5 b1 [s1,s2],y5 b2 (List.map (fun q:Bool=>Value.bool q) (x5:List Bool)),y5 b3 [s5]] [wN [s4] (l.aU++l.Global:List aG),wN [s1] (l.Global:List aG),wN [s2] (l.aU:List aG),wN [s5] (x6.aO:List Int)]) ?_ ?_
     ·skip
      refine bW hA ?_
      clear hA
      refine om rfl rfl<|oy (vQ (m:=0) Tryz.underlying31 rfl rfl Tryz.sizeOf29 rfl rfl) rfl<|oy (f7 rfl rfl Tryz.isAgg29 (hS.cell 0 rfl rfl)) rfl<|oy (l9 (hS.rd 2 rfl) Tryz.underlying29 rfl rfl) rfl<|oy (BI rfl rfl rfl) rfl<|om rfl rfl<|DY (s:=36) rfl (fun hc7=>?_) (fun hc7=>?_)
      ·replace hG2:=H0 hc7 hG2
       refine dW (vQ (m:=0) Tryz.underlying184 rfl rfl Tryz.sizeOf23 rfl rfl) (bT rfl rfl rfl (by rw [hc7];rfl)) rfl rfl ?_
       refine dW (f7 rfl rfl Tryz.isAgg23 (hS.cell 2 rfl rfl)) (bT rfl rfl rfl (by rw [hc7];rfl)) rfl rfl ?_
       refine dW (l9 (hS.rd 3 rfl) Tryz.underlying23 rfl rfl) (bT rfl rfl rfl (by rw [hc7];rfl)) rfl rfl ?_
       refine dW (aF3 rfl rfl rfl) (bT rfl rfl rfl (by rw [hc7];rfl)) rfl rfl ?_
       refine oy (rJ rfl rfl hc7 rfl) rfl<|bD fun a hA=>?_
       exact⟨decide (2 < (x6.aO.length:Int)),hG2,hA.part ⟨rfl,rfl,rfl,rfl,rfl,rfl,rfl,trivial⟩,((hS).JH [0,1,2] rfl).rK [0,1,2,3] rfl⟩
      ·replace hG2:=H3 hc7 hG2
       refine d7 (bT rfl rfl rfl (by rw [hc7];rfl)) rfl rfl ?_
       refine d7 (bT rfl rfl rfl (by rw [hc7];rfl)) rfl rfl ?_
       refine d7 (bT rfl rfl rfl (by rw [hc7];rfl)) rfl rfl ?_
       refine d7 (bT rfl rfl rfl (by rw [hc7];rfl)) rfl rfl ?_
       refine oy (v9 rfl rfl hc7 rfl) rfl<|bD fun a hA=>?_
       exact⟨false,hG2,hA.part ⟨rfl,rfl,rfl,rfl,rfl,rfl,rfl,trivial⟩,((hS).JH [0,1,2] rfl).rK [0,1,2,3] rfl⟩
     ·skip
      clear hA hS hG2
      rintro a w ⟨x7,hG2,hA,hS⟩
      unfold iZ at hG2
      refine jF hA rfl (fun hc3=>?_) (fun hc3=>?_)
      ·replace hG2:=H0 hc3 hG2
       refine bI<|bW hA ?_
       clear hA
       refine oa rfl rfl<|bD fun a hA=>vP ?_
       cases hG2
       have ho:=hr2 _ rfl;subst ho
       replace hF:some false=some r:=hF
       cases hF
       exact fy Tryz.results245 hA rfl hS
      ·replace hG2:=H3 hc3 hG2
       refine l8<|bI<|bW hA ?_
       clear hA
       refine oy (vQ (m:=0) Tryz.underlying184 rfl rfl Tryz.sizeOf23 rfl rfl) rfl<|oy (f7 rfl rfl Tryz.isAgg23 (hS.cell 2 rfl rfl)) rfl<|oy (l9 (hS.rd 3 rfl) Tryz.underlying23 rfl rfl) rfl<|om rfl rfl<|bD fun a hA=>?_
       obtain⟨o2,hl3,hG2⟩:=pT hG2
       refine zB (J:=fun a' w'=>∃(x12:List Bool),o2=Out.brk x12∧jA 61 [(1,.pointer (some ⟨b1,0,none⟩)),(3,.pointer (some ⟨b2,0,none⟩)),(24,s4),(25,.int .i64 (((l.aU++l.Global).length:Int))),(26,.int .i64 (x4))] a'∧St (cG w0) w' [y5 b1 [s1,s2],y5 b2 (List.map (fun q:Bool=>Value.bool q) (x12:List Bool))] [wN [s4] (l.aU++l.Global:List aG),wN [s1] (l.Global:List aG),wN [s2] (l.aU:List aG)]) ?_ ?_
       ·refine jB ?_
        refine FA (body:=iY x6) (r:=o2) (fun sg a' w'=>jA 61 [(1,.pointer (some ⟨b1,0,none⟩)),(3,.pointer (some ⟨b2,0,none⟩)),(24,s4),(25,.int .i64 (((l.aU++l.Global).length:Int))),(26,.int .i64 (x4)),(43,s5),(44,.int .i64 ((x6.aO.length:Int))),(45,.int .i64 (sg.1))] a'∧St (cG w0) w' [y5 b1 [s1,s2],y5 b2 (List.map (fun q:Bool=>Value.bool q) (sg.2:List Bool))] [wN [s4] (l.aU++l.Global:List aG),wN [s5] (x6.aO:List Int),wN [s1] (l.Global:List aG),wN [s2] (l.aU:List aG)]) ?_ hl3 ⟨hA.part ⟨rfl,rfl,rfl,rfl,rfl,rfl,rfl,rfl,trivial⟩,((hS).JH [0,1] rfl).rK [0,3,1,2] rfl⟩
        clear hA hS hl3
        rintro⟨x10,x11⟩ a w q4 ⟨hA,hS⟩ hG4 hr4
        try dsimp only at hA hS
        unfold iY at hG4
        refine bI<|bW hA ?_
        clear hA
        refine oy (BI rfl rfl rfl) rfl<|bD fun a hA=>bI<|jF hA rfl (fun hc4=>?_) (fun hc4=>?_)
        ·replace hG4:=H0 hc4 hG4
         refine l8<|bI<|jB<|bI<|bW hA ?_
         clear hA
         obtain⟨x13,hx13,hG4⟩:=pT hG4
         refine oy (LU (m:=1) (hS.rd 1 rfl) rfl hx13 Tryz.underlying23 Tryz.sizeOf3 rfl rfl rfl) rfl<|oy (f7 rfl rfl Tryz.isAgg3 (aKM (aQ6 (hS.rd 1 rfl) (iB hx13).2.2))) rfl<|oa rfl rfl<|bD fun a hA=>bI<|bI<|zB (J:=fun a' w'=>∃(x14:Bool),kW x10 x11 x13 x14=some q4∧jA 61 [(1,.pointer (some ⟨b1,0,none⟩)),(3,.pointer (some ⟨b2,0,none⟩)),(7,.int .i64 (x13)),(24,s4),(25,.int .i64 (((l.aU++l.Global).length:Int))),(26,.int .i64 (x4)),(43,s5),(44,.int .i64 ((x6.aO.length:Int))),(45,.int .i64 (x10)),(56,.bool (x14))] a'∧St (cG w0) w' [y5 b1 [s1,s2],y5 b2 (List.map (fun q:Bool=>Value.bool q) (x11:List Bool))] [wN [s4] (l.aU++l.Global:List aG),wN [s5] (x6.aO:List Int),wN [s1] (l.Global:List aG),wN [s2] (l.aU:List aG)]) ?_ ?_
         ·skip
          refine bW hA ?_
          clear hA
          refine om rfl rfl ?_
          obtain⟨x16,hx16,hG4⟩:=pT hG4
          refine S6 (FD Tryz.call264 rfl rfl) (bM rfl) rfl rfl (aAA (slot:=x13) hx16) ?_
          rintro _ w ⟨rfl,hk⟩
          replace hS:=hS.after hk;clear hk
          refine oy (WH rfl rfl) rfl<|om rfl rfl<|DY (s:=52) rfl (fun hc6=>?_) (fun hc6=>?_)
          ·replace hG4:=H0 hc6 hG4
           refine d7 (bT rfl rfl rfl (by rw [hc6];rfl)) rfl rfl ?_
           refine d7 (bT rfl rfl rfl (by rw [hc6];rfl)) rfl rfl ?_
           refine d7 (bT rfl rfl rfl (by rw [hc6];rfl)) rfl rfl ?_
           refine oy (rJ rfl rfl hc6 rfl) rfl<|bD fun a hA=>?_
           exact⟨true,hG4,hA.part ⟨rfl,rfl,rfl,rfl,rfl,rfl,rfl,rfl,rfl,rfl,trivial⟩,((hS).JH [0,1] rfl).rK [0,1,2,3] rfl⟩
          ·replace hG4:=H3 hc6 hG4
           refine dW (lD rfl rfl) (bT rfl rfl rfl (by rw [hc6];rfl)) rfl rfl ?_
           obtain⟨hn3,hG4⟩:=iC hG4
           refine dW (VW Tryz.underlying254 Tryz.sizeOf4 hn3 rfl rfl rfl) (bT rfl rfl rfl (by rw [hc6];rfl)) rfl rfl ?_
           obtain⟨x17,hx17,hG4⟩:=pT hG4
           refine dW (f7 rfl rfl Tryz.isAgg4 (hS.aHO 1 rfl hx17)) (bT rfl rfl rfl (by rw [hc6];rfl)) rfl rfl ?_
           refine oy (v9 rfl rfl hc6 rfl) rfl<|bD fun a hA=>?_
           exact⟨x17,hG4,hA.part ⟨rfl,rfl,rfl,rfl,rfl,rfl,rfl,rfl,rfl,rfl,trivial⟩,((hS).JH [0,1] rfl).rK [0,1,2,3] rfl⟩
         ·skip
          clear hA hS hG4
          rintro a w ⟨x14,hG4,hA,hS⟩
          unfold kW at hG4
          refine jF hA rfl (fun hc5=>?_) (fun hc5=>?_)
          ·replace hG4:=H0 hc5 hG4
           refine bI<|bW hA ?_
           clear hA
           refine oa rfl rfl<|bD fun a hA=>vP ?_
           cases hG4
           have ho:=hr4 _ rfl;subst ho
           replace hG2:some (.stop (Out.ret false))=some q2:=hG2
           cases hG2
           have ho:=hr2 _ rfl;subst ho
           replace hF:some false=some r:=hF
           cases hF
           exact fy Tryz.results245 hA rfl hS
          ·replace hG4:=H3 hc5 hG4
           refine l8<|bW hA ?_
           clear hA
           refine om rfl rfl ?_
           obtain⟨hn2,hG4⟩:=iC hG4
           refine oy (VW Tryz.underlying254 Tryz.sizeOf4 hn2 rfl rfl rfl) rfl ?_
           obtain⟨x15,hx15,hG4⟩:=pT hG4
           refine LR (aK4 (xd:=true) hS (m:=1) rfl hx15 Tryz.sizeOf4 rfl rfl rfl rfl rfl rfl) (bM rfl) rfl ?_
           clear hS
           intro w hS
           refine bD fun a hA=>bW hA ?_
           clear hA
           refine oy (GU rfl rfl rfl) rfl<|om rfl rfl<|bD fun a hA=>?_
           cases hG4
           exact⟨_,rfl,⟨hA.part ⟨rfl,rfl,rfl,rfl,rfl,rfl,rfl,rfl,trivial⟩,((hS).JH [0,1] rfl).rK [0,1,2,3] rfl⟩⟩
        ·replace hG4:=H3 hc4 hG4
         refine E9<|y9 ?_
         cases hG4
         have ho:=hr4 _ rfl;subst ho
         exact⟨x11,rfl,hA.part ⟨rfl,rfl,rfl,rfl,rfl,trivial⟩,((hS).JH [0,1] rfl).rK [0,2,3] rfl⟩
       ·skip
        clear hA hS hl3
        rintro a w ⟨x12,heq,hA,hS⟩
        replace hG2:uP x4 x12=some q2:=by rw [heq] at hG2;exact hG2
        clear heq
        unfold uP at hG2
        refine bW hA ?_
        clear hA
        refine oy (GU rfl rfl rfl) rfl<|om rfl rfl<|bD fun a hA=>?_
        cases hG2
        exact⟨_,rfl,⟨hA.part ⟨rfl,rfl,rfl,rfl,rfl,trivial⟩,((hS).JH [0,1] rfl).rK [0,1,2] rfl⟩⟩
    ·replace hG2:=H3 hc2 hG2
     refine E9<|y9 ?_
     cases hG2
     have ho:=hr2 _ rfl;subst ho
     exact⟨rfl,hA.part trivial,((hS).JH [] rfl).rK [] rfl⟩
   ·skip
    clear hA hS hl2
    rintro a w ⟨heq,hA,hS⟩
    replace hF:BP=some r:=by rw [heq] at hF;exact hF
    clear heq
    unfold BP at hF
    refine bI<|bW hA ?_
    clear hA
    refine oa rfl rfl<|bD fun a hA=>vP ?_
    cases hF
    exact fy Tryz.results245 hA rfl hS
theorem UE{w0:World}{h:Int}{r:Bool}(hF:fA h=some r) :
    Calls Tryz.prog 106 #[.int .i64 (h)] w0 (Ret fun v w'=>v=.bool (r)∧St (cG w0) w' [] []):=by
 have hS:St (cG w0) w0 [] []:=St.enter (by
   intro f hf;cases hf)
 refine wA (args:=[_]) Tryz.func106 rfl Tryz.ntmps106 rfl ?_
 unfold fA at hF
 intro a hA
 refine bI<|bW hA ?_
 clear hA
 refine oa rfl rfl<|bD fun a hA=>bI<|zB (J:=fun a' w'=>∃(x1:Bool),jZ x1=some r∧jA 10 [(2,.bool (x1))] a'∧St (cG w0) w' [] []) ?_ ?_
 ·skip
  refine bW hA ?_
  clear hA
  refine om rfl rfl ?_
  obtain⟨x2,hx2,hF⟩:=pT hF
  refine S6 (FD Tryz.call52 rfl rfl) (bM rfl) rfl rfl (HE (n:=h) (low:=32) (high:=223) hx2) ?_
  rintro _ w ⟨rfl,hk⟩
  replace hS:=hS.after hk;clear hk
  refine om rfl rfl<|DY (s:=5) rfl (fun hc1=>?_) (fun hc1=>?_)
  ·replace hF:=H0 hc1 hF
   refine dW (lD rfl rfl) (bT rfl rfl rfl (by rw [hc1];rfl)) rfl rfl ?_
   refine dW (WI rfl rfl rfl (by decide)) (bT rfl rfl rfl (by rw [hc1];rfl)) rfl rfl ?_
   refine dW (BI rfl rfl rfl) (bT rfl rfl rfl (by rw [hc1];rfl)) rfl rfl ?_
   refine oy (rJ rfl rfl hc1 rfl) rfl<|oa rfl rfl<|bD fun a hA=>?_
   exact⟨decide ((Int.tmod h 32) < 24),hF,hA.part ⟨rfl,trivial⟩,((hS).JH [] rfl).rK [] rfl⟩
  ·replace hF:=H3 hc1 hF
   refine d7 (bT rfl rfl rfl (by rw [hc1];rfl)) rfl rfl ?_
   refine d7 (bT rfl rfl rfl (by rw [hc1];rfl)) rfl rfl ?_
   refine d7 (bT rfl rfl rfl (by rw [hc1];rfl)) rfl rfl ?_
   refine oy (v9 rfl rfl hc1 rfl) rfl<|oa rfl rfl<|bD fun a hA=>?_
   exact⟨false,hF,hA.part ⟨rfl,trivial⟩,((hS).JH [] rfl).rK [] rfl⟩
 ·skip
  clear hA hS hF
  rintro a w ⟨x1,hF,hA,hS⟩
  unfold jZ at hF
  refine vP ?_
  cases hF
  exact fy Tryz.results106 hA rfl hS
theorem SI{w0:World}{l:List aN}{s1:Value}{r:Int}(h1:aL.rd (KL w0) w0 [s1] (l:List aN))(hF:qS l=some r) :
    Calls Tryz.prog 288 #[s1] w0 (Ret fun v w'=>v=.int .i64 (r)∧St (cG w0) w' [] []):=by
 have hS:St (cG w0) w0 [] [wN [s1] (l:List aN)]:=St.enter (by
   intro f hf
   simp only [List.mem_cons,List.not_mem_nil,or_false] at hf
   subst hf;exact h1)
 refine wA (args:=[_]) Tryz.func288 rfl Tryz.ntmps288 rfl ?_
 unfold qS at hF
 intro a hA
 refine bI<|bW hA ?_
 clear hA
 refine oa rfl rfl<|bD fun a hA=>bI<|bW hA ?_
 clear hA
 refine oa rfl rfl<|bD fun a hA=>bI<|bI<|bW hA ?_
 clear hA
 refine om rfl rfl<|oy (l9 (hS.rd 0 rfl) Tryz.underlying37 rfl rfl) rfl<|om rfl rfl<|bD fun a hA=>?_
 obtain⟨o1,hl1,hF⟩:=pT hF
 refine zB (J:=fun a' w'=>∃(x5:Int),o1=x5∧jA 19 [(3,.int .i64 (x5))] a'∧St (cG w0) w' [] []) ?_ ?_
 ·refine jB ?_
  refine FA (body:=f9 l) (r:=o1) (fun sg a' w'=>jA 19 [(3,.int .i64 (sg.1)),(6,s1),(7,.int .i64 ((l.length:Int))),(8,.int .i64 (sg.2))] a'∧St (cG w0) w' [] [wN [s1] (l:List aN)]) ?_ hl1 ⟨hA.part ⟨rfl,rfl,rfl,rfl,trivial⟩,((hS).JH [] rfl).rK [0] rfl⟩
  clear hA hS hl1
  rintro⟨x3,x4⟩ a w q1 ⟨hA,hS⟩ hG1 hr1
  try dsimp only at hA hS
  unfold f9 at hG1
  refine bI<|bW hA ?_
  clear hA
  refine oy (BI rfl rfl rfl) rfl<|bD fun a hA=>bI<|jF hA rfl (fun hc1=>?_) (fun hc1=>?_)
  ·replace hG1:=H0 hc1 hG1
   refine l8<|bI<|jB<|bI<|bW hA ?_
   clear hA
   obtain⟨x6,hx6,hG1⟩:=pT hG1
   refine oy (LU (m:=1) (hS.rd 0 rfl) rfl hx6 Tryz.underlying37 Tryz.sizeOf143 rfl rfl rfl) rfl ?_
   obtain⟨s2,hel,hS⟩:=hS.aE7 0 rfl (iB hx6).2.2
   refine oy (LS rfl rfl Tryz.isAgg143 Tryz.sizeOf143 rfl hel) rfl<|GS (HZ (cs:=[(.slice none 0 0)]) hS rfl Tryz.zeroValue143 rfl) (bM rfl) rfl rfl ?_
   clear hS
   rintro _ w ⟨b1,rfl,hS⟩
   refine LR (O7 (vs:=[s2]) hS (i:=0) rfl rfl rfl rfl rfl Tryz.sizeOf143 rfl rfl (aQ8 (WQ (hS.rd 1 rfl)) rfl)) (bM rfl) rfl ?_
   clear hS
   intro w hS
   refine bD fun a hA=>bW hA ?_
   clear hA
   refine om rfl rfl<|oy (vQ (m:=0) Tryz.underlying143 rfl rfl Tryz.sizeOf141 rfl rfl) rfl<|oy (f7 rfl rfl Tryz.isAgg141 (hS.cell 0 rfl rfl)) rfl<|oy (l9 (hS.rd 1 rfl) Tryz.underlying141 rfl rfl) rfl<|oy (GU rfl rfl rfl) rfl<|oa rfl rfl<|bD fun a hA=>bW hA ?_
   clear hA
   refine oy (GU rfl rfl rfl) rfl<|om rfl rfl<|bD fun a hA=>?_
   cases hG1
   exact⟨_,rfl,⟨hA.part ⟨rfl,rfl,rfl,rfl,trivial⟩,((hS).JH [] rfl).rK [0] rfl⟩⟩
  ·replace hG1:=H3 hc1 hG1
   refine E9<|y9 ?_
   cases hG1
   have ho:=hr1 _ rfl;subst ho
   exact⟨x3,rfl,hA.part ⟨rfl,trivial⟩,((hS).JH [] rfl).rK [] rfl⟩
 ·skip
  clear hA hS hl1
  rintro a w ⟨x5,heq,hA,hS⟩
  replace hF:xP x5=some r:=by rw [heq] at hF;exact hF
  clear heq
  unfold xP at hF
  refine bI<|bW hA ?_
  clear hA
  refine om rfl rfl<|oa rfl rfl<|bD fun a hA=>vP ?_
  cases hF
  exact fy Tryz.results288 hA rfl hS
theorem XU{w0:World}{l:List aN}{s1:Value}{r:Bool}(h1:aL.rd (KL w0) w0 [s1] (l:List aN))(hF:lL l=some r) :
    Calls Tryz.prog 256 #[s1] w0 (Ret fun v w'=>v=.bool (r)∧St (cG w0) w' [] []):=by
 have hS:St (cG w0) w0 [] [wN [s1] (l:List aN)]:=St.enter (by
   intro f hf
   simp only [List.mem_cons,List.not_mem_nil,or_false] at hf
   subst hf;exact h1)
 refine wA (args:=[_]) Tryz.func256 rfl Tryz.ntmps256 rfl ?_
 unfold lL at hF
 intro a hA
 refine bI<|bW hA ?_
 clear hA
 refine oa rfl rfl<|bD fun a hA=>bI<|bI<|bW hA ?_
 clear hA
 refine om rfl rfl<|oy (l9 (hS.rd 0 rfl) Tryz.underlying37 rfl rfl) rfl<|oy (aCE rfl rfl rfl) rfl<|bD fun a hA=>jF hA rfl (fun hc1=>?_) (fun hc1=>?_)
 ·replace hF:=H0 hc1 hF
  refine bI<|bW hA ?_
  clear hA
  refine oa rfl rfl<|bD fun a hA=>vP ?_
  cases hF
  exact fy Tryz.results256 hA rfl hS
 ·replace hF:=H3 hc1 hF
  refine l8<|bI<|bW hA ?_
  clear hA
  refine oy (RT (cells:=#[.bool (false),.bool (false),.bool (false),.bool (false),.bool (false),.bool (false),.bool (false),.bool (false),.bool (false),.bool (false),.bool (false),.bool (false),.bool (false),.bool (false),.bool (false),.bool (false),.bool (false),.bool (false),.bool (false),.bool (false),.bool (false),.bool (false),.bool (false),.bool (false)]) rfl Tryz.zeroValue254 Tryz.underlying254 Tryz.sizeOf4 rfl rfl) rfl<|GS (HZ (cs:=List.map (fun q:Bool=>Value.bool q) [false,false,false,false,false,false,false,false,false,false,false,false,false,false,false,false,false,false,false,false,false,false,false,false]) hS rfl Tryz.zeroValue254 rfl) (bM rfl) rfl rfl ?_
  clear hS
  rintro _ w ⟨b1,rfl,hS⟩
  refine LR (O7 (vs:=[.bool (false),.bool (false),.bool (false),.bool (false),.bool (false),.bool (false),.bool (false),.bool (false),.bool (false),.bool (false),.bool (false),.bool (false),.bool (false),.bool (false),.bool (false),.bool (false),.bool (false),.bool (false),.bool (false),.bool (false),.bool (false),.bool (false),.bool (false),.bool (false)]) hS (i:=0) rfl rfl rfl rfl rfl Tryz.sizeOf254 rfl rfl rfl) (bM rfl) rfl ?_
  clear hS
  intro w hS
  refine bD fun a hA=>bI<|bI<|bW hA ?_
  clear hA
  refine om rfl rfl<|oy (l9 (hS.rd 0 rfl) Tryz.underlying37 rfl rfl) rfl<|om rfl rfl<|bD fun a hA=>?_
  obtain⟨o1,hl1,hF⟩:=pT hF
  refine zB (J:=fun a' w'=>o1=Out.brk ()∧jA 51 [(0,s1)] a'∧St (cG w0) w' [] [wN [s1] (l:List aN)]) ?_ ?_
  ·refine jB ?_
   refine FA (body:=i5 l) (r:=o1) (fun sg a' w'=>jA 51 [(0,s1),(3,.pointer (some ⟨b1,0,none⟩)),(12,s1),(13,.int .i64 ((l.length:Int))),(14,.int .i64 (sg.1))] a'∧St (cG w0) w' [y5 b1 (List.map (fun q:Bool=>Value.bool q) (sg.2:List Bool))] [wN [s1] (l:List aN)]) ?_ hl1 ⟨hA.part ⟨rfl,rfl,rfl,rfl,rfl,trivial⟩,((hS).JH [0] rfl).rK [0] rfl⟩
   clear hA hS hl1
   rintro⟨x3,x4⟩ a w q1 ⟨hA,hS⟩ hG1 hr1
   try dsimp only at hA hS
   unfold i5 at hG1
   refine bI<|bW hA ?_
   clear hA
   refine oy (BI rfl rfl rfl) rfl<|bD fun a hA=>bI<|jF hA rfl (fun hc2=>?_) (fun hc2=>?_)
   ·replace hG1:=H0 hc2 hG1
    refine l8<|bI<|jB<|bI<|bW hA ?_
    clear hA
    obtain⟨x6,hx6,hG1⟩:=pT hG1
    refine oy (LU (m:=1) (hS.rd 0 rfl) rfl hx6 Tryz.underlying37 Tryz.sizeOf143 rfl rfl rfl) rfl ?_
    obtain⟨s2,hel,hS⟩:=hS.aE7 0 rfl (iB hx6).2.2
    refine oy (LS rfl rfl Tryz.isAgg143 Tryz.sizeOf143 rfl hel) rfl<|GS (HZ (cs:=[(.slice none 0 0)]) hS rfl Tryz.zeroValue143 rfl) (bM rfl) rfl rfl ?_
    clear hS
    rintro _ w ⟨b2,rfl,hS⟩
    refine LR (O7 (vs:=[s2]) hS (i:=1) rfl rfl rfl rfl rfl Tryz.sizeOf143 rfl rfl (aQ8 (WQ (hS.rd 1 rfl)) rfl)) (bM rfl) rfl ?_
    clear hS
    intro w hS
    refine bD fun a hA=>bI<|bW hA ?_
    clear hA
    refine oy (vQ (m:=0) Tryz.underlying143 rfl rfl Tryz.sizeOf141 rfl rfl) rfl<|oy (f7 rfl rfl Tryz.isAgg141 (hS.cell 1 rfl rfl)) rfl<|oy (l9 (hS.rd 1 rfl) Tryz.underlying141 rfl rfl) rfl<|om rfl rfl<|bD fun a hA=>?_
    obtain⟨o2,hl2,hG1⟩:=pT hG1
    refine zB (J:=fun a' w'=>∃(x11:List Bool),o2=Out.brk x11∧jA 51 [(0,s1),(3,.pointer (some ⟨b1,0,none⟩)),(12,s1),(13,.int .i64 ((l.length:Int))),(14,.int .i64 (x3))] a'∧St (cG w0) w' [y5 b1 (List.map (fun q:Bool=>Value.bool q) (x11:List Bool))] [wN [s1] (l:List aN)]) ?_ ?_
    ·refine jB ?_
     refine FA (body:=i4 x6) (r:=o2) (fun sg a' w'=>jA 51 [(0,s1),(3,.pointer (some ⟨b1,0,none⟩)),(12,s1),(13,.int .i64 ((l.length:Int))),(14,.int .i64 (x3)),(19,s2),(20,.int .i64 ((x6.Rows.length:Int))),(21,.int .i64 (sg.1))] a'∧St (cG w0) w' [y5 b1 (List.map (fun q:Bool=>Value.bool q) (sg.2:List Bool))] [wN [s1] (l:List aN),wN [s2] (x6.Rows:List bY)]) ?_ hl2 ⟨hA.part ⟨rfl,rfl,rfl,rfl,rfl,rfl,rfl,rfl,trivial⟩,((hS).JH [0] rfl).rK [0,1] rfl⟩
     clear hA hS hl2
     rintro⟨x9,x10⟩ a w q2 ⟨hA,hS⟩ hG2 hr2
     try dsimp only at hA hS
     unfold i4 at hG2
     refine bI<|bW hA ?_
     clear hA
     refine oy (BI rfl rfl rfl) rfl<|bD fun a hA=>bI<|jF hA rfl (fun hc3=>?_) (fun hc3=>?_)
     ·replace hG2:=H0 hc3 hG2
      refine l8<|bI<|jB<|bI<|bW hA ?_
      clear hA
      obtain⟨x12,hx12,hG2⟩:=pT hG2
      refine oy (LU (m:=2) (hS.rd 1 rfl) rfl hx12 Tryz.underlying141 Tryz.sizeOf180 rfl rfl rfl) rfl<|oy (LS rfl rfl Tryz.isAgg180 Tryz.sizeOf180 rfl (aPM (hS.rd 1 rfl) (iB hx12).2.2)) rfl<|GS (HZ (cs:=[.int .i64 (0),.int .i64 (0)]) hS rfl Tryz.zeroValue180 rfl) (bM rfl) rfl rfl ?_
      clear hS
      rintro _ w ⟨b3,rfl,hS⟩
      refine LR (O7 (vs:=[.int .i64 (x12.Handle),.int .i64 (x12.aJ)]) hS (i:=1) rfl rfl rfl rfl rfl Tryz.sizeOf180 rfl rfl rfl) (bM rfl) rfl ?_
      clear hS
      intro w hS
      refine bD fun a hA=>bI<|bI<|zB (J:=fun a' w'=>∃(x13:Bool),gI x9 x10 x12 x13=some q2∧jA 51 [(0,s1),(3,.pointer (some ⟨b1,0,none⟩)),(7,.pointer (some ⟨b3,0,none⟩)),(12,s1),(13,.int .i64 ((l.length:Int))),(14,.int .i64 (x3)),(19,s2),(20,.int .i64 ((x6.Rows.length:Int))),(21,.int .i64 (x9)),(41,.bool (x13))] a'∧St (cG w0) w' [y5 b1 (List.map (fun q:Bool=>Value.bool q) (x10:List Bool)),y5 b3 [.int .i64 (x12.Handle),.int .i64 (x12.aJ)]] [wN [s1] (l:List aN),wN [s2] (x6.Rows:List bY)]) ?_ ?_
      ·skip
       refine bW hA ?_
       clear hA
       refine oy (vQ (m:=0) Tryz.underlying180 rfl rfl Tryz.sizeOf3 rfl rfl) rfl<|oy (f7 rfl rfl Tryz.isAgg3 (hS.cell 1 rfl rfl)) rfl ?_
       obtain⟨x15,hx15,hG2⟩:=pT hG2
       refine S6 (FD Tryz.call106 rfl rfl) (bM rfl) rfl rfl (UE (h:=x12.Handle) hx15) ?_
       rintro _ w ⟨rfl,hk⟩
       replace hS:=hS.after hk;clear hk
       refine oy (WH rfl rfl) rfl<|om rfl rfl<|DY (s:=29) rfl (fun hc5=>?_) (fun hc5=>?_)
       ·replace hG2:=H0 hc5 hG2
        refine d7 (bT rfl rfl rfl (by rw [hc5];rfl)) rfl rfl ?_
        refine d7 (bT rfl rfl rfl (by rw [hc5];rfl)) rfl rfl ?_
        refine d7 (bT rfl rfl rfl (by rw [hc5];rfl)) rfl rfl ?_
        refine d7 (bT rfl rfl rfl (by rw [hc5];rfl)) rfl rfl ?_
        refine oy (rJ rfl rfl hc5 rfl) rfl<|om rfl rfl<|d7 (bT rfl rfl rfl rfl) rfl rfl<|d7 (bT rfl rfl rfl rfl) rfl rfl<|d7 (bT rfl rfl rfl rfl) rfl rfl<|d7 (bT rfl rfl rfl rfl) rfl rfl<|d7 (bT rfl rfl rfl rfl) rfl rfl<|oy (rJ rfl rfl rfl rfl) rfl<|bD fun a hA=>?_
        exact⟨true,hG2,hA.part ⟨rfl,rfl,rfl,rfl,rfl,rfl,rfl,rfl,rfl,rfl,trivial⟩,((hS).JH [0,1] rfl).rK [0,1] rfl⟩
       ·replace hG2:=H3 hc5 hG2
        refine dW (vQ (m:=0) Tryz.underlying180 rfl rfl Tryz.sizeOf3 rfl rfl) (bT rfl rfl rfl (by rw [hc5];rfl)) rfl rfl ?_
        refine dW (f7 rfl rfl Tryz.isAgg3 (hS.cell 1 rfl rfl)) (bT rfl rfl rfl (by rw [hc5];rfl)) rfl rfl ?_
        obtain⟨x16,hx16,hG2⟩:=pT hG2
        refine S6 (FD Tryz.call52 rfl rfl) (bT rfl rfl rfl (by rw [hc5];rfl)) rfl rfl (HE (n:=x12.aJ) (low:=0) (high:=100000) hx16) ?_
        rintro _ w ⟨rfl,hk⟩
        replace hS:=hS.after hk;clear hk
        refine dW (WH rfl rfl) (bT rfl rfl rfl (by rw [hc5];rfl)) rfl rfl ?_
        refine oy (v9 rfl rfl hc5 rfl) rfl<|om rfl rfl<|DY (s:=35) rfl (fun hc6=>?_) (fun hc6=>?_)
        ·replace hG2:=H0 hc6 hG2
         refine d7 (bT rfl rfl rfl (by rw [hc6];rfl)) rfl rfl ?_
         refine d7 (bT rfl rfl rfl (by rw [hc6];rfl)) rfl rfl ?_
         refine d7 (bT rfl rfl rfl (by rw [hc6];rfl)) rfl rfl ?_
         refine d7 (bT rfl rfl rfl (by rw [hc6];rfl)) rfl rfl ?_
         refine d7 (bT rfl rfl rfl (by rw [hc6];rfl)) rfl rfl ?_
         refine oy (rJ rfl rfl hc6 rfl) rfl<|bD fun a hA=>?_
         exact⟨true,hG2,hA.part ⟨rfl,rfl,rfl,rfl,rfl,rfl,rfl,rfl,rfl,rfl,trivial⟩,((hS).JH [0,1] rfl).rK [0,1] rfl⟩
        ·replace hG2:=H3 hc6 hG2
         refine dW (vQ (m:=0) Tryz.underlying180 rfl rfl Tryz.sizeOf3 rfl rfl) (bT rfl rfl rfl (by rw [hc6];rfl)) rfl rfl ?_
         refine dW (f7 rfl rfl Tryz.isAgg3 (hS.cell 1 rfl rfl)) (bT rfl rfl rfl (by rw [hc6];rfl)) rfl rfl ?_
         refine dW (WI rfl rfl rfl (by decide)) (bT rfl rfl rfl (by rw [hc6];rfl)) rfl rfl ?_
         obtain⟨hn2,hG2⟩:=iC hG2
         refine dW (VW Tryz.underlying254 Tryz.sizeOf4 hn2 rfl rfl rfl) (bT rfl rfl rfl (by rw [hc6];rfl)) rfl rfl ?_
         obtain⟨x17,hx17,hG2⟩:=pT hG2
         refine dW (f7 rfl rfl Tryz.isAgg4 (hS.aHO 0 rfl hx17)) (bT rfl rfl rfl (by rw [hc6];rfl)) rfl rfl ?_
         refine oy (v9 rfl rfl hc6 rfl) rfl<|bD fun a hA=>?_
         exact⟨x17,hG2,hA.part ⟨rfl,rfl,rfl,rfl,rfl,rfl,rfl,rfl,rfl,rfl,trivial⟩,((hS).JH [0,1] rfl).rK [0,1] rfl⟩
      ·skip
       clear hA hS hG2
       rintro a w ⟨x13,hG2,hA,hS⟩
       unfold gI at hG2
       refine jF hA rfl (fun hc4=>?_) (fun hc4=>?_)
       ·replace hG2:=H0 hc4 hG2
        refine bI<|bW hA ?_
        clear hA
        refine oa rfl rfl<|bD fun a hA=>vP ?_
        cases hG2
        have ho:=hr2 _ rfl;subst ho
        replace hG1:some (.stop (Out.ret false))=some q1:=hG1
        cases hG1
        have ho:=hr1 _ rfl;subst ho
        replace hF:some false=some r:=hF
        cases hF
        exact fy Tryz.results256 hA rfl hS
       ·replace hG2:=H3 hc4 hG2
        refine l8<|bW hA ?_
        clear hA
        refine oy (vQ (m:=0) Tryz.underlying180 rfl rfl Tryz.sizeOf3 rfl rfl) rfl<|oy (f7 rfl rfl Tryz.isAgg3 (hS.cell 1 rfl rfl)) rfl<|oy (WI rfl rfl rfl (by decide)) rfl ?_
        obtain⟨hn1,hG2⟩:=iC hG2
        refine oy (VW Tryz.underlying254 Tryz.sizeOf4 hn1 rfl rfl rfl) rfl ?_
        obtain⟨x14,hx14,hG2⟩:=pT hG2
        refine LR (aK4 (xd:=true) hS (m:=0) rfl hx14 Tryz.sizeOf4 rfl rfl rfl rfl rfl rfl) (bM rfl) rfl ?_
        clear hS
        intro w hS
        refine bD fun a hA=>bW hA ?_
        clear hA
        refine oy (GU rfl rfl rfl) rfl<|om rfl rfl<|bD fun a hA=>?_
        cases hG2
        exact⟨_,rfl,⟨hA.part ⟨rfl,rfl,rfl,rfl,rfl,rfl,rfl,rfl,trivial⟩,((hS).JH [0] rfl).rK [0,1] rfl⟩⟩
     ·replace hG2:=H3 hc3 hG2
      refine E9<|y9 ?_
      cases hG2
      have ho:=hr2 _ rfl;subst ho
      exact⟨x10,rfl,hA.part ⟨rfl,rfl,rfl,rfl,rfl,trivial⟩,((hS).JH [0] rfl).rK [0] rfl⟩
    ·skip
     clear hA hS hl2
     rintro a w ⟨x11,heq,hA,hS⟩
     replace hG1:uV x3 x11=some q1:=by rw [heq] at hG1;exact hG1
     clear heq
     unfold uV at hG1
     refine bW hA ?_
     clear hA
     refine oy (GU rfl rfl rfl) rfl<|om rfl rfl<|bD fun a hA=>?_
     cases hG1
     exact⟨_,rfl,⟨hA.part ⟨rfl,rfl,rfl,rfl,rfl,trivial⟩,((hS).JH [0] rfl).rK [0] rfl⟩⟩
   ·replace hG1:=H3 hc2 hG1
    refine E9<|y9 ?_
    cases hG1
    have ho:=hr1 _ rfl;subst ho
    exact⟨rfl,hA.part ⟨rfl,trivial⟩,((hS).JH [] rfl).rK [0] rfl⟩
  ·skip
   clear hA hS hl1
   rintro a w ⟨heq,hA,hS⟩
   replace hF:uU l=some r:=by rw [heq] at hF;exact hF
   clear heq
   unfold uU at hF
   refine bI<|bW hA ?_
   clear hA
   refine om rfl rfl ?_
   obtain⟨x5,hx5,hF⟩:=pT hF
   refine S6 (FD Tryz.call288 rfl rfl) (bM rfl) rfl rfl (SI (l:=l) (hS.rd 0 rfl) hx5) ?_
   rintro _ w ⟨rfl,hk⟩
   replace hS:=hS.after hk;clear hk
   refine oy (aF2 rfl rfl rfl) rfl<|oa rfl rfl<|bD fun a hA=>vP ?_
   cases hF
   exact fy Tryz.results256 hA rfl hS
end Go.Proofs.YtgjpcfdgefopgabGreat
end
