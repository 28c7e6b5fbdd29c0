import Derived.Test.YtabnjpbikjfhoaaGreatXNB
import Derived.Shelf.Slices.CompactI
set_option linter.unusedVariables false
set_option linter.unusedSimpArgs false
set_option linter.unusedSectionVars false
set_option linter.constructorNameAsVariable false
set_option linter.unnecessarySimpa false
noncomputable section
namespace Go.Gv
theorem aYP{P:Program}{f:FuncId}{κ:Ctx}{xs:List SV}{ρ:Type}{sv:ρ→SV}{r:ρ}(hcall:∀args w,(callFunc f args).run P w=.ok (.enter f args) w)
    (H:(∀f:Fact,f.P κ.S0 κ.w0→f.P (OW κ.w0) κ.w0)→∀vs,aY (gC []) xs=some vs→Calls P f vs.toArray κ.w0 (Ret fun v w'=>gC [] (sv r)=some v∧St (cR κ.w0) w' [] [])):Fn0 P f κ xs sv r:=
  ⟨hcall,fun vs hv hS=>Calls.mono (H (fun f hf=>f.mono hf fun b o hb=>hS.s0 b o hb) vs hv) fun en w' ⟨v,h1,h2,h3⟩=>⟨v,h1,(),h2,hS.aP0 h3.keep⟩⟩
noncomputable section
variable {P:Program} {T:TT} {hT:GM P T} {n:Nat} {c:Ctx} {B0:Bl} {N:Act→World→Prop} {X:Nat→Act→World→Prop} {Q:Act→World→Prop} {K K':List Fr} {m m':Nat} {e e':SE} {L L' Lv:List Ch} {cf cf' cf1 cf2:wP} {o:Oper} {d:Nat}
theorem un{α:Type}[aJ α](j:Nat)(ks:List Nat)(ps qs:List (Nat×Nat)){s:AC}{n0:Nat}{l:List α}(hj:L[j]?=some (.o (fW [s.v n0] l)))(hz:gO j cf.AO=true)(hk:aY (DF e) ks=some (ks.map fun _=>.h s n0))(hp:aY (atE (ovh (.h s l.length) e ks)) ps=some (ps.map fun _=>.h s n0))(hq:aY (atL (L.set j (ow s l))) qs=some (qs.map fun _=>.h s n0))(ha:(dP (qs.map (·.1)) && (qs.map (·.1)).all fun j=>gO j cf.AO)=true)
    (k:l.length=n0→G (.mk P T hT n c B0 N X Q) K m (rhE (.h s l.length) (ovh (.h s l.length) e ks) ps) (rhL (.h s l.length) (L.set j (ow s l)) qs) cf):G (.mk P T hT n c B0 N X Q) K m e L cf:=by
  rw [Bool.and_eq_true] at ha
  refine chg (fun _:PLift (l.length=n0)=>m) (fun _=>rhE (.h s l.length) (ovh (.h s l.length) e ks) ps) (fun _=>rhL (.h s l.length) (L.set j (ow s l)) qs) (fun B a w hm hA hS=>?_) (fun _=>T6 (A5 hz) ha.2) (fun h=>k h.down)
  have hn:l.length=n0:=by
    obtain⟨⟨R,s1,s2⟩,s0⟩:=hS
    obtain⟨F,hF⟩:=s1.chunk (ch:=fW [s.v n0] l) j (by simp [hj,j5])
    obtain⟨ad,cp,h1,h2⟩:=HZ (show aJ.own w [s.v n0] l F from hF)
    simp only [AC.v,Value.slice.injEq] at h1
    exact h1.2.1.symm
  subst hn
  have hS':mP c w B (L.set j (ow s l)):=by
    have:L.set j (ow s l)=L:=by
      obtain⟨hl,he⟩:=List.getElem?_eq_some_iff.1 hj
      show L.set j (.o (fW [s.v l.length] l))=L
      rw [←he];exact List.set_getElem_self hl
    rw [this];exact hS
  obtain⟨h1,h2⟩:=aLY s rfl hp hq ha.1 (aFW ks hk hA) hS'
  exact⟨⟨rfl⟩,[],by simpa using hm,by simpa using h1,by simpa using h2⟩
theorem rr(s:AC){n0 n1:Nat}(hn:n0=n1)(ks:List Nat)(ps qs:List (Nat×Nat))(hk:aY (DF e) ks=some (ks.map fun _=>.h s n0))(hp:aY (atE (ovh (.h s n1) e ks)) ps=some (ps.map fun _=>.h s n0))(hq:aY (atL L) qs=some (qs.map fun _=>.h s n0))(ha:(dP (qs.map (·.1)) && (qs.map (·.1)).all fun j=>gO j cf.AO)=true)
    (k:G (.mk P T hT n c B0 N X Q) K m (rhE (.h s n1) (ovh (.h s n1) e ks) ps) (rhL (.h s n1) L qs) cf):G (.mk P T hT n c B0 N X Q) K m e L cf:=by
  rw [Bool.and_eq_true] at ha
  subst hn
  refine chg (fun _:Unit=>m) (fun _=>rhE (.h s n0) (ovh (.h s n0) e ks) ps) (fun _=>rhL (.h s n0) L qs) (fun B a w hm hA hS=>?_) (fun _=>T6 (by simpa using yW (L:=L) []) ha.2) (fun _=>k)
  obtain⟨h1,h2⟩:=aLY s rfl hp hq ha.1 (aFW ks hk hA) hS
  exact⟨(),[],by simpa using hm,by simpa using h1,by simpa using h2⟩
theorem cpy{d:Option Nat}{x y:Operand}{t t2 el sz:Nat}{α:Type}[aJ α][Flat α]{s s2:AC}{l xs:List α}{b1 b2:Bool}{n1:Nat}{z1 z2:List SV}{kt:TK}(p a:Nat)(hb:a≤l.length∧l.length≤l.length)(hsrc:∀{w},HS c w L'→bX (cR w) s2 xs)(hs:j7 T n K cf m e L=.op o Lv cf1 cf2 K' m' e' L')(ho:(o.op,o.dst)=(.call {callee:=.builtin .copy,args:=#[x,y],argTypes:=#[t,t2]},d))(ht:A1 T t=some ⟨.sl el,b1,n1,z1⟩)(he:A1 T el=some ⟨kt,b2,sz,z2⟩)(hn:aJ.n α=sz)(hp:(L'[p]?,gO p cf1.AO)=(some (ow s l),true))(hx:iX e' x=some (.h (s.sub sz a) ((l.take l.length).drop a).length))(hy:iX e' y=some (.h s2 xs.length))
    (k:G (.mk P T hT n c B0 N X Q) K' m' (dse d (.i .i64 ((min xs.length (l.length - a):Nat):Int)) e') (L'.set p (ow s (dA l a xs))) cf2):G (.mk P T hT n c B0 N X Q) K m e L cf:=by
  have hp1:L'[p]?=some (ow s l):=congrArg Prod.fst hp
  have hz:gO p cf1.AO=true:=congrArg Prod.snd hp
  have hlen:(dA l a xs).length=l.length:=eT hb.1
  refine gW (g:=.mk P T hT n c B0 N X Q) ?_
  rw [hs]
  intro hdn _ hE
  refine hE Unit (fun _=>m') (fun _=>dse d (.i .i64 ((min xs.length (l.length - a):Nat):Int)) e') (fun _=>L'.set p (ow s (dA l a xs))) (fun _=>A5 hz) (fun B act w next Q' hm hA hS hnext=>?_) (fun _=>k)
  have hr:bX (cR w) s2 xs:=hsrc ⟨_,hS⟩
  obtain⟨⟨R,s1,s2'⟩,s0⟩:=hS
  have hx2:ev (vE (TS (.mk P T hT n c B0 N X Q) cf1++B) e') x=some (hO sz a l.length (s.v l.length)):=by rw [hdB hA hx,N2 hb.1 hb.2]
  have hop:o.op=.call {callee:=.builtin .copy,args:=#[x,y],argTypes:=#[t,t2]}:=congrArg Prod.fst ho
  have hd:o.dst=d:=congrArg Prod.snd ho
  obtain⟨v,w',k1,rfl,k2⟩:=aK3 p s1 (by rw [List.getElem?_map,hp1];rfl) hr hn hb.1 (GS ht hT) (hT.size _ _ he) hop hx2 (hdB hA hy)
  unfold Oper.wp
  rw [k1 _ act hA.env,Oper.upon_value,hd]
  have hS2:mP c w' (TS (.mk P T hT n c B0 N X Q) cf1++B) (L'.set p (ow s (dA l a xs))):=by
    refine⟨⟨R,?_,fun z hz=>?_⟩,s0⟩
    · rw [List.map_set]
      show St c w' ((L'.map _).set p (fW [s.v (dA l a xs).length] _)) R
      rw [hlen];exact k2
    · rcases List.mem_or_eq_of_mem_set hz with hz | hz
      · exact s2' z hz
      · subst hz;trivial
  cases d with
  | none=>exact hnext () _ _ ⟨[],by simpa using hm,by simpa [Act.put,dse] using hA,by simpa using hS2⟩
  | some d=>exact hnext () _ _ ⟨[],by simpa using hm,by simpa [dse] using hA.of (by simp [gC,gV,bQ]) (hA.env.put (by rw [hd] at hdn;simpa [rH,Nat.blt_eq] using hdn) _),by simpa using hS2⟩
theorem cp0{d:Option Nat}{x y:Operand}{t t2 el sz:Nat}{α:Type}[aJ α][Flat α]{s s2:AC}{l xs:List α}{b1 b2:Bool}{n1:Nat}{z1 z2:List SV}{kt:TK}(p:Nat)(hsrc:∀{w},HS c w L'→bX (cR w) s2 xs)(hs:j7 T n K cf m e L=.op o Lv cf1 cf2 K' m' e' L')(ho:(o.op,o.dst)=(.call {callee:=.builtin .copy,args:=#[x,y],argTypes:=#[t,t2]},d))(ht:A1 T t=some ⟨.sl el,b1,n1,z1⟩)(he:A1 T el=some ⟨kt,b2,sz,z2⟩)(hn:aJ.n α=sz)(hp:(L'[p]?,gO p cf1.AO)=(some (ow s l),true))(hx:iX e' x=some (.h s l.length))(hy:iX e' y=some (.h s2 xs.length))
    (k:G (.mk P T hT n c B0 N X Q) K' m' (dse d (.i .i64 ((min xs.length (l.length - 0):Nat):Int)) e') (L'.set p (ow s (dA l 0 xs))) cf2):G (.mk P T hT n c B0 N X Q) K m e L cf:=by
  have hp1:L'[p]?=some (ow s l):=congrArg Prod.fst hp
  have hz:gO p cf1.AO=true:=congrArg Prod.snd hp
  have hlen:(dA l 0 xs).length=l.length:=eT (Nat.zero_le _)
  refine gW (g:=.mk P T hT n c B0 N X Q) ?_
  rw [hs]
  intro hdn _ hE
  refine hE Unit (fun _=>m') (fun _=>dse d (.i .i64 ((min xs.length (l.length - 0):Nat):Int)) e') (fun _=>L'.set p (ow s (dA l 0 xs))) (fun _=>A5 hz) (fun B act w next Q' hm hA hS hnext=>?_) (fun _=>k)
  have hr:bX (cR w) s2 xs:=hsrc ⟨_,hS⟩
  obtain⟨⟨R,s1,s2'⟩,s0⟩:=hS
  have hop:o.op=.call {callee:=.builtin .copy,args:=#[x,y],argTypes:=#[t,t2]}:=congrArg Prod.fst ho
  have hd:o.dst=d:=congrArg Prod.snd ho
  obtain⟨v,w',k1,rfl,k2⟩:=aO4 p s1 (by rw [List.getElem?_map,hp1];rfl) hr hn (GS ht hT) (hT.size _ _ he) hop (hdB hA hx) (hdB hA hy)
  unfold Oper.wp
  rw [k1 _ act hA.env,Oper.upon_value,hd]
  have hS2:mP c w' (TS (.mk P T hT n c B0 N X Q) cf1++B) (L'.set p (ow s (dA l 0 xs))):=by
    refine⟨⟨R,?_,fun z hz=>?_⟩,s0⟩
    · rw [List.map_set]
      show St c w' ((L'.map _).set p (fW [s.v (dA l 0 xs).length] _)) R
      rw [hlen];exact k2
    · rcases List.mem_or_eq_of_mem_set hz with hz | hz
      · exact s2' z hz
      · subst hz;trivial
  cases d with
  | none=>exact hnext () _ _ ⟨[],by simpa using hm,by simpa [Act.put,dse] using hA,by simpa using hS2⟩
  | some d=>exact hnext () _ _ ⟨[],by simpa using hm,by simpa [dse] using hA.of (by simp [gC,gV,bQ]) (hA.env.put (by rw [hd] at hdn;simpa [rH,Nat.blt_eq] using hdn) _),by simpa using hS2⟩
theorem fR{Z:Act→World→Prop}{e1:SE}{L1:List Ch}(h1:aPB e=some e1)(h2:aPC L=some L1)(kk:∀a w,p8 n c B0 m e1 L1 a w→Z a w):∀a w,p8 n c B0 m e L a w→Z a w:=by
  have:=aFR h1
  have:=aFS h2
  subst e1;subst L1
  exact kk
end
end Go.Gv
end
noncomputable section
namespace Go.Gv
noncomputable section
variable {B B':Bl} {i j:Nat}
end
noncomputable section
variable {n:Nat} {c:Ctx} {B0:Bl} {m:Nat} {e:SE} {L:List Ch}
theorem pnR{Z:Act→World→Prop}{α:Type}[aJ α](j:Nat){s:AC}{l:List α}{n0:Nat}(hl:l.length=n0)(hj:L[j]?=some (ow s l))
    (kk:∀a w,p8 n c B0 m e (L.set j (.o (fW [s.v n0] l))) a w→Z a w):∀a w,p8 n c B0 m e L a w→Z a w:=by
  subst hl
  have:L.set j (.o (fW [s.v l.length] l))=L:=by
    obtain⟨h1,h2⟩:=List.getElem?_eq_some_iff.1 hj
    rw [←show L[j]=.o (fW [s.v l.length] l) from h2];exact List.set_getElem_self h1
  rw [this] at kk
  exact kk
end
end Go.Gv
end
noncomputable section
namespace Go.Gv
universe u
theorem Q{α:Sort u}{a:α}:a=a:=Eq.refl a
def W{ρ:Type}(C:Prop)(r:ρ)(F:Option ρ):Prop:=F=some r→C
theorem wm{ρ:Type}{C:Prop}{r:ρ}{F F':Option ρ}(h:F'=F)(k:W C r F):W C r F':=h ▸ k
theorem wi{ρ:Type}{C:Prop}{r:ρ}{F:Option ρ}(h:F=some r)(k:W C r F):C:=k h
def VS(P:Program)(c:Ctx)(f:FuncId){ρ ex:Type}(F:Option ρ)(xs:List SV)(B0:Bl)(L0:List Ch)(sv:ρ→ex→SV)(Lf:ρ→ex→List Ch):Prop:=∀r,F=some r→FnS P f c xs B0 L0 sv Lf r
abbrev V0(P:Program)(c:Ctx)(f:FuncId){ρ:Type}(F:Option ρ)(xs:List SV)(sv:ρ→SV):Prop:=VS P c f F xs [] [] (fun r (_:Unit)=>sv r) (fun _ _=>[])
theorem VS.r{P:Program}{c:Ctx}{f:FuncId}{ρ ex:Type}{F:Option ρ}{xs:List SV}{B0:Bl}{L0:List Ch}{sv:ρ→ex→SV}{Lf:ρ→ex→List Ch}(h:VS P c f F xs B0 L0 sv Lf){r:ρ}(hF:F=some r):FnS P f c xs B0 L0 sv Lf r:=h r hF
def QR(P:Program)(fn:Func){rs:List ResultVar}(_:fn.results=rs.toArray)(c:Ctx)(B0:Bl){ρ ex:Type}(sv:ρ→ex→SV)(Lf:ρ→ex→List Ch)(r:ρ):Act→World→Prop:=QS P fn c B0 sv Lf r
def aQJ(T:TT)(rs:List ResultVar)(is:List Nat)(b0:Nat)(L2:List Ch):Stop→Option (SV×List Ch)
  | .ret m e L => match aFH T e L rs with
    | some x => match GL b0 (nbS x) with
      | true => match RC b0 m e L is b0 [] L2 with
        | some ([],L3)=>some (nbS x,L3)
        | _=>none
      | false=>none
    | none=>none
  | _=>none
def aMZ(is:List Nat)(b0 mj:Nat)(ej:SE)(Lj:List Ch):Stop→Option (SE×List Ch)
  | .fin m e L=>RC b0 m e L is mj ej Lj
  | _=>none
def exQ(is:List Nat)(id b0 mj:Nat)(ej:SE)(Lj:List Ch):Stop→Option (SE×List Ch)
  | .ex i m e L => match Nat.beq i id with
    | true=>RC b0 m e L is mj ej Lj
    | false=>none
  | _=>none
def aYQ:Stop→Stop
  | .fin m e L=>.ret m e L
  | _=>.stuck
def ixT(T:TT)(t n:Nat):Bool:=match A1 T t with
  | some ⟨.sl el, _, _, _⟩ => match A1 T el with
    | some ⟨_,_,sz,_⟩=>Nat.beq n sz
    | none=>false
  | _=>false
noncomputable section
variable {P:Program} {T:TT} {hT:GM P T} {n:Nat} {c:Ctx} {B0:Bl} {N:Act→World→Prop} {X:Nat→Act→World→Prop} {Q:Act→World→Prop} {K K':List Fr} {m m':Nat} {e e':SE} {L L' Lv:List Ch} {cf cf' cf1 cf2:wP} {o:Oper}
theorem dI(hT:GM P T){f:FuncId}{fn:Func}{cd:Code}{xs:List SV}{L0:List Ch}{ρ ex:Type}{sv:ρ→ex→SV}{Lf:ρ→ex→List Ch}{F:Option ρ}{rs:List ResultVar}(hc:∀args w,(callFunc f args).run P w=.ok (.enter f args) w)(hf:P.funcs[f]?=some fn)(hr:fn.results=rs.toArray)(hb:fn.body=some cd)(hm:fn.ntmps=n)
    (k:∀{r},W (G (.mk P T hT n c B0 (QR P fn hr c B0 sv Lf r) (fun _ _ _=>False) (QR P fn hr c B0 sv Lf r)) [] B0.length (aEO 0 xs) L0 (.c cd)) r F) (hl:Nat.ble xs.length n=true:=by exact rfl):VS P c f F xs B0 L0 sv Lf:=
  fun _ hF=>en n hc hf hT hb hm hl (k hF)
theorem aL0{rs:List ResultVar}{is:List Nat}{b0:Nat}{L2 L3:List Ch}{s:SV}{st:Stop}(h:aQJ T rs is b0 L2 st=some (s,L3)):∃m' e' L' x,st=.ret m' e' L'∧aFH T e' L' rs=some x∧nbS x=s∧GL b0 s=true∧RC b0 m' e' L' is b0 [] L2=some ([],L3):=by
  unfold aQJ at h
  split at h
  · split at h
    · rename_i h1
      split at h
      · rename_i h2
        split at h
        · rename_i h3
          cases h
          exact⟨_,_,_,_,rfl,h1,rfl,h2,h3⟩
        · cases h
      · cases h
    · cases h
  · cases h
theorem oG{fn:Func}{ρ ex:Type}{sv:ρ→ex→SV}{Lf:ρ→ex→List Ch}{r r':ρ}{rs:List ResultVar}{hr:fn.results=rs.toArray}{zz:Option ρ}(y:ex)(is:List Nat)(hz:zz=some r')(h:aQJ T rs is B0.length (Lf r' y) (j7 T n K cf m e L)=some (sv r' y,Lf r' y)):W (G (.mk P T hT n c B0 N X (QR P fn hr c B0 sv Lf r)) K m e L cf) r zz:=fun hF=>by
  obtain⟨_,_,_,_,h1,h2,h3,h4,h5⟩:=aL0 h
  exact rt y is hF hz h1 hr h2 h3 h4 h5
theorem c9{fn:Func}{ρ:Type}{sv:ρ→Unit→SV}{Lf:ρ→Unit→List Ch}{r r':ρ}{rs:List ResultVar}{hr:fn.results=rs.toArray}{zz:Option ρ}(hz:zz=some r')(h:aQJ T rs [] B0.length (Lf r' ()) (j7 T n K cf m e L)=some (sv r' (),Lf r' ())):W (G (.mk P T hT n c B0 N X (QR P fn hr c B0 sv Lf r)) K m e L cf) r zz:=oG () [] hz h
theorem LD{fn:Func}{ρ ex:Type}{sv:ρ→ex→SV}{Lf:ρ→ex→List Ch}{r r':ρ}{rs:List ResultVar}{hr:fn.results=rs.toArray}{zz:Option ρ}(y:ex)(is:List Nat)(hz:zz=some r')(h:aQJ T rs is B0.length (Lf r' y) (aYQ (j7 T n K cf m e L))=some (sv r' y,Lf r' y)):W (G (.mk P T hT n c B0 (QR P fn hr c B0 sv Lf r) X Q) K m e L cf) r zz:=fun hF=>by
  obtain⟨m',e',L',_,h1,h2,h3,h4,h5⟩:=aL0 h
  refine rf y is hF hz (m':=m') (e':=e') (L':=L') ?_ hr h2 h3 h4 h5
  unfold aYQ at h1
  split at h1
  · rename_i h0;rw [h0];cases h1;rfl
  · cases h1
theorem aL1{is:List Nat}{b0 mj:Nat}{ej e3:SE}{Lj L3:List Ch}{st:Stop}(h:aMZ is b0 mj ej Lj st=some (e3,L3)):∃m' e' L',st=.fin m' e' L'∧RC b0 m' e' L' is mj ej Lj=some (e3,L3):=by
  unfold aMZ at h
  split at h
  · exact⟨_,_,_,rfl,h⟩
  · cases h
theorem p7{π υ α:Type}{eq:π→Prop}{mj:Nat}{ej:π→υ→SE}{Lj:π→υ→List Ch}{p:π}{q:α}{zz:Option α}(u:υ)(is:List Nat)(hz:(zz=some q)=eq p)(h:aMZ is B0.length mj (ej p u) (Lj p u) (j7 T n K cf m e L)=some (ej p u,Lj p u)):W (G (.mk P T hT n c B0 (JP n c B0 eq mj ej Lj) X Q) K m e L cf) q zz:=fun hF=>by
  obtain⟨_,_,_,h1,h2⟩:=aL1 h
  exact jn u is (hz ▸ hF) h1 h2
theorem cD{π α:Type}{eq:π→Prop}{mj:Nat}{ej:π→Unit→SE}{Lj:π→Unit→List Ch}{p:π}{q:α}{zz:Option α}(is:List Nat)(hz:(zz=some q)=eq p)(h:aMZ is B0.length mj (ej p ()) (Lj p ()) (j7 T n K cf m e L)=some (ej p (),Lj p ())):W (G (.mk P T hT n c B0 (JP n c B0 eq mj ej Lj) X Q) K m e L cf) q zz:=p7 () is hz h
theorem nxW{σ ρ υ:Type}{o:Step σ ρ}{mj:Nat}{el:σ→υ→SE}{Ll:σ→υ→List Ch}{s:σ}(u:υ)(is:List Nat)(h:aMZ is B0.length mj (el s u) (Ll s u) (j7 T n K cf m e L)=some (el s u,Ll s u)):W (G (.mk P T hT n c B0 (NxP n c B0 o mj el Ll) X Q) K m e L cf) o (some (Step.next s)):=fun hF=>by
  obtain⟨_,_,_,h1,h2⟩:=aL1 h
  exact nx u is hF h1 h2
theorem JU{σ ρ:Type}{o:Step σ ρ}{mj:Nat}{el:σ→Unit→SE}{Ll:σ→Unit→List Ch}{s:σ}(is:List Nat)(h:aMZ is B0.length mj (el s ()) (Ll s ()) (j7 T n K cf m e L)=some (el s (),Ll s ())):W (G (.mk P T hT n c B0 (NxP n c B0 o mj el Ll) X Q) K m e L cf) o (some (Step.next s)):=nxW () is h
def BkR(n:Nat)(c:Ctx)(B0:Bl){β ρ σ υ:Type}{o:Step σ ρ}{ro:ρ}(_:∀p,o=.stop p→p=ro)(enc:β→ρ)(m:Nat)(ej:β→υ→SE)(Lj:β→υ→List Ch)(id:Nat)(X:Nat→Act→World→Prop):Nat→Act→World→Prop:=BkP n c B0 ro enc m ej Lj id X
theorem bkW{σ ρ β υ:Type}{o:Step σ ρ}{ro:ρ}{enc:β→ρ}{mj id:Nat}{ej:β→υ→SE}{Lj:β→υ→List Ch}{b:β}{hr:∀p,o=.stop p→p=ro}(u:υ)(is:List Nat)(h:exQ is id B0.length mj (ej b u) (Lj b u) (j7 T n K cf m e L)=some (ej b u,Lj b u)):W (G (.mk P T hT n c B0 N (BkR n c B0 hr enc mj ej Lj id X) Q) K m e L cf) o (some (Step.stop (enc b))):=fun hF=>by
  unfold exQ at h
  split at h
  · rename_i h0
    split at h
    · rename_i hb
      rw [Nat.eq_of_beq_eq_true hb] at h0
      exact bk u is hF hr h0 h
    · cases h
  · cases h
theorem H0{σ ρ β:Type}{o:Step σ ρ}{ro:ρ}{enc:β→ρ}{mj id:Nat}{ej:β→Unit→SE}{Lj:β→Unit→List Ch}{b:β}{hr:∀p,o=.stop p→p=ro}(is:List Nat)(h:exQ is id B0.length mj (ej b ()) (Lj b ()) (j7 T n K cf m e L)=some (ej b (),Lj b ())):W (G (.mk P T hT n c B0 N (BkR n c B0 hr enc mj ej Lj id X) Q) K m e L cf) o (some (Step.stop (enc b))):=bkW () is h
theorem MQ{σ ρ α:Type}{o:Step σ ρ}{p ro:ρ}{F:ρ→Option α}{q:α}{C:Prop}(hr:∀p,o=.stop p→p=ro)(hF:F ro=some q)(k:W C q (F p)):W C o (some (Step.stop p)):=fun h=>k (re h rfl hr hF)
noncomputable section
variable {b:Bool} {α:Type} {A B':Option α} {q:α}
theorem b7{o:Operand}{x y:Code}(ss:List Nat)(hs:j7 T n K cf m e L=.cond o b x y K' m' e' L')(ho:aY (DF e') ss=some (ss.map fun _=>SV.b b))
    (k1:W (G (.mk P T hT n c B0 N X Q) K' m' (ovr true e' ss) L' (.c x)) q A) (k2:W (G (.mk P T hT n c B0 N X Q) K' m' (ovr false e' ss) L' (.c y)) q B'):W (G (.mk P T hT n c B0 N X Q) K m e L cf) q (if b=true then A else B'):=fun hF=>cs ss hs ho hF k1 k2
theorem aHY{o:Operand}{x y:Code}(ss:List Nat)(hs:j7 T n K cf m e L=.cond o b x y K' m' e' L')(ho:aY (DF e') ss=some (ss.map fun _=>SV.b b))
    (k1:b=true→W (G (.mk P T hT n c B0 N X Q) K' m' (ovr true e' ss) L' (.c x)) q A) (k2:b=false→W (G (.mk P T hT n c B0 N X Q) K' m' (ovr false e' ss) L' (.c y)) q B'):W (G (.mk P T hT n c B0 N X Q) K m e L cf) q (if b=true then A else B'):=fun hF=>csK ss hs ho hF k1 k2
theorem fB(ss:List Nat)(hs:j7 T n K cf m e L=.case b cf' K' m' e' L')(ho:aY (DF e') ss=some (ss.map fun _=>SV.b b))
    (k1:W (G (.mk P T hT n c B0 N X Q) K' m' (ovr true e' ss) L' cf') q A) (k2:W (G (.mk P T hT n c B0 N X Q) K' m' (ovr false e' ss) L' cf') q B'):W (G (.mk P T hT n c B0 N X Q) K m e L cf) q (if b=true then A else B'):=fun hF=>ca ss hs ho hF k1 k2
theorem aHZ(ss:List Nat)(hs:j7 T n K cf m e L=.case b cf' K' m' e' L')(ho:aY (DF e') ss=some (ss.map fun _=>SV.b b))
    (k1:b=true→W (G (.mk P T hT n c B0 N X Q) K' m' (ovr true e' ss) L' cf') q A) (k2:b=false→W (G (.mk P T hT n c B0 N X Q) K' m' (ovr false e' ss) L' cf') q B'):W (G (.mk P T hT n c B0 N X Q) K m e L cf) q (if b=true then A else B'):=fun hF=>caK ss hs ho hF k1 k2
end
noncomputable section
variable {α β:Type} {fo:Option α} {kf:α→Option β} {q:β} {d:Nat} {f:FuncId} {xs:List SV}
theorem c0{sv:α→SV}(hs:j7 T n K cf m e L=.call o (some d) f xs cf1 cf2 K' m' e' L')
    (hc:∀{w},HS c w L'→V0 P (cR w) f fo xs sv) (k:∀x,W (G (.mk P T hT n c B0 N X Q) K' m' ((d,sv x) :: e') L' cf2) q (kf x)):W (G (.mk P T hT n c B0 N X Q) K m e L cf) q (fo.bind kf):=fun hF=>cl0 hs (fun h _ hx=>hc h _ hx) hF fun x _ h=>k x h
theorem c1{ex:Type}{sv:α→ex→SV}{Lf:α→ex→List Ch}(hs:j7 T n K cf m e L=.call o (some d) f xs cf1 cf2 K' m' e' L')
    (hc:∀{w},HS c w L'→VS P (cR w) f fo xs [] [] sv Lf) (k:∀x,∀y:ex,W (G (.mk P T hT n c B0 N X Q) K' m' ((d,sv x y) :: e') (L'++Lf x y) cf2) q (kf x)) (hn:∀x y,noF (Lf x y)=true:=by exact fun _ _=>rfl):W (G (.mk P T hT n c B0 N X Q) K m e L cf) q (fo.bind kf):=fun hF=>cl hs hn (fun h _ hx=>hc h _ hx) hF fun x _ h y=>k x y h
theorem N3{β:Type}{kf:α→Option β}{q:β}{iR:aJ α}(C:JE α){d t:Nat}{s:AC}{i:Int}{ls:List α}(hs:j7 T n K cf m e L=.idx o d t s ls.length i Lv cf1 cf2 K' m' e' L')(h1:bX c s ls)(ht:ixT T t (aJ.n α)=true)
    (k:∀x,∀y:C.ex,C.sub c.S0 c.w0 x y→W (G (.mk P T hT n c B0 N X Q) K' (m'+1) ((d,.p m' 0) :: e') (L' ++ [.ro m' (C.cs x y)]) (cf2.ext [.ro m' (C.cs x y)])) q (kf x)):W (G (.mk P T hT n c B0 N X Q) K m e L cf) q ((idx ls i).bind kf):=fun hF=>by
  unfold ixT at ht
  split at ht
  · rename_i h2
    split at ht
    · rename_i h3
      exact ix C hs h1 hF h2 h3 (Nat.eq_of_beq_eq_true ht) fun x _ h y hy=>k x y hy h
    · cases ht
  · cases ht
theorem PE{β:Type}{kf:Int→Option β}{q:β}{d t:Nat}{s:AC}{i:Int}{ls:List Int}(hs:j7 T n K cf m e L=.idx o d t s ls.length i Lv cf1 cf2 K' m' e' L')(h1:bX c s ls)(ht:ixT T t 1=true)
    (k:∀x,W (G (.mk P T hT n c B0 N X Q) K' (m'+1) ((d,.p m' 0) :: e') (L' ++ [.ro m' [.i .i64 x]]) (cf2.ext [.ro m' [.i .i64 x]])) q (kf x)):W (G (.mk P T hT n c B0 N X Q) K m e L cf) q ((idx ls i).bind kf):=N3 cI hs h1 ht fun x _ _=>k x
theorem qA(hm:P.follows .mixedOrders=true){id:Nat}{ops:Array Oper}{zz:Option β}(is:List Nat)(hs:j7 T n K cf m e L=.rgn id ops K' m' e' L')
    (k:∀{B1},W (G (.mk P T hT n c B0 N X Q) K' m' e' L' (.d B1 ops (List.replicate ops.size false) is (kl L' is) (kl L' is))) q zz) (hf:(aHC ops && (okL m' (kl L' is) && (dP is && is.all fun j=>Nat.blt j L'.length)))=true:=by kernel_rfl):W (G (.mk P T hT n c B0 N X Q) K m e L cf) q zz:=fun hF=>dr is hs hm hf fun _=>k hF
theorem jB{π υ:Type}{zz:Option β}(j mj:Nat)(Fj:π→Option β)(ks:List Nat)(ej:π→υ→SE)(is:List Nat)(Lj:π→υ→List Ch)(hs:PA (j7 T n K cf m e L)=some (K',cf',m',e',L'))
    (k1:W (G (.mk P T hT n c B0 (JP n c B0 (fun p=>Fj p=some q) mj (fun p u=>ej p u++kp e' ks) (fun p u=>Lj p u++kl L' is)) (XK (.mk P T hT n c B0 N X Q) (K'.drop j)) Q) (K'.take j) m' e' L' cf') q zz)
    (k2:∀p u,W (G (.mk P T hT n c B0 N X Q) (K'.drop j) mj (ej p u++kp e' ks) (Lj p u++kl L' is) .n) q (Fj p)):W (G (.mk P T hT n c B0 N X Q) K m e L cf) q zz:=fun hF=>cut j mj (fun p=>Fj p=some q) ks ej is Lj hs (k1 hF) fun p u h=>k2 p u h
theorem dM{zz:Option β}(j mj:Nat)(Fj:Bool→Option β)(ks:List Nat)(v:Nat)(is:List Nat)(hs:PA (j7 T n K cf m e L)=some (K',cf',m',e',L'))
    (k1:W (G (.mk P T hT n c B0 (JP n c B0 (fun p=>Fj p=some q) mj (fun p (_:Unit)=>[(v,.b p)]++kp e' ks) (fun _ _=>[]++kl L' is)) (XK (.mk P T hT n c B0 N X Q) (K'.drop j)) Q) (K'.take j) m' e' L' cf') q zz)
    (k2:∀p,W (G (.mk P T hT n c B0 N X Q) (K'.drop j) mj ([(v,.b p)]++kp e' ks) ([]++kl L' is) .n) q (Fj p)):W (G (.mk P T hT n c B0 N X Q) K m e L cf) q zz:=jB j mj Fj ks (fun p (_:Unit)=>[(v,.b p)]) is (fun _ _=>[]) hs k1 fun p _=>k2 p
theorem RJ{σ ρ υ γ ω:Type}{id:Nat}{y:Code}{fb:σ→Option (Step σ ρ)}{s0:σ}{gk:ρ→Option β}(u0:υ)(ks:List Nat)(el:σ→υ→SE)(is0 is:List Nat)(Ll:σ→υ→List Ch)(enc:γ→ρ)(kb:List Nat)(ej:γ→ω→SE)(ib:List Nat)(Lj:γ→ω→List Ch)
    (hs:j7 T n K cf m e L=.loop id y K' m' e' L')
    (h0:RC B0.length m' e' L' is0 m' (el s0 u0++kp e' ks) (Ll s0 u0++kl L' is)=some (el s0 u0++kp e' ks,Ll s0 u0++kl L' is))
    (k1:∀{ro o},gk ro=some q→∀s u,(hr:∀p,o=.stop p→p=ro)→W (G (.mk P T hT n c B0 (NxP n c B0 o m' (fun s u=>el s u++kp e' ks) (fun s u=>Ll s u++kl L' is)) (BkR n c B0 hr enc m' (fun b u=>ej b u++kp e' kb) (fun b u=>Lj b u++kl L' ib) id (XK (.mk P T hT n c B0 N X Q) K')) Q) [] m' (el s u++kp e' ks) (Ll s u++kl L' is) (.c y)) o (fb s))
    (k2:∀b u,W (G (.mk P T hT n c B0 N X Q) K' m' (ej b u++kp e' kb) (Lj b u++kl L' ib) .n) q (gk (enc b))):W (G (.mk P T hT n c B0 N X Q) K m e L cf) q ((loop fb s0).bind gk):=fun hF=>
  lp u0 ks el is0 is Ll enc kb ej ib Lj hs hF h0 (fun ro h1 s u o h2 h3=>k1 h1 s u h3 h2) fun b u h=>k2 b u h
theorem OZ{ρ:Type}{id:Nat}{y:Code}{fb:Int→Option (Step Int ρ)}{s0:Int}{gk:ρ→Option β}(v:Nat)(ks:List Nat)(is:List Nat)(enc:Unit→ρ)(kb:List Nat)(ib:List Nat)
    (hs:j7 T n K cf m e L=.loop id y K' m' e' L')
    (h0:RC B0.length m' e' L' is m' ([(v,.i .i64 s0)]++kp e' ks) ([]++kl L' is)=some ([(v,.i .i64 s0)]++kp e' ks,[]++kl L' is))
    (k1:∀{ro o},gk ro=some q→∀s,(hr:∀p,o=.stop p→p=ro)→W (G (.mk P T hT n c B0 (NxP n c B0 o m' (fun s (_:Unit)=>[(v,.i .i64 s)]++kp e' ks) (fun _ _=>[]++kl L' is)) (BkR n c B0 hr enc m' (fun _ (_:Unit)=>[]++kp e' kb) (fun _ _=>[]++kl L' ib) id (XK (.mk P T hT n c B0 N X Q) K')) Q) [] m' ([(v,.i .i64 s)]++kp e' ks) ([]++kl L' is) (.c y)) o (fb s))
    (k2:W (G (.mk P T hT n c B0 N X Q) K' m' ([]++kp e' kb) ([]++kl L' ib) .n) q (gk (enc ()))):W (G (.mk P T hT n c B0 N X Q) K m e L cf) q ((loop fb s0).bind gk):=
  RJ () ks (fun s (_:Unit)=>[(v,.i .i64 s)]) is is (fun _ _=>[]) enc kb (fun _ (_:Unit)=>[]) ib (fun _ _=>[]) hs h0 (fun h s _ hr=>k1 h s hr) fun _ _=>k2
theorem lrW{σ ρ υ:Type}{id:Nat}{y:Code}{fb:σ→Option (Step σ ρ)}{s0:σ}{gk:ρ→Option β}(u0:υ)(ks:List Nat)(el:σ→υ→SE)(is0 is:List Nat)(Ll:σ→υ→List Ch)
    (hs:j7 T n K cf m e L=.loop id y K' m' e' L')
    (h0:RC B0.length m' e' L' is0 m' (el s0 u0++kp e' ks) (Ll s0 u0++kl L' is)=some (el s0 u0++kp e' ks,Ll s0 u0++kl L' is))
    (k1:∀{ro o},gk ro=some q→∀s u,(hr:∀p,o=.stop p→p=ro)→W (G (.mk P T hT n c B0 (NxP n c B0 o m' (fun s u=>el s u++kp e' ks) (fun s u=>Ll s u++kl L' is)) (BkP n c B0 ro (fun b:Empty=>nomatch b) m' (fun(b:Empty) (_:Unit)=>nomatch b) (fun b _=>nomatch b) id (XK (.mk P T hT n c B0 N X Q) K')) Q) [] m' (el s u++kp e' ks) (Ll s u++kl L' is) (.c y)) o (fb s)):W (G (.mk P T hT n c B0 N X Q) K m e L cf) q ((loop fb s0).bind gk):=fun hF=>
  lr u0 ks el is0 is Ll hs hF h0 fun ro h1 s u o h2 h3=>k1 h1 s u h3 h2
theorem sM{β:Type}{kf:α→Option β}{q:β}[aJ α](E:CO α)(j:Nat){t:TypeId}{s:AC}{i:Int}{ls:List α}(hs:j7 T n K cf m e L=.idx o d t s ls.length i Lv cf1 cf2 K' m' e' L')(hj:L'[j]?=some (ow s ls))(hz:gO j cf1.AO=true)
    (k:∀x,idx ls i=some x→∀y:E.ex,Shp s ls.length→W (G (.mk P T hT n c B0 N X Q) K' (m'+1) e' (L'.set j .no++([.o (wK (s.v ls.length) ls i.toNat),.box m' (E.cs x y),wOf α m' s ls.length i.toNat]++E.Lx x y)) (cf1.ext [wOf α m' s ls.length i.toNat])) q (kf x)):W (G (.mk P T hT n c B0 N X Q) K m e L cf) q ((idx ls i).bind kf):=fun hF=>oe E j hs hj hz hF fun x h1 h2 y h3=>k x h1 y h3 h2
end
noncomputable section
variable {α β ex:Type} {fo:Option α} {kf:α→Option β} {q:β} {d:Option Nat} {f:FuncId} {xs xs0:List SV} {M:List Ch} {sv:α→ex→SV} {Lr:α→ex→List Ch}
theorem MX(is:List Nat)
    (hs:cpS (j7 T n K cf m e L)=some (o,d,f,xs,cf1,cf2,K',m',e',L')) (hi:aY (fun i=>L'[i]?) is=some M) (hx:aY (rnP [] 0) xs=some xs0)
    (hk:(PD M && (dP is && is.all fun j=>gO j cf1.AO))=true)
    (hc:∀{κ:Ctx},HG c κ L' is→VS P κ f fo xs0 [] M sv Lr)
    (k:∀x,∀y:ex,W (G (.mk P T hT n c B0 N X Q) K' m' (dse d (sv x y) e') (PC L' is++Lr x y) cf2) q (kf x)) (hn:∀x y,(PD (Lr x y) && GL 0 (sv x y))=true:=by exact fun _ _=>rfl):W (G (.mk P T hT n c B0 N X Q) K m e L cf) q (fo.bind kf):=fun hF=>
  cw0 is hs hi hx hk hn (fun h _ hx=>hc h _ hx) hF fun x _ h y=>k x y h
theorem dQ{c1:List SV}{a1:α→ex→List SV}(i1 n1 o1 k1:Nat)(is:List Nat)
    (hs:cpS (j7 T n K cf m e L)=some (o,d,f,xs,cf1,cf2,K',m',e',L')) (hb:aHO L' [(i1,n1,o1,k1)]=some [c1]) (hi:aY (fun i=>L'[i]?) is=some M) (hx:aY (rnP [(i1,n1,o1,k1)] 0) xs=some xs0)
    (hk:(PD M && ([c1].all (GL.okC 0) && (dP (i1 :: is) && (i1 :: is).all fun j=>gO j cf1.AO)))=true)
    (hc:∀{κ:Ctx},HG c κ L' (i1 :: is)→∀{b1:Nat×Nat},VS P κ f fo xs0 [b1] (.box 0 c1 :: M) sv (fun x y=>.box 0 (a1 x y) :: Lr x y))
    (k:∀x,∀y:ex,W (G (.mk P T hT n c B0 N X Q) K' m' (dse d (sv x y) e') (MW L' (PC L' (i1 :: is)++Lr x y) [(i1,n1,o1,k1)] [a1 x y]) cf2) q (kf x)) (hn:∀x y,(aAL [(i1,n1,o1,k1)] [a1 x y] && ([a1 x y].all (GL.okC 0) && (PD (Lr x y) && GL 0 (sv x y))))=true:=by exact fun _ _=>rfl):W (G (.mk P T hT n c B0 N X Q) K m e L cf) q (fo.bind kf):=fun hF=>
  cw1 i1 n1 o1 k1 is hs hb hi hx hk hn (fun h _ _ hx=>hc h _ hx) hF fun x _ h y=>k x y h
theorem XC{c1 c2:List SV}{a1 a2:α→ex→List SV}(i1 n1 o1 k1:Nat)(i2 n2 o2 k2:Nat)(is:List Nat)
    (hs:cpS (j7 T n K cf m e L)=some (o,d,f,xs,cf1,cf2,K',m',e',L')) (hb:aHO L' [(i1,n1,o1,k1),(i2,n2,o2,k2)]=some [c1,c2]) (hi:aY (fun i=>L'[i]?) is=some M) (hx:aY (rnP [(i1,n1,o1,k1),(i2,n2,o2,k2)] 0) xs=some xs0)
    (hk:(PD M && ([c1,c2].all (GL.okC 0) && (dP (i1 :: i2 :: is) && (i1 :: i2 :: is).all fun j=>gO j cf1.AO)))=true)
    (hc:∀{κ:Ctx},HG c κ L' (i1 :: i2 :: is)→∀{b1 b2:Nat×Nat},VS P κ f fo xs0 [b1,b2] (.box 0 c1 :: .box 1 c2 :: M) sv (fun x y=>.box 0 (a1 x y) :: .box 1 (a2 x y) :: Lr x y))
    (k:∀x,∀y:ex,W (G (.mk P T hT n c B0 N X Q) K' m' (dse d (sv x y) e') (MW L' (PC L' (i1 :: i2 :: is)++Lr x y) [(i1,n1,o1,k1),(i2,n2,o2,k2)] [a1 x y,a2 x y]) cf2) q (kf x)) (hn:∀x y,(aAL [(i1,n1,o1,k1),(i2,n2,o2,k2)] [a1 x y,a2 x y] && ([a1 x y,a2 x y].all (GL.okC 0) && (PD (Lr x y) && GL 0 (sv x y))))=true:=by exact fun _ _=>rfl):W (G (.mk P T hT n c B0 N X Q) K m e L cf) q (fo.bind kf):=fun hF=>
  cw2 i1 n1 o1 k1 i2 n2 o2 k2 is hs hb hi hx hk hn (fun h _ _ _ hx=>hc h _ hx) hF fun x _ h y=>k x y h
end
theorem aH0{α β:Type}{iR:aJ α}{C:JE α}{sr:β→SV}{g:FuncId}{w:World}{p:α→Option β}(hc:∀args w,(callFunc g args).run P w=.ok (.enter g args) w)(hn:∀{κ:Ctx} {x y},C.sub κ.S0 κ.w0 x y→V0 P κ g (p x) [C.sv x y] sr):XB P (cR w) C sr g [] p:=fu1 hc (by intro κ x y h q hq;exact hn h _ hq)
theorem aJT{α β:Type}{iR:aJ α}{C:JE α}{sr:β→SV}{g:FuncId}{w:World}{Bs:Bl}{cs:List (Nat×List SV)}{p:α→Option β}(hc:∀args w,(callFunc g args).run P w=.ok (.enter g args) w)(hB:∀w1,gJ F0 w w1→mP (cR w1) w1 Bs (roL 0 cs))(hl:aY (gC Bs) (aP5 0 cs)=some (aAJ Bs))(hn:∀{w1 x y},gJ F0 w w1→C.sub (OW w1) w1 x y→VS P (cR w1) g (p x) (C.sv x y :: aP5 0 cs) Bs (roL 0 cs) (fun r (_:Unit)=>sr r) (fun _ _=>[]))(hz:∀q,GL 0 (sr q)=true:=by exact fun _=>rfl):XB P (cR w) C sr g (aAJ Bs) p:=fk1 hc hB hl hz (by intro w1 x y h h' q hq;exact hn h h' _ hq)
noncomputable section
variable {α β:Type} {fo:Option α} {kf:α→Option β} {q:β} {d:Nat} {f g:FuncId} {xs:List SV} {sv:α→SV}
theorem aJU{n1:Nat}{c1:List SV}(is:List Nat)(hs:j7 T n K cf m e L=.callp o (some d) f xs cf1 cf2 K' m' e' L')(hk:kl L' is=[.ro n1 c1])(ho:(aHK [(n1,c1)] && okA xs.dropLast)=true)(hx:xs=xs.dropLast ++ [.f g [n1]])
    (hc:∀{w},HS c w L'→∀{b1:Nat×Nat},(∀w1,gJ F0 w w1→mP (cR w1) w1 [b1] [.ro 0 c1])→V0 P (cR w) f fo (xs.dropLast ++ [.k (.func (.func g) #[] (aAJ [b1]).toArray)]) sv)
    (k:∀x,W (G (.mk P T hT n c B0 N X Q) K' m' ((d,sv x) :: e') L' cf2) q (kf x)):W (G (.mk P T hT n c B0 N X Q) K m e L cf) q (fo.bind kf):=fun hF=>
  aZ1 is hs hk ho hx (fun h _ h2 _ hx=>hc h h2 _ hx) hF fun x _ h=>k x h
end
end
end Go.Gv
end
noncomputable section
namespace Go.Gv
def pV(y:Nat×Nat):Value:=.pointer (some ⟨y.1,y.2,none⟩)
noncomputable section
variable {P:Program} {T:TT} {hT:GM P T} {n:Nat} {c:Ctx} {B0:Bl} {N:Act→World→Prop} {X:Nat→Act→World→Prop} {Q:Act→World→Prop} {K K':List Fr} {m m':Nat} {e e':SE} {L L':List Ch} {cf cf1 cf2:wP} {o:Oper}
abbrev VP(P:Program)(c:Ctx)(f:FuncId){ρ:Type}(F:Option ρ)(xs:List SV)(cs:ρ→List SV):Prop:=VS P c f F xs [] [] (fun _ (y:Nat×Nat)=>.k (pV y)) (fun r y=>[.o (OY [y] 0 (cs r))])
theorem rtP{fn:Func}{ρ:Type}{r r':ρ}{t:Nat}{hr:fn.results=[ResultVar.tmp t].toArray}{zz:Option ρ}{cs:ρ→List SV}(is:List Nat)(hz:zz=some r')(hs:j7 T n K cf m e L=.ret m' e' L')(hL:RC 0 m' e' L' is 1 [(t,.p 0 0)] [.box 0 (cs r')]=some ([(t,.p 0 0)],[.box 0 (cs r')]))(ho:GL.okC 0 (cs r')=true):W (G (.mk P T hT n c [] N X (QR P fn hr c [] (fun _ (y:Nat×Nat)=>.k (pV y)) (fun r y=>[.o (OY [y] 0 (cs r))]) r)) K m e L cf) r zz:=fun hF=>by
  subst hz;cases hF
  refine gW (g:=.mk P T hT n c [] N X _) ?_
  rw [hs]
  intro a w hr'
  obtain⟨B,hm,hA,hS⟩:=p8.RC hr' is hL
  have hB:∃y,B=[y]:=by
    cases B with
    | nil=>simp at hm
    | cons y B => cases B with
      | nil=>exact⟨y,rfl⟩
      | cons z B=>simp at hm
  obtain⟨y,rfl⟩:=hB
  have hS:mP c w [y] [.box 0 (cs r)]:=hS
  have hA:gI n [y] [(t,.p 0 0)] a:=hA
  have hv:aFH T [(t,.p 0 0)] [.box 0 (cs r)] [ResultVar.tmp t]=some (.p 0 0):=by simp [aFH,aPD,DF]
  obtain⟨v,h1,h2⟩:=ZN hr hT hA hS hv
  have hv':v=pV y:=by
    simp only [gC,gV,bQ,List.getElem?_cons_zero] at h1
    cases h1;rfl
  subst hv'
  refine⟨hA.d,_,h2,y,by simp [gC,gV,bQ,pV,Value.oneCell'],?_⟩
  obtain⟨⟨R,s1,s2⟩,s0⟩:=hS
  exact⟨⟨R,s1.imp (.cons (fun F h=>h) .nil),fun x hx=>by rcases List.mem_cons.1 hx with rfl | hx <;> first | trivial | simp at hx⟩,s0⟩
theorem cP{α β:Type}{fo:Option α}{kf:α→Option β}{q:β}{d:Nat}{f:FuncId}{xs:List SV}{cs:α→List SV}(hs:j7 T n K cf m e L=.call o (some d) f xs cf1 cf2 K' m' e' L')
    (hc:∀{w},HS c w L'→VP P (cR w) f fo xs cs) (k:∀x,W (G (.mk P T hT n c B0 N X Q) K' (m'+1) ((d,.p m' 0) :: e') (L' ++ [.box m' (cs x)]) cf2) q (kf x)) (hk:∀x,GL.okC 0 (cs x)=true:=by exact fun _=>rfl):W (G (.mk P T hT n c B0 N X Q) K m e L cf) q (fo.bind kf):=fun hF=>by
  refine gW (g:=.mk P T hT n c B0 N X Q) ?_
  rw [hs]
  intro fo' args ats ho hd hf ⟨ys,hys,hxs⟩ hA0 hdn hE
  subst hxs
  cases hfo:fo with
  | none=>rw [hfo] at hF;cases hF
  | some x =>
    rw [hfo] at hF
    refine hE Unit (fun _=>m'+1) (fun _=>(d,.p m' 0) :: e') (fun _=>L' ++ [.box m' (cs x)]) (fun _=>yW _) (fun B a w next Q' hm hA hS hnext=>?_) (fun _=>k x hF)
    obtain⟨hcall,hrun⟩:=hc ⟨_,hS⟩ x hfo
    obtain⟨vs,h1,h2⟩:=W0 hA hys
    obtain⟨v,h3,h4⟩:=eR hA hf
    simp [gC,aY] at h3
    subst h3
    have h5:=hrun vs (ZO hA0 (by rw [RE];exact h1)) (aMV w)
    have h6:=T2 (w:=w) hcall ho h4 h2
    unfold Oper.wp
    rw [h6 _ a hA.env,Oper.upon_enter]
    refine Calls.mono h5 fun en w' ⟨v,hv,y,g1,g2⟩=>?_
    subst hv
    rw [hd]
    have hv':v=pV y:=by simpa [gC,gV,bQ,pV,Value.oneCell'] using g1.symm
    subst hv'
    have hb:∀{F:cL},(OY [y] 0 (cs x)).P w' F→(OY ((TS (.mk P T hT n c B0 N X Q) cf1++B) ++ [y]) m' (cs x)).P w' F:=fun⟨b,z,us,k1,k2,k3⟩=>by
      simp only [List.getElem?_cons_zero,Option.some.injEq] at k1
      refine⟨y.1,y.2,us,?_,?_,by rw [k1];exact k3⟩
      · rw [List.getElem?_append_right (by omega),hm];simp
      · simpa using fL (fun x v h=>by simpa using gR (B:=[]) (TS (.mk P T hT n c B0 N X Q) cf1++B ++ [y]) h) (GR (hk x) k2)
    have g3:gC ((TS (.mk P T hT n c B0 N X Q) cf1++B) ++ [y]) (.p m' 0)=some (pV y):=by
      simp only [gC,gV,bQ]
      rw [List.getElem?_append_right (by omega),hm]
      simp [pV]
    refine hnext () _ _ ⟨[y],by simp only [List.length_append,List.length_cons,List.length_nil] at hm ⊢;omega,hA.ext g3 (hA.env.put (by simpa [rH,Nat.blt_eq] using hdn) _),?_⟩
    obtain⟨⟨R,s1,s2⟩,s0⟩:=(hS.after (L2:=[.o (OY [y] 0 (cs x))]) rfl g2).app [y]
    refine⟨⟨R,s1.imp ?_,fun z hz=>?_⟩,s0⟩
    · rw [List.map_append,List.map_append]
      exact jM.append (jM.refl _) (.cons (fun F h=>hb h) .nil)
    · rcases List.mem_append.1 hz with hz | hz
      · exact s2 z (List.mem_append_left _ hz)
      · rcases List.mem_cons.1 hz with rfl | hz <;> first | trivial | simp at hz
def aWP(b:Bool)(off sz:Nat)(cs:List SV):Option SV:=match b with
  | true=>some (.g ((cs.drop off).take sz))
  | false => match cs[off]? with
    | some x => match x with
      | .g _=>none
      | .t _=>none
      | .f _ _=>none
      | .u=>none
      | y=>some y
    | none=>none
theorem a0B{α:Type}{F0:Option α}{q:α}{t ix sz d:Nat}{b:Bool}{k:TK}{z cs:List SV}{Fs:Array Field}{F:Field}{x:Operand}{r:SV}{Lv:List Ch}(hu:P.underlying t=some (.struct Fs))(hf:Fs[ix]?=some F)(hl:A1 T F.type=some ⟨k,b,sz,z⟩)(hs:opS (j7 T n K cf m e L)=some (o,Lv,cf1,cf2,K',m',e',L'))(ho:(o.op,o.dst)=(.field t x ix,some d))(hx:iX e' x=some (.g cs))(hr:aWP b F.offset sz cs=some r)(hz:(!b || Nat.ble (F.offset+sz) cs.length)=true)
    (kk:W (G (.mk P T hT n c B0 N X Q) K' m' ((d,r) :: e') L' cf2) q F0):W (G (.mk P T hT n c B0 N X Q) K m e L cf) q F0:=fun hF=>
  pu hs (congrArg Prod.snd ho) (fun B a w hA _=>by
    obtain⟨v,h1,h2⟩:=eR hA hx
    simp only [gC,gV] at h1
    split at h1
    case h_2=>cases h1
    rename_i vs hv
    cases h1
    have hlen:=lJ hv
    have h0:o.op=.field t x ix:=congrArg Prod.fst ho
    have hag:=hT.agg _ _ hl
    have hsz:=hT.size _ _ hl
    cases b with
    | true =>
      have hz':=Nat.le_of_ble_eq_true (by simpa using hz)
      simp only [aWP] at hr;cases hr
      refine⟨.agg ((vs.drop F.offset).take sz).toArray,by simp only [gC,gV,LO sz (LN F.offset hv)],fun _ a hA=>?_⟩
      have e:vs.toArray.extract F.offset (F.offset+sz)=((vs.drop F.offset).take sz).toArray:=by
        apply Array.ext'
        simp [List.extract_eq_take_drop]
      simp [execOp,h0,hA.eval h2,Instr.field,run_underlying hu,hf,part,asAgg,hag,hsz,e]
    | false =>
      simp only [aWP] at hr
      split at hr
      case h_2=>cases hr
      rename_i y hy
      obtain⟨u,h4,h5⟩:=LM hv hy
      have hr':r=y:=by cases y <;> simp at hr <;> exact hr.symm
      subst hr'
      refine⟨u,aK5 h4,fun _ a hA=>?_⟩
      simp [execOp,h0,hA.eval h2,Instr.field,run_underlying hu,hf,part,asAgg,hag,h5]) (kk hF)
end
end Go.Gv
end
noncomputable section
namespace Go.Gv
noncomputable section
variable {n:Nat} {c:Ctx} {B0:Bl} {m:Nat} {e:SE} {L:List Ch}
def kf(L xs:List Ch)(k:Nat):List Nat→List Ch
  | []=>[]
  | i :: is => match Nat.blt i k with
    | true => match L[i]? with
      | some x=>x :: kf L xs k is
      | none=>kf L xs k is
    | false => match xs[i - k]? with
      | some x=>x :: kf L xs k is
      | none=>kf L xs k is
end
end Go.Gv
end
noncomputable section
namespace Go.Gv
noncomputable section
variable {P:Program} {T:TT} {hT:GM P T} {n:Nat} {c:Ctx} {B0:Bl} {N:Act→World→Prop} {X:Nat→Act→World→Prop} {Q:Act→World→Prop} {K K':List Fr} {m m':Nat} {e e':SE} {L L' Lv:List Ch} {cf cf' cf1 cf2:wP} {o:Oper}
theorem a0C{α β:Type}{iR:aJ α}{C:JE α}{sr:β→SV}{g:FuncId}{κ:Ctx}{p:α→Option β}(hc:∀args w,(callFunc g args).run P w=.ok (.enter g args) w)(hn:∀{κ:Ctx} {x y},C.sub κ.S0 κ.w0 x y→V0 P κ g (p x) [C.sv x y] sr):XB P κ C sr g [] p:=
  ⟨hc,fun w1 _ x y hy q hq v hv=>by
    refine Calls.mono ((hn (κ:=cR w1) hy _ hq).run [v] (by simp [aY,hv]) (aMV w1)) fun en w' ⟨v',h1,y,h2,h3⟩=>⟨v',h1,h2,h3⟩⟩
end
end Go.Gv
end
noncomputable section
namespace Go.Gv
def wZ(l:List Int):List Int:=l.foldl (fun a x=>if a.getLast?=some x then a else a ++ [x]) []
theorem VV(l:List Int)(x:Int):wZ (l ++ [x])=if (wZ l).getLast?=some x then wZ l else wZ l ++ [x]:=by
  unfold wZ;rw [List.foldl_append];rfl
theorem aM0:∀(l:List Int),(wZ l).getLast?=l.getLast?:=by
  intro l
  rcases List.eq_nil_or_concat l with rfl | ⟨l,x,rfl⟩
  · rfl
  · rw [List.concat_eq_append,VV]
    split
    · rename_i h;rw [h];simp
    · simp
theorem aTU(l:List Int):(wZ l).length≤l.length:=by
  suffices h:∀(l a:List Int),(l.foldl (fun a x=>if a.getLast?=some x then a else a ++ [x]) a).length≤a.length+l.length by
    have:=h l []
    rw [List.length_nil,Nat.zero_add] at this
    exact this
  intro l
  induction l with
  | nil=>intro a;simp
  | cons x l ih =>
    intro a
    rw [List.foldl_cons]
    refine Nat.le_trans (ih _) ?_
    split
    · simp
    · simp;omega
def slices_Compact_int(s:List Int):Option (List Int):=some (wZ s)
end Go.Gv
end
noncomputable section
namespace Go.Gv
theorem aL2(l:List Int):Lib.compact l=wZ l:=by
  have h:∀m,m≤l.length→Lib.compactUpTo l.toArray m=wZ (l.take m):=by
    intro m
    induction m with
    | zero=>intro _;rfl
    | succ m ih =>
      intro hm
      have hm':m < l.length:=hm
      rw [Lib.compactUpTo_succ,ih (by omega),List.take_succ_eq_append_getElem hm',VV,aM0]
      have e1:l.toArray[m]! = l[m]:=by simp [hm']
      have key:(Lib.keeps l.toArray m=true)↔¬(l.take m).getLast?=some l[m]:=by
        cases m with
        | zero=>simp [Lib.keeps]
        | succ k =>
          have e2:l.toArray[k]! = l[k]:=by simp [show k < l.length by omega]
          rw [List.take_succ_eq_append_getElem (by omega:k < l.length),List.getLast?_concat]
          simp only [Lib.keeps,decide_eq_true_eq,e1,Nat.add_sub_cancel,e2]
          simp [eq_comm]
      rw [e1]
      by_cases hk:Lib.keeps l.toArray m=true
      · rw [if_pos hk,if_neg (key.1 hk)]
      · rw [if_neg hk,if_pos (Decidable.not_not.1 fun hh=>hk (key.2 hh)),List.append_nil]
  have:=h l.length (Nat.le_refl _)
  rw [List.take_length] at this
  exact this
open Go.Sort in
theorem aH1{w:World}{b off q:Nat}{d0 d:Array Int}(h0:Holds (Value.int .i64) w b off d0)(hs:d.size=d0.size):gJ (fC b off d.size) w (putRow (Value.int .i64) (Sort.ahead w q) b off d):=by
  have hc:∀b' o,b' < w.heap.size→¬fC b off d.size b' o→(putRow (Value.int .i64) (Sort.ahead w q) b off d).cell? ⟨b',o,none⟩=w.cell? ⟨b',o,none⟩:=fun b' o _ hn=>by
    rw [cell?_putRow_other _ _ _ _ _ _ (by
      by_cases e:b'=b
      · right
        by_cases h1:o < off
        · exact .inl h1
        · right
          by_cases h2:o < off+d.size
          · exact absurd ⟨e,by omega,h2⟩ hn
          · show off+d.size≤o;omega
      · exact .inl e)]
    rfl
  refine⟨rfl,rfl,rfl,by simp,fun b' hb hn=>?_,hc,fun b' o _=>by rw [frozen?_putRow];rfl,fun b' o h=>?_⟩
  · show (w.heap.modify b _)[b']? = _
    rw [Array.getElem?_modify]
    split
    · rename_i e
      subst e
      have hz:d.size=0:=by
        rcases Nat.eq_zero_or_pos d.size with h | h
        · exact h
        · exact absurd ⟨rfl,Nat.le_refl _,by omega⟩ (hn off)
      cases hh:w.heap[b]? with
      | none=>rfl
      | some o =>
        cases o with
        | cells c e fr =>
          simp only [Option.map_some,onCells]
          have:putCells (Value.int .i64) off d c=c:=by
            apply Array.ext_getElem?
            intro k
            simp only [putCells,Array.getElem?_mapIdx,hz]
            cases c[k]? with
            | none=>rfl
            | some y=>simp only [Option.map_some];rw [if_neg (by omega)]
          rw [this]
        | _=>rfl
    · rfl
  · by_cases hn:fC b off d.size b' o
    · obtain⟨rfl,h1,h2⟩:=hn
      have:=cell?_putRow (Value.int .i64) (Sort.ahead w q) b' off d0 d h0 hs (o - off) (by omega)
      rw [show off+(o - off)=o from by omega] at this
      rw [this];rfl
    · rw [hc b' o (i5 h) hn];exact h
open Go.Proofs in
theorem a0D{P:Program}{ρ:_}{κ:Ctx}(Ly:Lays2.n20 P ρ)(hcall:∀args w,(callFunc (ρ.f 20) args).run P w=.ok (.enter (ρ.f 20) args) w){s:List Int}{s1:AC}:VS P κ (ρ.f 20) (slices_Compact_int s) [.h s1 s.length] [] [ow s1 s] (fun r (y:AC)=>.h y r.length) (fun r y=>[ow y r]):=fun r hr=>by
  cases hr
  refine⟨hcall,fun vs hv hS=>?_⟩
  simp [aY,gC,gV,bQ] at hv
  subst hv
  obtain⟨⟨R,h1,h2⟩,h0⟩:=hS
  have h1:St κ κ.w0 [fW [s1.v s.length] s] R:=by simpa [j5] using h1
  obtain⟨F,hF⟩:=h1.chunk 0 rfl
  have hF:aJ.own κ.w0 [s1.v s.length] s F:=hF
  obtain⟨a,cp,he,hl1,hl2,hrest⟩:=(show E8 κ.w0 _ s F from hF)
  obtain⟨sa,sc⟩:=s1
  simp only [AC.v,List.cons.injEq,Value.slice.injEq,and_true,true_and] at he
  obtain⟨rfl,rfl⟩:=he
  rcases hrest with ⟨rfl,rfl,hno⟩ | ⟨b,off,Fs,rfl,hrow,hel,hdj,hdr,hFF⟩
  · have hs:s=[]:=List.eq_nil_of_length_eq_zero (by omega)
    subst hs
    refine(Any.slices_Compact_int_empty Ly none 0 κ.w0).mono ?_
    rintro e w' ⟨rfl,rfl⟩
    exact⟨_,rfl,⟨none,0⟩,by simp [gC,gV,bQ,AC.v,wZ],⟨R,by simpa [j5,AC.v,wZ] using h1,fun x hx=>by simp at hx;subst hx;trivial⟩,h0⟩
  · have hn:aJ.n Int=1:=rfl
    have hH:Sort.Holds (Value.int .i64) κ.w0 b off s.toArray:=fun j hj=>by
      have hj':j < s.length:=by simpa using hj
      obtain⟨ec,c1,c2⟩:=hel j hj'
      have c3:ec=[Value.int .i64 s[j]]:=(show _=_∧_ from c2).1
      have:=c1 0 (.int .i64 s[j]) (by rw [c3];rfl)
      rw [hn,Nat.mul_one,Nat.add_zero] at this
      refine⟨by rw [this];simp [hj'],(hrow (off+j) ⟨rfl,by omega,by rw [hn];omega⟩).2⟩
    have hlen:(Lib.compact s).length≤s.length:=by
      rw [aL2];exact aTU s
    refine(Any.slices_Compact_int Ly b off sc s κ.w0 hH (Nat.le_trans hl1 (Nat.le_trans hl2 (by decide))) hl1).mono ?_
    rintro e w' ⟨rfl,q,rfl⟩
    rw [aL2] at hlen ⊢
    have hsz:(wZ s++List.replicate (s.length - (wZ s).length) 0).toArray.size=s.toArray.size:=by simp;omega
    have hsa:s.toArray.size=s.length:=by simp
    have hK:=aH1 (q:=q) hH hsz
    refine⟨_,rfl,⟨some ⟨b,off,none⟩,sc⟩,by simp [gC,gV,bQ,AC.v],⟨R,?_,by simp [roF]⟩,h0⟩
    have := h1.TU (w' := Sort.putRow (Value.int .i64) (Sort.ahead κ.w0 q) b off (wZ s ++ List.replicate (s.length - (wZ s).length) 0).toArray) (ch' := fW [(⟨some ⟨b, off, none⟩, sc⟩ : AC).v (wZ s).length] (wZ s)) 0 rfl fun F2 hF2 => by
      have hF2:aJ.own κ.w0 [_] s F2:=hF2
      obtain⟨a',cp',he',_,_,hrest'⟩:=(show E8 κ.w0 _ s F2 from hF2)
      simp only [AC.v,List.cons.injEq,Value.slice.injEq,and_true,true_and] at he'
      obtain⟨rfl,rfl⟩:=he'
      rcases hrest' with ⟨h,_⟩ | ⟨b',off',Fs',h,hrow',hel',hdj',hdr',hFF'⟩
      · cases h
      · cases h
        have hemp:∀i (hi:i < s.length) b' o,¬Fs' i b' o:=fun i hi b' o h=>by
          obtain⟨ec,_,c2⟩:=hel' i hi
          exact(show _∧∀b o,¬Fs' i b o from c2).2 b' o h
        refine⟨fC b off (sc * 1),fC b off (wZ s++List.replicate (s.length - (wZ s).length) 0).toArray.size,hK,fun b' o h=>(hFF' b' o).2 (.inl ?_),?_,fun b' o h=>.inl ((hFF' b' o).2 (.inl h))⟩
        · obtain⟨h3,h4,h5⟩:=h
          exact⟨h3,h4,by rw [hsz,hsa] at h5;rw [hn];omega⟩
        · refine⟨_,sc,rfl,by omega,hl2,.inr ⟨b,off,fun _=>F0,rfl,fun o ho=>?_,fun i hi=>?_,fun _ _ _ _ _ _ _ h _=>h,fun _ _ _ _ h _=>h,fun b' o=>by simp [F0,hn]⟩⟩
          · have:=hrow' o ho
            exact⟨hK.stay b o this.1,(hK.AO b o (i5 this.1)).trans this.2⟩
          · refine⟨[.int .i64 (wZ s)[i]],fun j v hj=>?_,rfl,fun _ _ h=>h⟩
            have hj0:j=0:=by
              have:=(List.getElem?_eq_some_iff.1 hj).1
              simp at this;exact this
            subst hj0
            simp at hj;subst hj
            rw [hn,Nat.mul_one,Nat.add_zero]
            have:=Sort.cell?_putRow (Value.int .i64) (Sort.ahead κ.w0 q) b off s.toArray (wZ s++List.replicate (s.length - (wZ s).length) 0).toArray hH hsz i (by rw [hsz];simp;omega)
            rw [this]
            congr 2
            have hlt:i < (wZ s++List.replicate (s.length - (wZ s).length) 0).length:=by simp;omega
            rw [getElem!_pos _ i (by simpa using hlt)]
            show(wZ s++List.replicate (s.length - (wZ s).length) 0)[i]=_
            rw [List.getElem_append_left hi]
    simpa [j5] using this
end Go.Gv
end
noncomputable section
namespace Go.Gv
structure dW where
  b:List UInt8
  i:Int
  h:Int
  deriving DecidableEq,Inhabited
instance:aJ dW:=aJ.via (fun d=>(d.b,d.i,d.h))
instance:Fits dW:=Fits.via (fun d=>(d.b,d.i,d.h))
structure dT where
  Kind:Int
  Cell:Int
  gY:Int
  dV:Int
  deriving DecidableEq,Inhabited
instance:aJ dT:=aJ.via (fun d=>(d.Kind,d.Cell,d.gY,d.dV))
instance:Fits dT:=Fits.via (fun d=>(d.Kind,d.Cell,d.gY,d.dV))
theorem aQK{S:cL}{w:World}{cs:List Value}{d:dT}(h:aJ.rd S w cs d):cs=[.int .i64 (d.Kind),.int .i64 (d.Cell),.int .i64 (d.gY),.int .i64 (d.dV)]:=by
  obtain⟨c0,r0,e0,h0,n0⟩:=h
  have q0:c0=[_]:=h0
  obtain⟨c1,r1,e1,h1,n1⟩:=n0
  have q1:c1=[_]:=h1
  obtain⟨c2,r2,e2,h2,n2⟩:=n1
  have q2:c2=[_]:=h2
  have q3:r2=[_]:=n2
  exact by rw [e0,e1,e2,q0,q1,q2,q3];rfl
theorem aJV{S:cL}{w:World}(d:dT):aJ.rd S w [.int .i64 (d.Kind),.int .i64 (d.Cell),.int .i64 (d.gY),.int .i64 (d.dV)] d:=⟨[.int .i64 (d.Kind)],[.int .i64 (d.Cell),.int .i64 (d.gY),.int .i64 (d.dV)],rfl,rfl,⟨[.int .i64 (d.Cell)],[.int .i64 (d.gY),.int .i64 (d.dV)],rfl,rfl,⟨[.int .i64 (d.gY)],[.int .i64 (d.dV)],rfl,rfl,rfl⟩⟩⟩
instance:Flat dT:=⟨fun h=>Flat.own_of (α:=Int×Int×Int×Int) h,fun h=>Flat.no (α:=Int×Int×Int×Int) h⟩
theorem aWQ(d:dT):OP [.int .i64 (d.Kind),.int .i64 (d.Cell),.int .i64 (d.gY),.int .i64 (d.dV)] d []:=(show OP (α:=Int×Int×Int×Int) _ (d.Kind,d.Cell,d.gY,d.dV) _ from (j6 (c1:=[.int .i64 (d.Kind)]) (c2:=[.int .i64 (d.Cell),.int .i64 (d.gY),.int .i64 (d.dV)]) (A:=[]) (B:=[]) (gN rfl) (j6 (c1:=[.int .i64 (d.Cell)]) (c2:=[.int .i64 (d.gY),.int .i64 (d.dV)]) (A:=[]) (B:=[]) (gN rfl) (j6 (c1:=[.int .i64 (d.gY)]) (c2:=[.int .i64 (d.dV)]) (A:=[]) (B:=[]) (gN rfl) (gN rfl) rfl) rfl) rfl))
structure Queue where
  i6:List dT
  deriving DecidableEq,Inhabited
instance:aJ Queue:=aJ.via (fun d=>(d.i6))
instance:Fits Queue:=Fits.via (fun d=>(d.i6))
theorem aQL{S:cL}{w:World}{cs:List Value}{d:Queue}(h:aJ.rd S w cs d):∃v0:Value,cs=[v0]∧aJ.rd S w [v0] d.i6:=by
  obtain⟨u0,q0⟩:=JS h
  rw [q0] at h
  exact⟨u0,q0,h⟩
theorem aQM(d:Queue){v0:Value}:OP [v0] d [fW [v0] d.i6]:=(show OP (α:=(List dT)) _ (d.i6) _ from aJB)
structure FY where
  e9:List Queue
  tL:List Int
  deriving DecidableEq,Inhabited
instance:aJ FY:=aJ.via (fun d=>(d.e9,d.tL))
instance:Fits FY:=Fits.via (fun d=>(d.e9,d.tL))
structure aD where
  Bytes:List Int
  Class:List Int
  deriving DecidableEq,Inhabited
instance:aJ aD:=aJ.via (fun d=>(d.Bytes,d.Class))
instance:Fits aD:=Fits.via (fun d=>(d.Bytes,d.Class))
structure aQ where
  aS:List Int
  deriving DecidableEq,Inhabited
instance:aJ aQ:=aJ.via (fun d=>(d.aS))
instance:Fits aQ:=Fits.via (fun d=>(d.aS))
theorem aH2{S:cL}{w:World}{cs:List Value}{d:aQ}(h:aJ.rd S w cs d):∃v0:Value,cs=[v0]∧aJ.rd S w [v0] d.aS:=by
  obtain⟨u0,q0⟩:=JS h
  rw [q0] at h
  exact⟨u0,q0,h⟩
theorem A6(d:aQ){v0:Value}:OP [v0] d [fW [v0] d.aS]:=(show OP (α:=(List Int)) _ (d.aS) _ from aJB)
theorem _root_.Go.Gv.St.aQN{c:Ctx}{L:List Chunk}{R:List Fact}{w:World}{s:Value}{l:List aQ}{i:Nat}{x:aQ}(h:St c w L R)(j:Nat)(hj:R[j]?=some (A0 [s] l))(hi:l[i]?=some x):∃v0:Value,bY w (O5 s) (OX 1 i s) [v0]∧St c w L (R ++ [A0 [v0] x.aS]):=by
  obtain⟨S,hS,hk⟩:=h.aOF hj
  obtain⟨ec,h1,h2⟩:=aG2 hS hi
  obtain⟨v0,q,q0⟩:=aH2 h2
  rw [q] at h1
  exact⟨v0,h1,hk _ (by intro f hf;simp only [List.mem_cons,List.not_mem_nil,or_false] at hf;subst hf;exact q0)⟩
structure aB where
  Global:List aQ
  Own:List aQ
  deriving DecidableEq,Inhabited
instance:aJ aB:=aJ.via (fun d=>(d.Global,d.Own))
instance:Fits aB:=Fits.via (fun d=>(d.Global,d.Own))
structure Mem where
  aD:aD
  aB:aB
  deriving DecidableEq,Inhabited
instance:aJ Mem:=aJ.via (fun d=>(d.aD,d.aB))
instance:Fits Mem:=Fits.via (fun d=>(d.aD,d.aB))
structure oE where
  On:Bool
  aI:Int
  cX:Bool
  Seen:Int
  deriving DecidableEq,Inhabited
instance:aJ oE:=aJ.via (fun d=>(d.On,d.aI,d.cX,d.Seen))
instance:Fits oE:=Fits.via (fun d=>(d.On,d.aI,d.cX,d.Seen))
theorem aWR{S:cL}{w:World}{cs:List Value}{d:oE}(h:aJ.rd S w cs d):cs=[.bool (d.On),.int .i64 (d.aI),.bool (d.cX),.int .i64 (d.Seen)]:=by
  obtain⟨c0,r0,e0,h0,n0⟩:=h
  have q0:c0=[_]:=h0
  obtain⟨c1,r1,e1,h1,n1⟩:=n0
  have q1:c1=[_]:=h1
  obtain⟨c2,r2,e2,h2,n2⟩:=n1
  have q2:c2=[_]:=h2
  have q3:r2=[_]:=n2
  exact by rw [e0,e1,e2,q0,q1,q2,q3];rfl
theorem aQO{S:cL}{w:World}(d:oE):aJ.rd S w [.bool (d.On),.int .i64 (d.aI),.bool (d.cX),.int .i64 (d.Seen)] d:=⟨[.bool (d.On)],[.int .i64 (d.aI),.bool (d.cX),.int .i64 (d.Seen)],rfl,rfl,⟨[.int .i64 (d.aI)],[.bool (d.cX),.int .i64 (d.Seen)],rfl,rfl,⟨[.bool (d.cX)],[.int .i64 (d.Seen)],rfl,rfl,rfl⟩⟩⟩
instance:Flat oE:=⟨fun h=>Flat.own_of (α:=Bool×Int×Bool×Int) h,fun h=>Flat.no (α:=Bool×Int×Bool×Int) h⟩
theorem aWS(d:oE):OP [.bool (d.On),.int .i64 (d.aI),.bool (d.cX),.int .i64 (d.Seen)] d []:=(show OP (α:=Bool×Int×Bool×Int) _ (d.On,d.aI,d.cX,d.Seen) _ from (j6 (c1:=[.bool (d.On)]) (c2:=[.int .i64 (d.aI),.bool (d.cX),.int .i64 (d.Seen)]) (A:=[]) (B:=[]) (gN rfl) (j6 (c1:=[.int .i64 (d.aI)]) (c2:=[.bool (d.cX),.int .i64 (d.Seen)]) (A:=[]) (B:=[]) (gN rfl) (j6 (c1:=[.bool (d.cX)]) (c2:=[.int .i64 (d.Seen)]) (A:=[]) (B:=[]) (gN rfl) (gN rfl) rfl) rfl) rfl))
structure aC where
  aI:Int
  cH:List oE
  deriving DecidableEq,Inhabited
instance:aJ aC:=aJ.via (fun d=>(d.aI,d.cH))
instance:Fits aC:=Fits.via (fun d=>(d.aI,d.cH))
structure cW where
  Handle:Int
  aI:Int
  deriving DecidableEq,Inhabited
instance:aJ cW:=aJ.via (fun d=>(d.Handle,d.aI))
instance:Fits cW:=Fits.via (fun d=>(d.Handle,d.aI))
theorem aL3{S:cL}{w:World}{cs:List Value}{d:cW}(h:aJ.rd S w cs d):cs=[.int .i64 (d.Handle),.int .i64 (d.aI)]:=by
  obtain⟨c0,r0,e0,h0,n0⟩:=h
  have q0:c0=[_]:=h0
  have q1:r0=[_]:=n0
  exact by rw [e0,q0,q1];rfl
theorem aTV{S:cL}{w:World}(d:cW):aJ.rd S w [.int .i64 (d.Handle),.int .i64 (d.aI)] d:=⟨[.int .i64 (d.Handle)],[.int .i64 (d.aI)],rfl,rfl,rfl⟩
instance:Flat cW:=⟨fun h=>Flat.own_of (α:=Int×Int) h,fun h=>Flat.no (α:=Int×Int) h⟩
theorem aTW(d:cW):OP [.int .i64 (d.Handle),.int .i64 (d.aI)] d []:=(show OP (α:=Int×Int) _ (d.Handle,d.aI) _ from (j6 (c1:=[.int .i64 (d.Handle)]) (c2:=[.int .i64 (d.aI)]) (A:=[]) (B:=[]) (gN rfl) (gN rfl) rfl))
theorem aTX{S:cL}{w:World}{s:Value}{l:List cW}{i:Nat}{x:cW}(h:aJ.rd S w [s] l)(hi:l[i]?=some x):bY w (O5 s) (OX 2 i s) [.int .i64 (x.Handle),.int .i64 (x.aI)]:=by
  obtain⟨ec,h1,h2⟩:=aG2 h hi
  rw [aL3 h2] at h1;exact h1
structure bA where
  Rows:List cW
  deriving DecidableEq,Inhabited
instance:aJ bA:=aJ.via (fun d=>(d.Rows))
instance:Fits bA:=Fits.via (fun d=>(d.Rows))
theorem aH3{S:cL}{w:World}{cs:List Value}{d:bA}(h:aJ.rd S w cs d):∃v0:Value,cs=[v0]∧aJ.rd S w [v0] d.Rows:=by
  obtain⟨u0,q0⟩:=JS h
  rw [q0] at h
  exact⟨u0,q0,h⟩
theorem aAQ(d:bA){v0:Value}:OP [v0] d [fW [v0] d.Rows]:=(show OP (α:=(List cW)) _ (d.Rows) _ from aJB)
theorem _root_.Go.Gv.St.aH4{c:Ctx}{L:List Chunk}{R:List Fact}{w:World}{s:Value}{l:List bA}{i:Nat}{x:bA}(h:St c w L R)(j:Nat)(hj:R[j]?=some (A0 [s] l))(hi:l[i]?=some x):∃v0:Value,bY w (O5 s) (OX 1 i s) [v0]∧St c w L (R ++ [A0 [v0] x.Rows]):=by
  obtain⟨S,hS,hk⟩:=h.aOF hj
  obtain⟨ec,h1,h2⟩:=aG2 hS hi
  obtain⟨v0,q,q0⟩:=aH3 h2
  rw [q] at h1
  exact⟨v0,h1,hk _ (by intro f hf;simp only [List.mem_cons,List.not_mem_nil,or_false] at hf;subst hf;exact q0)⟩
structure aA where
  Mem:Mem
  aC:aC
  aP:List bA
  nA:List Int
  deriving DecidableEq,Inhabited
instance:aJ aA:=aJ.via (fun d=>(d.Mem,d.aC,d.aP,d.nA))
instance:Fits aA:=Fits.via (fun d=>(d.Mem,d.aC,d.aP,d.nA))
structure Sub where
  Kind:Int
  A:Int
  Pc:Int
  E:Int
  Row:Int
  B:Int
  H:Int
  Out:Int
  Code:Int
  cV:Bool
  deriving DecidableEq,Inhabited
instance:aJ Sub:=aJ.via (fun d=>(d.Kind,d.A,d.Pc,d.E,d.Row,d.B,d.H,d.Out,d.Code,d.cV))
instance:Fits Sub:=Fits.via (fun d=>(d.Kind,d.A,d.Pc,d.E,d.Row,d.B,d.H,d.Out,d.Code,d.cV))
theorem aWT{S:cL}{w:World}{cs:List Value}{d:Sub}(h:aJ.rd S w cs d):cs=[.int .i64 (d.Kind),.int .i64 (d.A),.int .i64 (d.Pc),.int .i64 (d.E),.int .i64 (d.Row),.int .i64 (d.B),.int .i64 (d.H),.int .i64 (d.Out),.int .i64 (d.Code),.bool (d.cV)]:=by
  obtain⟨c0,r0,e0,h0,n0⟩:=h
  have q0:c0=[_]:=h0
  obtain⟨c1,r1,e1,h1,n1⟩:=n0
  have q1:c1=[_]:=h1
  obtain⟨c2,r2,e2,h2,n2⟩:=n1
  have q2:c2=[_]:=h2
  obtain⟨c3,r3,e3,h3,n3⟩:=n2
  have q3:c3=[_]:=h3
  obtain⟨c4,r4,e4,h4,n4⟩:=n3
  have q4:c4=[_]:=h4
  obtain⟨c5,r5,e5,h5,n5⟩:=n4
  have q5:c5=[_]:=h5
  obtain⟨c6,r6,e6,h6,n6⟩:=n5
  have q6:c6=[_]:=h6
  obtain⟨c7,r7,e7,h7,n7⟩:=n6
  have q7:c7=[_]:=h7
  obtain⟨c8,r8,e8,h8,n8⟩:=n7
  have q8:c8=[_]:=h8
  have q9:r8=[_]:=n8
  exact by rw [e0,e1,e2,e3,e4,e5,e6,e7,e8,q0,q1,q2,q3,q4,q5,q6,q7,q8,q9];rfl
theorem aQP{S:cL}{w:World}(d:Sub):aJ.rd S w [.int .i64 (d.Kind),.int .i64 (d.A),.int .i64 (d.Pc),.int .i64 (d.E),.int .i64 (d.Row),.int .i64 (d.B),.int .i64 (d.H),.int .i64 (d.Out),.int .i64 (d.Code),.bool (d.cV)] d:=⟨[.int .i64 (d.Kind)],[.int .i64 (d.A),.int .i64 (d.Pc),.int .i64 (d.E),.int .i64 (d.Row),.int .i64 (d.B),.int .i64 (d.H),.int .i64 (d.Out),.int .i64 (d.Code),.bool (d.cV)],rfl,rfl,⟨[.int .i64 (d.A)],[.int .i64 (d.Pc),.int .i64 (d.E),.int .i64 (d.Row),.int .i64 (d.B),.int .i64 (d.H),.int .i64 (d.Out),.int .i64 (d.Code),.bool (d.cV)],rfl,rfl,⟨[.int .i64 (d.Pc)],[.int .i64 (d.E),.int .i64 (d.Row),.int .i64 (d.B),.int .i64 (d.H),.int .i64 (d.Out),.int .i64 (d.Code),.bool (d.cV)],rfl,rfl,⟨[.int .i64 (d.E)],[.int .i64 (d.Row),.int .i64 (d.B),.int .i64 (d.H),.int .i64 (d.Out),.int .i64 (d.Code),.bool (d.cV)],rfl,rfl,⟨[.int .i64 (d.Row)],[.int .i64 (d.B),.int .i64 (d.H),.int .i64 (d.Out),.int .i64 (d.Code),.bool (d.cV)],rfl,rfl,⟨[.int .i64 (d.B)],[.int .i64 (d.H),.int .i64 (d.Out),.int .i64 (d.Code),.bool (d.cV)],rfl,rfl,⟨[.int .i64 (d.H)],[.int .i64 (d.Out),.int .i64 (d.Code),.bool (d.cV)],rfl,rfl,⟨[.int .i64 (d.Out)],[.int .i64 (d.Code),.bool (d.cV)],rfl,rfl,⟨[.int .i64 (d.Code)],[.bool (d.cV)],rfl,rfl,rfl⟩⟩⟩⟩⟩⟩⟩⟩⟩
instance:Flat Sub:=⟨fun h=>Flat.own_of (α:=Int×Int×Int×Int×Int×Int×Int×Int×Int×Bool) h,fun h=>Flat.no (α:=Int×Int×Int×Int×Int×Int×Int×Int×Int×Bool) h⟩
structure bE where
  eG:Bool
  Op:dT
  aK:Int
  Pc:Int
  Sub:Sub
  H:Int
  Old:Int
  dV:Int
  Code:Int
  deriving DecidableEq,Inhabited
instance:aJ bE:=aJ.via (fun d=>(d.eG,d.Op,d.aK,d.Pc,d.Sub,d.H,d.Old,d.dV,d.Code))
instance:Fits bE:=Fits.via (fun d=>(d.eG,d.Op,d.aK,d.Pc,d.Sub,d.H,d.Old,d.dV,d.Code))
theorem aWU{S:cL}{w:World}{cs:List Value}{d:bE}(h:aJ.rd S w cs d):cs=[.bool (d.eG),.int .i64 (d.Op.Kind),.int .i64 (d.Op.Cell),.int .i64 (d.Op.gY),.int .i64 (d.Op.dV),.int .i64 (d.aK),.int .i64 (d.Pc),.int .i64 (d.Sub.Kind),.int .i64 (d.Sub.A),.int .i64 (d.Sub.Pc),.int .i64 (d.Sub.E),.int .i64 (d.Sub.Row),.int .i64 (d.Sub.B),.int .i64 (d.Sub.H),.int .i64 (d.Sub.Out),.int .i64 (d.Sub.Code),.bool (d.Sub.cV),.int .i64 (d.H),.int .i64 (d.Old),.int .i64 (d.dV),.int .i64 (d.Code)]:=by
  obtain⟨c0,r0,e0,h0,n0⟩:=h
  have q0:c0=[_]:=h0
  obtain⟨c1,r1,e1,h1,n1⟩:=n0
  have q1:=aQK h1
  obtain⟨c2,r2,e2,h2,n2⟩:=n1
  have q2:c2=[_]:=h2
  obtain⟨c3,r3,e3,h3,n3⟩:=n2
  have q3:c3=[_]:=h3
  obtain⟨c4,r4,e4,h4,n4⟩:=n3
  have q4:=aWT h4
  obtain⟨c5,r5,e5,h5,n5⟩:=n4
  have q5:c5=[_]:=h5
  obtain⟨c6,r6,e6,h6,n6⟩:=n5
  have q6:c6=[_]:=h6
  obtain⟨c7,r7,e7,h7,n7⟩:=n6
  have q7:c7=[_]:=h7
  have q8:r7=[_]:=n7
  exact by rw [e0,e1,e2,e3,e4,e5,e6,e7,q0,q1,q2,q3,q4,q5,q6,q7,q8];rfl
theorem sZ{S:cL}{w:World}(d:bE):aJ.rd S w [.bool (d.eG),.int .i64 (d.Op.Kind),.int .i64 (d.Op.Cell),.int .i64 (d.Op.gY),.int .i64 (d.Op.dV),.int .i64 (d.aK),.int .i64 (d.Pc),.int .i64 (d.Sub.Kind),.int .i64 (d.Sub.A),.int .i64 (d.Sub.Pc),.int .i64 (d.Sub.E),.int .i64 (d.Sub.Row),.int .i64 (d.Sub.B),.int .i64 (d.Sub.H),.int .i64 (d.Sub.Out),.int .i64 (d.Sub.Code),.bool (d.Sub.cV),.int .i64 (d.H),.int .i64 (d.Old),.int .i64 (d.dV),.int .i64 (d.Code)] d:=⟨[.bool (d.eG)],[.int .i64 (d.Op.Kind),.int .i64 (d.Op.Cell),.int .i64 (d.Op.gY),.int .i64 (d.Op.dV),.int .i64 (d.aK),.int .i64 (d.Pc),.int .i64 (d.Sub.Kind),.int .i64 (d.Sub.A),.int .i64 (d.Sub.Pc),.int .i64 (d.Sub.E),.int .i64 (d.Sub.Row),.int .i64 (d.Sub.B),.int .i64 (d.Sub.H),.int .i64 (d.Sub.Out),.int .i64 (d.Sub.Code),.bool (d.Sub.cV),.int .i64 (d.H),.int .i64 (d.Old),.int .i64 (d.dV),.int .i64 (d.Code)],rfl,rfl,⟨[.int .i64 (d.Op.Kind),.int .i64 (d.Op.Cell),.int .i64 (d.Op.gY),.int .i64 (d.Op.dV)],[.int .i64 (d.aK),.int .i64 (d.Pc),.int .i64 (d.Sub.Kind),.int .i64 (d.Sub.A),.int .i64 (d.Sub.Pc),.int .i64 (d.Sub.E),.int .i64 (d.Sub.Row),.int .i64 (d.Sub.B),.int .i64 (d.Sub.H),.int .i64 (d.Sub.Out),.int .i64 (d.Sub.Code),.bool (d.Sub.cV),.int .i64 (d.H),.int .i64 (d.Old),.int .i64 (d.dV),.int .i64 (d.Code)],rfl,(aJV _),⟨[.int .i64 (d.aK)],[.int .i64 (d.Pc),.int .i64 (d.Sub.Kind),.int .i64 (d.Sub.A),.int .i64 (d.Sub.Pc),.int .i64 (d.Sub.E),.int .i64 (d.Sub.Row),.int .i64 (d.Sub.B),.int .i64 (d.Sub.H),.int .i64 (d.Sub.Out),.int .i64 (d.Sub.Code),.bool (d.Sub.cV),.int .i64 (d.H),.int .i64 (d.Old),.int .i64 (d.dV),.int .i64 (d.Code)],rfl,rfl,⟨[.int .i64 (d.Pc)],[.int .i64 (d.Sub.Kind),.int .i64 (d.Sub.A),.int .i64 (d.Sub.Pc),.int .i64 (d.Sub.E),.int .i64 (d.Sub.Row),.int .i64 (d.Sub.B),.int .i64 (d.Sub.H),.int .i64 (d.Sub.Out),.int .i64 (d.Sub.Code),.bool (d.Sub.cV),.int .i64 (d.H),.int .i64 (d.Old),.int .i64 (d.dV),.int .i64 (d.Code)],rfl,rfl,⟨[.int .i64 (d.Sub.Kind),.int .i64 (d.Sub.A),.int .i64 (d.Sub.Pc),.int .i64 (d.Sub.E),.int .i64 (d.Sub.Row),.int .i64 (d.Sub.B),.int .i64 (d.Sub.H),.int .i64 (d.Sub.Out),.int .i64 (d.Sub.Code),.bool (d.Sub.cV)],[.int .i64 (d.H),.int .i64 (d.Old),.int .i64 (d.dV),.int .i64 (d.Code)],rfl,(aQP _),⟨[.int .i64 (d.H)],[.int .i64 (d.Old),.int .i64 (d.dV),.int .i64 (d.Code)],rfl,rfl,⟨[.int .i64 (d.Old)],[.int .i64 (d.dV),.int .i64 (d.Code)],rfl,rfl,⟨[.int .i64 (d.dV)],[.int .i64 (d.Code)],rfl,rfl,rfl⟩⟩⟩⟩⟩⟩⟩⟩
instance:Flat bE:=⟨fun h=>Flat.own_of (α:=Bool×dT×Int×Int×Sub×Int×Int×Int×Int) h,fun h=>Flat.no (α:=Bool×dT×Int×Int×Sub×Int×Int×Int×Int) h⟩
theorem aWV(d:bE):OP [.bool (d.eG),.int .i64 (d.Op.Kind),.int .i64 (d.Op.Cell),.int .i64 (d.Op.gY),.int .i64 (d.Op.dV),.int .i64 (d.aK),.int .i64 (d.Pc),.int .i64 (d.Sub.Kind),.int .i64 (d.Sub.A),.int .i64 (d.Sub.Pc),.int .i64 (d.Sub.E),.int .i64 (d.Sub.Row),.int .i64 (d.Sub.B),.int .i64 (d.Sub.H),.int .i64 (d.Sub.Out),.int .i64 (d.Sub.Code),.bool (d.Sub.cV),.int .i64 (d.H),.int .i64 (d.Old),.int .i64 (d.dV),.int .i64 (d.Code)] d []:=(show OP (α:=Bool×dT×Int×Int×Sub×Int×Int×Int×Int) _ (d.eG,d.Op,d.aK,d.Pc,d.Sub,d.H,d.Old,d.dV,d.Code) _ from (j6 (c1:=[.bool (d.eG)]) (c2:=[.int .i64 (d.Op.Kind),.int .i64 (d.Op.Cell),.int .i64 (d.Op.gY),.int .i64 (d.Op.dV),.int .i64 (d.aK),.int .i64 (d.Pc),.int .i64 (d.Sub.Kind),.int .i64 (d.Sub.A),.int .i64 (d.Sub.Pc),.int .i64 (d.Sub.E),.int .i64 (d.Sub.Row),.int .i64 (d.Sub.B),.int .i64 (d.Sub.H),.int .i64 (d.Sub.Out),.int .i64 (d.Sub.Code),.bool (d.Sub.cV),.int .i64 (d.H),.int .i64 (d.Old),.int .i64 (d.dV),.int .i64 (d.Code)]) (A:=[]) (B:=[]) (gN rfl) (j6 (c1:=[.int .i64 (d.Op.Kind),.int .i64 (d.Op.Cell),.int .i64 (d.Op.gY),.int .i64 (d.Op.dV)]) (c2:=[.int .i64 (d.aK),.int .i64 (d.Pc),.int .i64 (d.Sub.Kind),.int .i64 (d.Sub.A),.int .i64 (d.Sub.Pc),.int .i64 (d.Sub.E),.int .i64 (d.Sub.Row),.int .i64 (d.Sub.B),.int .i64 (d.Sub.H),.int .i64 (d.Sub.Out),.int .i64 (d.Sub.Code),.bool (d.Sub.cV),.int .i64 (d.H),.int .i64 (d.Old),.int .i64 (d.dV),.int .i64 (d.Code)]) (A:=[]) (B:=[]) (gN (aJV _)) (j6 (c1:=[.int .i64 (d.aK)]) (c2:=[.int .i64 (d.Pc),.int .i64 (d.Sub.Kind),.int .i64 (d.Sub.A),.int .i64 (d.Sub.Pc),.int .i64 (d.Sub.E),.int .i64 (d.Sub.Row),.int .i64 (d.Sub.B),.int .i64 (d.Sub.H),.int .i64 (d.Sub.Out),.int .i64 (d.Sub.Code),.bool (d.Sub.cV),.int .i64 (d.H),.int .i64 (d.Old),.int .i64 (d.dV),.int .i64 (d.Code)]) (A:=[]) (B:=[]) (gN rfl) (j6 (c1:=[.int .i64 (d.Pc)]) (c2:=[.int .i64 (d.Sub.Kind),.int .i64 (d.Sub.A),.int .i64 (d.Sub.Pc),.int .i64 (d.Sub.E),.int .i64 (d.Sub.Row),.int .i64 (d.Sub.B),.int .i64 (d.Sub.H),.int .i64 (d.Sub.Out),.int .i64 (d.Sub.Code),.bool (d.Sub.cV),.int .i64 (d.H),.int .i64 (d.Old),.int .i64 (d.dV),.int .i64 (d.Code)]) (A:=[]) (B:=[]) (gN rfl) (j6 (c1:=[.int .i64 (d.Sub.Kind),.int .i64 (d.Sub.A),.int .i64 (d.Sub.Pc),.int .i64 (d.Sub.E),.int .i64 (d.Sub.Row),.int .i64 (d.Sub.B),.int .i64 (d.Sub.H),.int .i64 (d.Sub.Out),.int .i64 (d.Sub.Code),.bool (d.Sub.cV)]) (c2:=[.int .i64 (d.H),.int .i64 (d.Old),.int .i64 (d.dV),.int .i64 (d.Code)]) (A:=[]) (B:=[]) (gN (aQP _)) (j6 (c1:=[.int .i64 (d.H)]) (c2:=[.int .i64 (d.Old),.int .i64 (d.dV),.int .i64 (d.Code)]) (A:=[]) (B:=[]) (gN rfl) (j6 (c1:=[.int .i64 (d.Old)]) (c2:=[.int .i64 (d.dV),.int .i64 (d.Code)]) (A:=[]) (B:=[]) (gN rfl) (j6 (c1:=[.int .i64 (d.dV)]) (c2:=[.int .i64 (d.Code)]) (A:=[]) (B:=[]) (gN rfl) (gN rfl) rfl) rfl) rfl) rfl) rfl) rfl) rfl) rfl))
structure Ev where
  Kind:Int
  Who:Int
  aK:Int
  Cell:Int
  Handle:Int
  dV:Int
  Code:Int
  deriving DecidableEq,Inhabited
instance:aJ Ev:=aJ.via (fun d=>(d.Kind,d.Who,d.aK,d.Cell,d.Handle,d.dV,d.Code))
instance:Fits Ev:=Fits.via (fun d=>(d.Kind,d.Who,d.aK,d.Cell,d.Handle,d.dV,d.Code))
theorem aYR{S:cL}{w:World}{cs:List Value}{d:Ev}(h:aJ.rd S w cs d):cs=[.int .i64 (d.Kind),.int .i64 (d.Who),.int .i64 (d.aK),.int .i64 (d.Cell),.int .i64 (d.Handle),.int .i64 (d.dV),.int .i64 (d.Code)]:=by
  obtain⟨c0,r0,e0,h0,n0⟩:=h
  have q0:c0=[_]:=h0
  obtain⟨c1,r1,e1,h1,n1⟩:=n0
  have q1:c1=[_]:=h1
  obtain⟨c2,r2,e2,h2,n2⟩:=n1
  have q2:c2=[_]:=h2
  obtain⟨c3,r3,e3,h3,n3⟩:=n2
  have q3:c3=[_]:=h3
  obtain⟨c4,r4,e4,h4,n4⟩:=n3
  have q4:c4=[_]:=h4
  obtain⟨c5,r5,e5,h5,n5⟩:=n4
  have q5:c5=[_]:=h5
  have q6:r5=[_]:=n5
  exact by rw [e0,e1,e2,e3,e4,e5,q0,q1,q2,q3,q4,q5,q6];rfl
instance:Flat Ev:=⟨fun h=>Flat.own_of (α:=Int×Int×Int×Int×Int×Int×Int) h,fun h=>Flat.no (α:=Int×Int×Int×Int×Int×Int×Int) h⟩
theorem aYS(d:Ev):OP [.int .i64 (d.Kind),.int .i64 (d.Who),.int .i64 (d.aK),.int .i64 (d.Cell),.int .i64 (d.Handle),.int .i64 (d.dV),.int .i64 (d.Code)] d []:=(show OP (α:=Int×Int×Int×Int×Int×Int×Int) _ (d.Kind,d.Who,d.aK,d.Cell,d.Handle,d.dV,d.Code) _ from (j6 (c1:=[.int .i64 (d.Kind)]) (c2:=[.int .i64 (d.Who),.int .i64 (d.aK),.int .i64 (d.Cell),.int .i64 (d.Handle),.int .i64 (d.dV),.int .i64 (d.Code)]) (A:=[]) (B:=[]) (gN rfl) (j6 (c1:=[.int .i64 (d.Who)]) (c2:=[.int .i64 (d.aK),.int .i64 (d.Cell),.int .i64 (d.Handle),.int .i64 (d.dV),.int .i64 (d.Code)]) (A:=[]) (B:=[]) (gN rfl) (j6 (c1:=[.int .i64 (d.aK)]) (c2:=[.int .i64 (d.Cell),.int .i64 (d.Handle),.int .i64 (d.dV),.int .i64 (d.Code)]) (A:=[]) (B:=[]) (gN rfl) (j6 (c1:=[.int .i64 (d.Cell)]) (c2:=[.int .i64 (d.Handle),.int .i64 (d.dV),.int .i64 (d.Code)]) (A:=[]) (B:=[]) (gN rfl) (j6 (c1:=[.int .i64 (d.Handle)]) (c2:=[.int .i64 (d.dV),.int .i64 (d.Code)]) (A:=[]) (B:=[]) (gN rfl) (j6 (c1:=[.int .i64 (d.dV)]) (c2:=[.int .i64 (d.Code)]) (A:=[]) (B:=[]) (gN rfl) (gN rfl) rfl) rfl) rfl) rfl) rfl) rfl))
structure aG where
  aA:aA
  Cells:List Int
  aX:List bE
  e9:List Queue
  Log:List Ev
  aK:Int
  deriving DecidableEq,Inhabited
instance:aJ aG:=aJ.via (fun d=>(d.aA,d.Cells,d.aX,d.e9,d.Log,d.aK))
instance:Fits aG:=Fits.via (fun d=>(d.aA,d.Cells,d.aX,d.e9,d.Log,d.aK))
structure Span where
  aQQ:Int
  To:Int
  deriving DecidableEq,Inhabited
instance:aJ Span:=aJ.via (fun d=>(d.aQQ,d.To))
instance:Fits Span:=Fits.via (fun d=>(d.aQQ,d.To))
instance:Flat Span:=⟨fun h=>Flat.own_of (α:=Int×Int) h,fun h=>Flat.no (α:=Int×Int) h⟩
end Go.Gv
end
noncomputable section
namespace Go.Gv
noncomputable section
def aAR(code:List UInt8):Option Bool:=
  some (decide (1048576 < (code.length:Int)))
def aC9(x5:Int):Option (Int×Int):=
  some (0,x5)
def D6(code:List UInt8)(x3 x4:Int)(x6:Bool):Option (Step (Int×Int) Int):=
  (if x6 then (idx code x4).bind fun x7=>some (.next (gU .and .i64 (bB ((bB ((bB (x3 * 131))+(x7.toNat:Int)))+7)) 1073741823,bB (x4+1))) else some (.stop (x3)))
def RX(code:List UInt8):(Int×Int)→Option (Step (Int×Int) Int)
  | (x3,x4)=>(if decide (x4 < (code.length:Int)) then D6 code x3 x4 (decide (x4 < 4000)) else D6 code x3 x4 false)
def aDA:Int→Option (Int×Int)
  | x5=>aC9 x5
def MY(code:List UInt8):Option (Int×Int):=
  (loop (RX code) (bB (10101+(code.length:Int)),0)).bind (aDA)
def A7(c:dW)(x1 x2:Int):Option (Int×(Int×Int)):=
  some (x1,(x2,bB ((bB (c.h * 6364136223846793005))+1442695040888963407)))
def qB(c:dW):Option (Int×(Int×Int)):=
  (if decide (c.i < (c.b.length:Int)) then (idx c.b c.i).bind fun x3=>A7 c (gU .and .i64 (bB ((gU .and .i64 (gU .xor .i64 (nH .i64 (bB ((bB (c.h * 6364136223846793005))+1442695040888963407)) 33) (nH .i64 (bB ((bB (c.h * 6364136223846793005))+1442695040888963407)) 45)) 255)+(x3.toNat:Int))) 255) (bB (c.i+1)) else A7 c (gU .and .i64 (gU .xor .i64 (nH .i64 (bB ((bB (c.h * 6364136223846793005))+1442695040888963407)) 33) (nH .i64 (bB ((bB (c.h * 6364136223846793005))+1442695040888963407)) 45)) 255) c.i)
def fZ(c:dW)(n:Int):Option (Int×(Int×Int)):=
  (if decide (n≤0) then some (0,(c.i,c.h)) else (if decide (n≤256) then (qB c).bind fun x1=>need (n≠0) (some (Int.tmod x1.1 n,(x1.2.1,x1.2.2))) else (qB c).bind fun x2=>(qB (⟨c.b,x2.2.1,x2.2.2⟩:dW)).bind fun x3=>(qB (⟨c.b,x3.2.1,x3.2.2⟩:dW)).bind fun x4=>(qB (⟨c.b,x4.2.1,x4.2.2⟩:dW)).bind fun x5=>need (n≠0) (some (Int.tmod (bB ((bB ((bB ((bB (x2.1 * 16777216))+(bB (x3.1 * 65536))))+(bB (x4.1 * 256))))+x5.1)) n,(x5.2.1,x5.2.2)))))
def PF(c:dW)(n:Int):Option (Bool×(Int×Int)):=
  (fZ c n).bind fun x1=>some (x1.1 == 0,(x1.2.1,x1.2.2))
def pA(c:dW)(list:List Int):Option (Int×(Int×Int)):=
  (fZ c (list.length:Int)).bind fun x1=>(idx list x1.1).bind fun x2=>some (x2,(x1.2.1,x1.2.2))
def kP(x1:Bool):Option Bool:=
  some x1
def tS(kind:Int):Option Bool:=
  (if kind == 1 then kP true else (if kind == 2 then kP true else (if kind == 3 then kP true else kP (kind == 7))))
def D7(x1:Int×(Int×Int))(x4 x5 x6 x7 x8:Int):Option (dT×(Int×Int)):=
  some ((⟨x1.1,x4,x7,x8⟩:dT),(x5,x6))
def D8(c:dW)(x1:Int×(Int×Int))(x4 x10 x11 x12:Int):Option (dT×(Int×Int)):=
  (fZ (⟨c.b,x10,x11⟩:dW) 60000).bind fun x13=>D7 x1 x4 x13.2.1 x13.2.2 x12 x13.1
def xA(c:dW)(x1:Int×(Int×Int))(x2 x3 x4:Int):Option (dT×(Int×Int)):=
  (if x1.1 == 1 then (fZ (⟨c.b,x2,x3⟩:dW) 40).bind fun x9=>(PF (⟨c.b,x9.2.1,x9.2.2⟩:dW) 12).bind fun x14=>(if x14.1 then (pA (⟨c.b,x14.2.1,x14.2.2⟩:dW) ([0,41,100]:List Int)).bind fun x15=>D8 c x1 x4 x15.2.1 x15.2.2 x15.1 else D8 c x1 x4 x14.2.1 x14.2.2 (bB (1+x9.1))) else D7 x1 x4 x2 x3 0 0)
def MZ(c:dW):Option (dT×(Int×Int)):=
  (pA c ([1,1,1,2,2,3,3,4,4,5,6,7,7]:List Int)).bind fun x1=>(tS x1.1).bind fun x16=>(if x16 then (pA (⟨c.b,x1.2.1,x1.2.2⟩:dW) ([0,0,0,1]:List Int)).bind fun x17=>xA c x1 x17.2.1 x17.2.2 x17.1 else xA c x1 x1.2.1 x1.2.2 0)
def T7(x9:List Queue)(x10 x11:Int):Option ((List Queue)×(Int×Int)):=
  some (x9,(x10,x11))
def JV(x5:List Queue)(x6 x21 x22:Int)(x23:List dT):Option (Step ((List Queue)×Int×Int×Int) ((List Queue)×Int×Int)):=
  need (x5.length+([(⟨x23⟩:Queue)]).length≤1073741824) (some (.next (x5++([(⟨x23⟩:Queue)]),bB (x6+1),x21,x22)))
def A8(x17 x24 x25:Int)(x26:List dT):Option (Step (Int×Int×Int×(List dT)) (Int×Int×(List dT))):=
  some (.next (bB (x17 - 1),x24,x25,x26))
def JW(c:dW):(Int×Int×Int×(List dT))→Option (Step (Int×Int×Int×(List dT)) (Int×Int×(List dT)))
  | (x17,x18,x19,x20)=>(if decide (0 < x17) then (MZ (⟨c.b,x18,x19⟩:dW)).bind fun x27=>need (x20.length+([x27.1]).length≤1073741824)<|A8 x17 x27.2.1 x27.2.2 (x20++([x27.1])) else some (.stop ((x18,x19,x20))))
def JX(x5:List Queue)(x6:Int):(Int×Int×(List dT))→Option (Step ((List Queue)×Int×Int×Int) ((List Queue)×Int×Int))
  | (x21,x22,x23)=>JV x5 x6 x21 x22 x23
def JY(c:dW)(most:Int):((List Queue)×Int×Int×Int)→Option (Step ((List Queue)×Int×Int×Int) ((List Queue)×Int×Int))
  | (x5,x6,x7,x8)=>(if decide (x6 < 3) then (fZ (⟨c.b,x7,x8⟩:dW) (bB (most+1))).bind fun x12=>(loop (JW c) (x12.1,x12.2.1,x12.2.2,[])).bind (JX x5 x6) else some (.stop ((x5,x7,x8))))
def T8:((List Queue)×Int×Int)→Option ((List Queue)×(Int×Int))
  | (x9,x10,x11)=>T7 x9 x10 x11
def tT(c:dW)(most:Int):Option ((List Queue)×(Int×Int)):=
  (loop (JY c most) (([]:List Queue),0,c.i,c.h)).bind (T8)
def VW(x10:List Int)(x11 x12:Int):Option ((List Int)×(Int×Int)):=
  some (x10,(x11,x12))
def LQ(x7:Int)(x14:Int×(Int×Int))(x19:List Int):Option (Step ((List Int)×Int×Int×Int) ((List Int)×Int×Int)):=
  some (.next (x19,bB (x7 - 1),x14.2.1,x14.2.2))
def LR(x13:Int×(Int×Int)):((List Int)×Int)→Option (Step ((List Int)×Int) (List Int))
  | (x17,x18)=>(if decide (0 < x18) then need (x17.length+([x13.1]).length≤1073741824) (some (.next (x17++([x13.1]),bB (x18 - 1)))) else some (.stop (x17)))
def LS(x7:Int)(x14:Int×(Int×Int)):(List Int)→Option (Step ((List Int)×Int×Int×Int) ((List Int)×Int×Int))
  | x19=>LQ x7 x14 x19
def LU(c:dW):((List Int)×Int×Int×Int)→Option (Step ((List Int)×Int×Int×Int) ((List Int)×Int×Int))
  | (x6,x7,x8,x9)=>(if decide (0 < x7) then (fZ (⟨c.b,x8,x9⟩:dW) 3).bind fun x13=>(fZ (⟨c.b,x13.2.1,x13.2.2⟩:dW) 4).bind fun x14=>(loop (LR x13) (x6,bB (1+x14.1))).bind (LS x7 x14) else some (.stop ((x6,x8,x9))))
def VX:((List Int)×Int×Int)→Option ((List Int)×(Int×Int))
  | (x10,x11,x12)=>VW x10 x11 x12
def D9(c:dW)(most:Int):Option ((List Int)×(Int×Int)):=
  (fZ c most).bind fun x1=>(loop (LU c) (([]:List Int),x1.1,x1.2.1,x1.2.2)).bind (VX)
def jY(x2:List Queue)(x3 x4:Int):Option ((List Queue)×(Int×Int)):=
  some (x2,(x3,x4))
def zX(x6:List Queue)(x7 x8:Int):Option ((List Queue)×(Int×Int)):=
  jY x6 x7 x8
def S7(x17:List Queue)(x18 x19:Int):Option ((List Queue)×(Int×Int)):=
  jY x17 x18 x19
def zY(x14:List Queue)(x20:Bool)(x21 x22:Int):Option (Step ((List Queue)×Int×Int) ((List Queue)×Int×Int)):=
  (if x20 then (idx x14 1).bind fun x23=>need (x23.i6.length+([(⟨4,0,0,0⟩:dT)]).length≤1073741824) (some (.next (x14.set ((1:Int).toNat) (⟨x23.i6++([(⟨4,0,0,0⟩:dT)])⟩:Queue),x21,x22))) else some (.stop ((x14,x21,x22))))
def IB(c:dW):((List Queue)×Int×Int)→Option (Step ((List Queue)×Int×Int) ((List Queue)×Int×Int))
  | (x14,x15,x16)=>(idx x14 1).bind fun x24=>(fZ (⟨c.b,x15,x16⟩:dW) 2).bind fun x25=>zY x14 (decide ((x24.i6.length:Int) < (bB (12+x25.1)))) x25.2.1 x25.2.2
def S8:((List Queue)×Int×Int)→Option ((List Queue)×(Int×Int))
  | (x17,x18,x19)=>S7 x17 x18 x19
def yX(c:dW):Option ((List Queue)×(Int×Int)):=
  (tT c 7).bind fun x1=>(fZ (⟨c.b,x1.2.1,x1.2.2⟩:dW) 20).bind fun x5=>(if x5.1 == 0 then need (0≤(2:Int)∧(2:Int)≤(x1.1.length:Int)) (some ((x1.1.take ((2:Int).toNat)).drop 0,(x5.2.1,x5.2.2))) else (if x5.1 == 1 then (idx x1.1 0).bind fun x9=>(pA (⟨c.b,x5.2.1,x5.2.2⟩:dW) ([0,8]:List Int)).bind fun x10=>need (x9.i6.length+([(⟨x10.1,0,0,0⟩:dT)]).length≤1073741824)<|zX (x1.1.set ((0:Int).toNat) (⟨x9.i6++([(⟨x10.1,0,0,0⟩:dT)])⟩:Queue)) x10.2.1 x10.2.2 else (if x5.1 == 2 then (loop (IB c) (x1.1,x5.2.1,x5.2.2)).bind (S8) else (if x5.1 == 3 then (idx x1.1 2).bind fun x26=>need (x26.i6.length+([(⟨2,2,0,0⟩:dT)]).length≤1073741824) (jY (x1.1.set ((2:Int).toNat) (⟨x26.i6++([(⟨2,2,0,0⟩:dT)])⟩:Queue)) x5.2.1 x5.2.2) else jY x1.1 x5.2.1 x5.2.2))))
def jX(x4:List Queue)(x5:List Int):Option FY:=
  some (⟨x4,x5⟩:FY)
def qH(code:List UInt8):Option FY:=
  (MY code).bind fun x1=>(tT (⟨code,x1.1,x1.2⟩:dW) 8).bind fun x2=>(D9 (⟨code,x2.2.1,x2.2.2⟩:dW) 90).bind fun x3=>(fZ (⟨code,x3.2.1,x3.2.2⟩:dW) 16).bind fun x6=>(if x6.1 == 0 then (yX (⟨code,x6.2.1,x6.2.2⟩:dW)).bind fun x7=>jX x7.1 x3.1 else (if x6.1 == 1 then need (x3.1.length+([(-1),3,1]:List Int).length≤1073741824) (jX x2.1 (x3.1++([(-1),3,1]:List Int))) else jX x2.1 x3.1))
def GU(x1:Bool):Option Bool:=
  some x1
def bS(x low high:Int):Option Bool:=
  (if decide (low≤x) then GU (decide (x≤high)) else GU false)
def GV(x3:Bool):Option Bool:=
  some x3
def GW(x4:Bool):Option Bool:=
  some x4
def A9(o_:dT)(x2:Bool):Option Bool:=
  (if x2 then some false else (if o_.Kind != 1 then (if o_.gY == 0 then GV (o_.dV == 0) else GV false) else (bS o_.gY 0 100).bind fun x5=>(if x5 then (bS o_.dV 0 65535).bind fun x6=>GW x6 else GW false)))
def H3(o_:dT):Option Bool:=
  (bS o_.Kind 1 7).bind fun x1=>(if !x1 then some false else (tS o_.Kind).bind fun x7=>(if !x7 then (if o_.Cell != 0 then A9 o_ true else (bS o_.Cell 0 1).bind fun x8=>A9 o_ (!x8)) else (bS o_.Cell 0 1).bind fun x9=>A9 o_ (!x9)))
def N4(todo:List Queue):Option Bool:=
  some ((todo.length:Int) == 3)
def N5(x2:Int):Option (Step Int (Out Unit Bool)):=
  some (.next (bB (x2+1)))
def mV(todo:List Queue)(x2:Int):Int→Option (Step Int (Out Unit Bool))
  | x5=>(idx todo x2).bind fun x6=>(if decide (x5 < (x6.i6.length:Int)) then (idx todo x2).bind fun x7=>(idx x7.i6 x5).bind fun x8=>(H3 x8).bind fun x9=>(if !x9 then some (.stop (Out.ret false)) else some (.next (bB (x5+1)))) else some (.stop (Out.brk ())))
def N6(x2:Int):(Out Unit Bool)→Option (Step Int (Out Unit Bool))
  | .brk ()=>N5 x2
  | .ret r=>some (.stop (Out.ret r))
def mW(todo:List Queue):Int→Option (Step Int (Out Unit Bool))
  | x2=>(if decide (x2 < (todo.length:Int)) then (idx todo x2).bind fun x3=>(if decide (12 < (x3.i6.length:Int)) then some (.stop (Out.ret false)) else (loop (mV todo x2) 0).bind (N6 x2)) else some (.stop (Out.brk ())))
def N7(todo:List Queue):(Out Unit Bool)→Option Bool
  | .brk ()=>N4 todo
  | .ret r=>some r
def BA(todo:List Queue):Option Bool:=
  (loop (mW todo) 0).bind (N7 todo)
def XD(x5:List Int):Option aD:=
  some (⟨List.replicate ((384:Int).toNat) 0,x5⟩:aD)
def rJ:(Int×(List Int))→Option (Step (Int×(List Int)) (List Int))
  | (x3,x4)=>(if decide (x3 < 6) then need (x4.length+([(-1)]).length≤1073741824) (some (.next (bB (x3+1),x4++([(-1)])))) else some (.stop (x4)))
def XE:(List Int)→Option aD
  | x5=>XD x5
def GX:Option aD:=
  need (0≤(384:Int)∧(384:Int)≤4294967296) ((loop (rJ) (0,[])).bind (XE))
def LV:Option aB:=
  some (⟨List.replicate ((3:Int).toNat) (⟨[]⟩:aQ),List.replicate ((9:Int).toNat) (⟨[]⟩:aQ)⟩:aB)
def KK:Option aB:=
  need (0≤(3:Int)∧(3:Int)≤4294967296)<|need (0≤(9:Int)∧(9:Int)≤4294967296)<|LV
def PG:Option Mem:=
  (GX).bind fun x1=>(KK).bind fun x2=>some (⟨x1,x2⟩:Mem)
def KL:Option aC:=
  need (0≤(3:Int)∧(3:Int)≤4294967296) (some (⟨0,List.replicate ((3:Int).toNat) (⟨false,0,false,0⟩:oE)⟩:aC))
def KM:Option (List bA):=
  need (0≤(3:Int)∧(3:Int)≤4294967296) (some (List.replicate ((3:Int).toNat) (⟨[]⟩:bA)))
def PH:Option (List Int):=
  need (0≤(3:Int)∧(3:Int)≤4294967296) (some (List.replicate ((3:Int).toNat) 0))
def GY:Option aA:=
  (PG).bind fun x1=>(KL).bind fun x2=>(KM).bind fun x3=>(PH).bind fun x4=>some (⟨x1,x2,x3,x4⟩:aA)
def T9(x5:List Queue):Option (List Queue):=
  some x5
def BC(l:List Queue):((List Queue)×Int)→Option (Step ((List Queue)×Int) (List Queue))
  | (x3,x4)=>(if decide (x4 < (l.length:Int)) then (idx l x4).bind fun x6=>need (([]:List dT).length+x6.i6.length≤1073741824) (need (x3.length+([(⟨([]:List dT)++x6.i6⟩:Queue)]).length≤1073741824) (some (.next (x3++([(⟨([]:List dT)++x6.i6⟩:Queue)]),bB (x4+1))))) else some (.stop (x3)))
def UA:(List Queue)→Option (List Queue)
  | x5=>T9 x5
def BD(l:List Queue):Option (List Queue):=
  (loop (BC l) (([]:List Queue),0)).bind (UA)
def LW(x2:aG):Option aG:=
  some ({x2 with Log:=[]}:aG)
def EA(todo:List Queue):Option aG:=
  (BA todo).bind fun x1=>(if !x1 then some (⟨(⟨(⟨(⟨[],[]⟩:aD),(⟨[],[]⟩:aB)⟩:Mem),(⟨0,[]⟩:aC),[],[]⟩:aA),[],[],[],[],0⟩:aG) else (GY).bind fun x3=>need (0≤(2:Int)∧(2:Int)≤4294967296)<|need (0≤(3:Int)∧(3:Int)≤4294967296)<|(BD todo).bind fun x4=>LW (⟨x3,List.replicate ((2:Int).toNat) 0,List.replicate ((3:Int).toNat) (⟨false,(⟨0,0,0,0⟩:dT),0,0,(⟨0,0,0,0,0,0,0,0,0,false⟩:Sub),0,0,0,0⟩:bE),x4,[],0⟩:aG))
def M0(x:FY):Option Bool:=
  (EA x.e9).bind fun x1=>some ((x1.aX.length:Int) == 3)
def eU(s:List Int):Option (List Int):=
  need (([]:List Int).length+s.length≤1073741824) (some (([]:List Int)++s))
def sN(h:aD):Option aD:=
  (eU h.Bytes).bind fun x1=>(eU h.Class).bind fun x2=>some (⟨x1,x2⟩:aD)
def UB(x5 x10:List aQ):Option aB:=
  some (⟨x5,x10⟩:aB)
def BE(x8:Int)(x12:List aQ):Option (Step (Int×(List aQ)) (List aQ)):=
  some (.next (bB (x8+1),x12))
def BF(l:aB):(Int×(List aQ))→Option (Step (Int×(List aQ)) (List aQ))
  | (x8,x9)=>(if decide (x8 < (l.Own.length:Int)) then (idx l.Own x8).bind fun x11=>(eU x11.aS).bind fun x13=>need (x9.length+([(⟨x13⟩:aQ)]).length≤1073741824)<|BE x8 (x9++([(⟨x13⟩:aQ)])) else some (.stop (x9)))
def UC(x5:List aQ):(List aQ)→Option aB
  | x10=>UB x5 x10
def JZ(l:aB)(x5:List aQ):Option aB:=
  (loop (BF l) (0,[])).bind (UC x5)
def BG(x3:Int)(x15:List aQ):Option (Step (Int×(List aQ)) (List aQ)):=
  some (.next (bB (x3+1),x15))
def BH(l:aB):(Int×(List aQ))→Option (Step (Int×(List aQ)) (List aQ))
  | (x3,x4)=>(if decide (x3 < (l.Global.length:Int)) then (idx l.Global x3).bind fun x14=>(eU x14.aS).bind fun x16=>need (x4.length+([(⟨x16⟩:aQ)]).length≤1073741824)<|BG x3 (x4++([(⟨x16⟩:aQ)])) else some (.stop (x4)))
def J0(l:aB):(List aQ)→Option aB
  | x5=>JZ l x5
def iH(l:aB):Option aB:=
  (loop (BH l) (0,[])).bind (J0 l)
def GZ(m:Mem):Option Mem:=
  (sN m.aD).bind fun x1=>(iH m.aB).bind fun x2=>some (⟨x1,x2⟩:Mem)
def vI(s:List oE):Option (List oE):=
  need (([]:List oE).length+s.length≤1073741824) (some (([]:List oE)++s))
def mE(c:aC):Option aC:=
  (vI c.cH).bind fun x1=>some (⟨c.aI,x1⟩:aC)
def tF(s:List cW):Option (List cW):=
  need (([]:List cW).length+s.length≤1073741824) (some (([]:List cW)++s))
def UD(x5:List bA):Option (List bA):=
  some x5
def BI(l:List bA):((List bA)×Int)→Option (Step ((List bA)×Int) (List bA))
  | (x3,x4)=>(if decide (x4 < (l.length:Int)) then (idx l x4).bind fun x6=>(tF x6.Rows).bind fun x7=>need (x3.length+([(⟨x7⟩:bA)]).length≤1073741824) (some (.next (x3++([(⟨x7⟩:bA)]),bB (x4+1)))) else some (.stop (x3)))
def UE:(List bA)→Option (List bA)
  | x5=>UD x5
def mF(l:List bA):Option (List bA):=
  (loop (BI l) (([]:List bA),0)).bind (UE)
def FZ(s:List dT):Option (List dT):=
  need (([]:List dT).length+s.length≤1073741824) (some (([]:List dT)++s))
def VY(x5:List Queue):Option (List Queue):=
  some x5
def DN(todo:List Queue):((List Queue)×Int)→Option (Step ((List Queue)×Int) (List Queue))
  | (x3,x4)=>(if decide (x4 < (todo.length:Int)) then (idx todo x4).bind fun x6=>(FZ x6.i6).bind fun x7=>need (x3.length+([(⟨x7⟩:Queue)]).length≤1073741824) (some (.next (x3++([(⟨x7⟩:Queue)]),bB (x4+1)))) else some (.stop (x3)))
def VZ:(List Queue)→Option (List Queue)
  | x5=>VY x5
def EB(todo:List Queue):Option (List Queue):=
  (loop (DN todo) (([]:List Queue),0)).bind (VZ)
def pB(x1:Bool):Option Bool:=
  some x1
def b9(n low high:Int):Option Bool:=
  (if decide (low≤n) then pB (decide (n≤high)) else pB false)
def AQ:Option Int:=
  some (-1)
def fM(s:List Int)(f:(Int→Option Bool)):Int→Option (Step Int (Out Unit Int))
  | x2=>(if decide (x2 < (s.length:Int)) then (idx s x2).bind fun x3=>(f x3).bind fun x4=>(if x4 then some (.stop (Out.ret x2)) else some (.next (bB (x2+1)))) else some (.stop (Out.brk ())))
def pC:(Out Unit Int)→Option Int
  | .brk ()=>AQ
  | .ret r=>some r
def fY(s:List Int)(f:(Int→Option Bool)):Option Int:=
  (loop (fM s f) 0).bind (pC)
def eN(s:List Int)(f:(Int→Option Bool)):Option Bool:=
  (fY s f).bind fun x1=>some (decide (0≤x1))
def PI(x:Int):Option Bool:=
  (b9 x 0 255).bind fun x1=>some x1
def BJ(x:Int):Option Bool:=
  (PI x).bind fun x1=>some (!x1)
def yY(x1:Bool):Option Bool:=
  some x1
def G0(b:List Int):Option Bool:=
  (if decide ((b.length:Int)≤1000) then (eN b (fun y0=>BJ y0)).bind fun x2=>yY (!x2) else yY false)
def EC(c:Int):Option Bool:=
  (b9 c (-1) 2).bind fun x1=>some (!x1)
def pD(x1:Bool):Option Bool:=
  some x1
def E9(h:aD):Option Bool:=
  (if (h.Bytes.length:Int) == 384 then (G0 h.Bytes).bind fun x2=>(if x2 then (if (h.Class.length:Int) == 6 then (eN h.Class (fun y0=>EC y0)).bind fun x3=>pD (!x3) else pD false) else pD false) else pD false)
def XF(x5:Int):Option Int:=
  some x5
def rK(b:List Int)(at_ width:Int):(Int×Int)→Option (Step (Int×Int) Int)
  | (x3,x4)=>(if decide (x4 < (((b.take ((bB (at_+width)).toNat)).drop at_.toNat).length:Int)) then (idx ((b.take ((bB (at_+width)).toNat)).drop at_.toNat) x4).bind fun x6=>some (.next (bB ((bB (256 * x3))+x6),bB (x4+1))) else some (.stop (x3)))
def XG:Int→Option Int
  | x5=>XF x5
def lO(b:List Int)(at_ width:Int):Option Int:=
  need (0≤(at_:Int)∧(at_:Int)≤(bB (at_+width):Int)∧(bB (at_+width):Int)≤(b.length:Int)) ((loop (rK b at_ width) (0,0)).bind (XG))
def j8(c:Int):Option Bool:=
  (b9 c 0 2).bind fun x1=>some x1
def AR(c:Int):Option Int:=
  (j8 c).bind fun x1=>(if !x1 then some 0 else (idx ([8,16,40]:List Int) c).bind fun x2=>some x2)
def sO(c:Int):Option Int:=
  (j8 c).bind fun x1=>(if !x1 then some 0 else (AR c).bind fun x2=>some (bB (4+x2)))
def nI(c:Int):Option Int:=
  (j8 c).bind fun x1=>(if !x1 then some 0 else (sO c).bind fun x2=>need (x2≠0) (some (bB (Int.tdiv 56 x2))))
def ED(x:Int):Option Bool:=
  some (x != 0)
def FA(b:List Int):Option Bool:=
  (eN b (fun y0=>ED y0)).bind fun x1=>some (!x1)
def aAS:Option Bool:=
  some true
def pE(h:aD)(page x1 x4:Int):Int→Option (Step Int (Out Unit Bool))
  | x6=>(if decide (x6 < x4) then (sO x1).bind fun x7=>(lO ((h.Bytes.take ((bB ((bB (page+1)) * 64)).toNat)).drop ((bB (page * 64)).toNat)) (bB (8+(bB (x6 * x7)))) 4).bind fun x8=>(b9 x8 1 7).bind fun x9=>(if !x9 then some (.stop (Out.ret false)) else some (.next (bB (x6+1)))) else some (.stop (Out.brk ())))
def aAT:(Out Unit Bool)→Option Bool
  | .brk ()=>aAS
  | .ret r=>some r
def jC(h:aD)(page x1:Int)(x3:Bool):Option Bool:=
  (if x3 then some false else (nI x1).bind fun x4=>(loop (pE h page x1 x4) 0).bind (aAT))
def J1(h:aD)(page:Int):Option Bool:=
  (idx h.Class page).bind fun x1=>need (0≤(bB (page * 64):Int)∧(bB (page * 64):Int)≤(bB ((bB (page+1)) * 64):Int)∧(bB ((bB (page+1)) * 64):Int)≤(h.Bytes.length:Int)) ((if decide (x1 < 0) then (FA ((h.Bytes.take ((bB ((bB (page+1)) * 64)).toNat)).drop ((bB (page * 64)).toNat))).bind fun x2=>some x2 else (idx ((h.Bytes.take ((bB ((bB (page+1)) * 64)).toNat)).drop ((bB (page * 64)).toNat)) 0).bind fun x10=>(if x10 != 171 then jC h page x1 true else (idx ((h.Bytes.take ((bB ((bB (page+1)) * 64)).toNat)).drop ((bB (page * 64)).toNat)) 1).bind fun x11=>(if x11 != x1 then jC h page x1 true else (idx ((h.Bytes.take ((bB ((bB (page+1)) * 64)).toNat)).drop ((bB (page * 64)).toNat)) 2).bind fun x12=>(nI x1).bind fun x13=>(if x12 != x13 then jC h page x1 true else need (0≤(3:Int)∧(3:Int)≤(8:Int)∧(8:Int)≤(((h.Bytes.take ((bB ((bB (page+1)) * 64)).toNat)).drop ((bB (page * 64)).toNat)).length:Int)) ((FA ((((h.Bytes.take ((bB ((bB (page+1)) * 64)).toNat)).drop ((bB (page * 64)).toNat)).take ((8:Int).toNat)).drop ((3:Int).toNat))).bind fun x14=>jC h page x1 (!x14)))))))
def aAU:Option Bool:=
  some true
def tU(h:aD):Int→Option (Step Int (Out Unit Bool))
  | x3=>(if decide (x3 < 6) then (J1 h x3).bind fun x4=>(if !x4 then some (.stop (Out.ret false)) else some (.next (bB (x3+1)))) else some (.stop (Out.brk ())))
def aAV:(Out Unit Bool)→Option Bool
  | .brk ()=>aAU
  | .ret r=>some r
def FB(h:aD):Option Bool:=
  (E9 h).bind fun x1=>(if !x1 then some false else (loop (tU h) 0).bind (aAV))
def lZ(slot:Int):Option Bool:=
  (b9 slot 0 23).bind fun x1=>some x1
def qI(x10:List Raw):Option (List Raw):=
  some x10
def hQ(slices:List (List Raw)):((List Raw)×Int)→Option (Step ((List Raw)×Int) (List Raw))
  | (x8,x9)=>(if decide (x9 < (slices.length:Int)) then (idx slices x9).bind fun x11=>need (x8.length+x11.length≤1073741824) (some (.next (x8++x11,bB (x9+1)))) else some (.stop (x8)))
def M1:(List Raw)→Option (List Raw)
  | x10=>qI x10
def lP(slices:List (List Raw))(x5:Int):Option (List Raw):=
  need (0≤x5∧x5≤1073741824) ((loop (hQ slices) ([],0)).bind (M1))
def gA(slices:List (List Raw)):(Int×Int)→Option (Step (Int×Int) Int)
  | (x3,x4)=>(if decide (x4 < (slices.length:Int)) then (idx slices x4).bind fun x12=>(if decide ((bB (x3+(x12.length:Int))) < 0) then none else some (.next (bB (x3+(x12.length:Int)),bB (x4+1)))) else some (.stop (x3)))
def BK(slices:List (List Raw)):Int→Option (List Raw)
  | x5=>lP slices x5
def oL(slices:List (List Raw)):Option (List Raw):=
  (loop (gA slices) (0,0)).bind (BK slices)
theorem JF{u1 u2:List Raw}(h:u1.length+u2.length≤1073741824):loop (gA [u1,u2]) (0,0)=some ((u1.length+u2.length:Nat):Int):=by
  have e1:bB (u1.length:Int)=u1.length:=IA (by omega)
  have e2:bB ((u1.length:Int)+(u2.length:Int))=((u1.length+u2.length:Nat):Int):=by rw [IA (by omega)];rfl
  have e3:bB (0+1)=1:=IA (by omega)
  have e4:bB 2=2:=IA (by omega)
  have n1:¬(u1.length:Int) < 0:=by omega
  have n2:¬((u1.length+u2.length:Nat):Int) < 0:=by omega
  rw [bP (s':=((u1.length:Int),1)) ?_,bP (s':=(((u1.length+u2.length:Nat):Int),2)) ?_,bO (r:=((u1.length+u2.length:Nat):Int)) ?_]
  · simp [gA]
  · simp [gA,idx,e2,e4]
    omega
  · simp [gA,idx,e1,n1]
    exact e3
theorem LX{u1 u2:List Raw}{n1 n2:Nat}(hl:u1.length=n1∧u2.length=n2)(h:n1+n2≤1073741824):oL [u1,u2]=some (u1++u2):=by
  obtain⟨rfl,rfl⟩:=hl
  have e3:bB (0+1)=1:=IA (by omega)
  have e4:bB 2=2:=IA (by omega)
  unfold oL
  rw [JF h]
  simp only [aE,BK,lP]
  rw [aM (by omega),bP (s':=(u1,1)) ?_,bP (s':=(u1++u2,2)) ?_,bO (r:=u1++u2) ?_]
  · rfl
  · simp [hQ]
  · simp [hQ,idx,e4,aM h]
  · have h1:u1.length≤1073741824:=by omega
    simp [hQ,idx,aM h1]
    exact e3
def F5:Option Bool:=
  some true
def yZ(x4:Int)(x12:List Bool):Option (Step (Int×(List Bool)) (Out Unit Bool)):=
  some (.next (bB (x4+1),x12))
def mX(x10:Int)(x11:List Bool)(x13:Int)(x14:Bool):Option (Step (Int×(List Bool)) (Out (List Bool) Bool)):=
  (if x14 then some (.stop (Out.ret false)) else need (0≤(x13:Int)∧(x13:Int) < 24) ((idx (x11:List Bool) x13).bind fun x15=>some (.next (bB (x10+1),x11.set (x13.toNat) true))))
def k9(x6:aQ):(Int×(List Bool))→Option (Step (Int×(List Bool)) (Out (List Bool) Bool))
  | (x10,x11)=>(if decide (x10 < (x6.aS.length:Int)) then (idx x6.aS x10).bind fun x13=>(lZ x13).bind fun x16=>(if !x16 then mX x10 x11 x13 true else need (0≤(x13:Int)∧(x13:Int) < 24) ((idx (x11:List Bool) x13).bind fun x17=>mX x10 x11 x13 x17)) else some (.stop (Out.brk x11)))
def N8(x4:Int):(Out (List Bool) Bool)→Option (Step (Int×(List Bool)) (Out Unit Bool))
  | .brk x12=>yZ x4 x12
  | .ret r=>some (.stop (Out.ret r))
def lA(x4:Int)(x5:List Bool)(x6:aQ)(x7:Bool):Option (Step (Int×(List Bool)) (Out Unit Bool)):=
  (if x7 then some (.stop (Out.ret false)) else (loop (k9 x6) (0,x5)).bind (N8 x4))
def lB(l:aB):(Int×(List Bool))→Option (Step (Int×(List Bool)) (Out Unit Bool))
  | (x4,x5)=>(if decide (x4 < ((l.Own++l.Global).length:Int)) then (idx (l.Own++l.Global) x4).bind fun x6=>(if decide (x4 < (l.Own.length:Int)) then lA x4 x5 x6 (decide (2 < (x6.aS.length:Int))) else lA x4 x5 x6 false) else some (.stop (Out.brk ())))
def XH:(Out Unit Bool)→Option Bool
  | .brk ()=>F5
  | .ret r=>some r
def rL(l:aB)(x1:Bool):Option Bool:=
  (if x1 then some false else need (l.Own.length+l.Global.length≤1073741824) ((loop (lB l) (0,[false,false,false,false,false,false,false,false,false,false,false,false,false,false,false,false,false,false,false,false,false,false,false,false])).bind (XH)))
def j9(l:aB):Option Bool:=
  (if (l.Global.length:Int) != 3 then rL l true else rL l ((l.Own.length:Int) != 9))
def xB(slot c:Int)(x1:Bool):Option Int:=
  (if x1 then some (-1) else (sO c).bind fun x2=>some (bB ((bB ((bB ((bB (Int.tdiv slot 4)) * 64))+8))+(bB ((Int.tmod slot 4) * x2)))))
def tV(slot c:Int):Option Int:=
  (lZ slot).bind fun x3=>(if !x3 then xB slot c true else (j8 c).bind fun x4=>(if !x4 then xB slot c true else (nI c).bind fun x5=>xB slot c (decide (x5≤(Int.tmod slot 4)))))
def y4(h:aD)(slot:Int)(x1:Bool):Option Int:=
  (if x1 then some (-1) else (idx h.Class (bB (Int.tdiv slot 4))).bind fun x2=>some x2)
def nJ(h:aD)(slot:Int):Option Int:=
  (lZ slot).bind fun x3=>(if !x3 then y4 h slot true else (idx h.Class (bB (Int.tdiv slot 4))).bind fun x4=>(tV slot x4).bind fun x5=>y4 h slot (decide (x5 < 0)))
def qJ(h:aD)(slot:Int):Option Int:=
  (E9 h).bind fun x1=>(if !x1 then some (-1) else (nJ h slot).bind fun x2=>some x2)
def zZ(h:aD)(slot:Int):Option Int:=
  (qJ h slot).bind fun x1=>(if decide (x1 < 0) then some 0 else (tV slot x1).bind fun x2=>(lO h.Bytes x2 4).bind fun x3=>some x3)
def V1:Option Bool:=
  some true
def vJ(x2:Int)(x4:Bool):Option (Step Int (Out Unit Bool)):=
  (if x4 then some (.stop (Out.ret false)) else some (.next (bB (x2+1))))
def l6(h:aD)(s:aQ)(c:Int):Int→Option (Step Int (Out Unit Bool))
  | x2=>(if decide (x2 < (s.aS.length:Int)) then (idx s.aS x2).bind fun x3=>(nJ h x3).bind fun x5=>(if x5 != c then vJ x2 true else (zZ h x3).bind fun x6=>vJ x2 (decide (6 < x6))) else some (.stop (Out.brk ())))
def V2:(Out Unit Bool)→Option Bool
  | .brk ()=>V1
  | .ret r=>some r
def xC(h:aD)(s:aQ)(c:Int):Option Bool:=
  (loop (l6 h s c) 0).bind (V2)
def aDB:Option Bool:=
  some true
def sP(m:Mem):Int→Option (Step Int (Out Unit Bool))
  | x5=>(if decide (x5 < (m.aB.Own.length:Int)) then (idx m.aB.Own x5).bind fun x6=>(xC m.aD x6 (Int.tmod x5 3)).bind fun x7=>(if !x7 then some (.stop (Out.ret false)) else some (.next (bB (x5+1)))) else some (.stop (Out.brk ())))
def aDC:(Out Unit Bool)→Option Bool
  | .brk ()=>aDB
  | .ret r=>some r
def RY(m:Mem):Option Bool:=
  (loop (sP m) 0).bind (aDC)
def sQ(m:Mem):Int→Option (Step Int (Out Unit Bool))
  | x3=>(if decide (x3 < (m.aB.Global.length:Int)) then (idx m.aB.Global x3).bind fun x8=>(xC m.aD x8 x3).bind fun x9=>(if !x9 then some (.stop (Out.ret false)) else some (.next (bB (x3+1)))) else some (.stop (Out.brk ())))
def RZ(m:Mem):(Out Unit Bool)→Option Bool
  | .brk ()=>RY m
  | .ret r=>some r
def EE(m:Mem)(x1:Bool):Option Bool:=
  (if x1 then some false else (loop (sQ m) 0).bind (RZ m))
def IC(m:Mem):Option Bool:=
  (FB m.aD).bind fun x10=>(if !x10 then EE m true else (j9 m.aB).bind fun x11=>EE m (!x11))
def AS:Option Int:=
  some (-1)
def iS(s:List oE)(f:(oE→Option Bool)):Int→Option (Step Int (Out Unit Int))
  | x2=>(if decide (x2 < (s.length:Int)) then (idx s x2).bind fun x3=>(f x3).bind fun x4=>(if x4 then some (.stop (Out.ret x2)) else some (.next (bB (x2+1)))) else some (.stop (Out.brk ())))
def pG:(Out Unit Int)→Option Int
  | .brk ()=>AS
  | .ret r=>some r
def tW(s:List oE)(f:(oE→Option Bool)):Option Int:=
  (loop (iS s f) 0).bind (pG)
def kQ(s:List oE)(f:(oE→Option Bool)):Option Bool:=
  (tW s f).bind fun x1=>some (decide (0≤x1))
def kR(x1:Bool):Option Bool:=
  some x1
def tX(p:oE)(k0:aC):Option Bool:=
  (b9 p.aI 0 k0.aI).bind fun x2=>(if !x2 then kR true else (b9 p.Seen 0 2).bind fun x3=>(if !x3 then kR true else (if !p.On then kR (!(decide (p=(⟨false,0,false,0⟩:oE)))) else kR false)))
def rM(x1:Bool):Option Bool:=
  some x1
def nK(c:aC):Option Bool:=
  (b9 c.aI 0 100000).bind fun x2=>(if x2 then (if (c.cH.length:Int) == 3 then (kQ c.cH (fun y0=>tX y0 c)).bind fun x3=>rM (!x3) else rM false) else rM false)
def l7(x1:Bool):Option Bool:=
  some x1
def g9(h:Int):Option Bool:=
  (b9 h 32 223).bind fun x2=>(if x2 then l7 (decide ((Int.tmod h 32) < 24)) else l7 false)
def BL(x5:Int):Option Int:=
  some x5
def jD(l:List bA):(Int×Int)→Option (Step (Int×Int) Int)
  | (x3,x4)=>(if decide (x4 < (l.length:Int)) then (idx l x4).bind fun x6=>some (.next (bB (x3+(x6.Rows.length:Int)),bB (x4+1))) else some (.stop (x3)))
def UF:Int→Option Int
  | x5=>BL x5
def tY(l:List bA):Option Int:=
  (loop (jD l) (0,0)).bind (UF)
def y5(l:List bA):Option Bool:=
  (tY l).bind fun x5=>some (decide (x5≤24))
def y6(x3:Int)(x11:List Bool):Option (Step (Int×(List Bool)) (Out Unit Bool)):=
  some (.next (bB (x3+1),x11))
def jO(x9:Int)(x10:List Bool)(x12:cW)(x13:Bool):Option (Step (Int×(List Bool)) (Out (List Bool) Bool)):=
  (if x13 then some (.stop (Out.ret false)) else need (0≤(Int.tmod x12.Handle 32:Int)∧(Int.tmod x12.Handle 32:Int) < 24) ((idx (x10:List Bool) (Int.tmod x12.Handle 32)).bind fun x14=>some (.next (bB (x9+1),x10.set ((Int.tmod x12.Handle 32).toNat) true))))
def lC(x6:bA):(Int×(List Bool))→Option (Step (Int×(List Bool)) (Out (List Bool) Bool))
  | (x9,x10)=>(if decide (x9 < (x6.Rows.length:Int)) then (idx x6.Rows x9).bind fun x12=>(g9 x12.Handle).bind fun x15=>(if !x15 then jO x9 x10 x12 true else (b9 x12.aI 0 100000).bind fun x16=>(if !x16 then jO x9 x10 x12 true else need (0≤(Int.tmod x12.Handle 32:Int)∧(Int.tmod x12.Handle 32:Int) < 24) ((idx (x10:List Bool) (Int.tmod x12.Handle 32)).bind fun x17=>jO x9 x10 x12 x17))) else some (.stop (Out.brk x10)))
def N9(x3:Int):(Out (List Bool) Bool)→Option (Step (Int×(List Bool)) (Out Unit Bool))
  | .brk x11=>y6 x3 x11
  | .ret r=>some (.stop (Out.ret r))
def lD(l:List bA):(Int×(List Bool))→Option (Step (Int×(List Bool)) (Out Unit Bool))
  | (x3,x4)=>(if decide (x3 < (l.length:Int)) then (idx l x3).bind fun x6=>(loop (lC x6) (0,x4)).bind (N9 x3) else some (.stop (Out.brk ())))
def OA(l:List bA):(Out Unit Bool)→Option Bool
  | .brk ()=>y5 l
  | .ret r=>some r
def lQ(l:List bA):Option Bool:=
  (if (l.length:Int) != 3 then some false else (loop (lD l) (0,[false,false,false,false,false,false,false,false,false,false,false,false,false,false,false,false,false,false,false,false,false,false,false,false])).bind (OA l))
def tZ(x1:Bool):Option Bool:=
  some x1
def qD(h:Int):Option Bool:=
  (if h == 0 then tZ true else (g9 h).bind fun x2=>tZ x2)
def G3(h:Int):Option Bool:=
  (qD h).bind fun x1=>some (!x1)
def EF(x1:Bool):Option Bool:=
  some x1
def DO(z:List Int):Option Bool:=
  (if (z.length:Int) == 3 then (eN z (fun y0=>G3 y0)).bind fun x2=>EF (!x2) else EF false)
def wL:Option Int:=
  some (-1)
def jT(s:List bA)(f:(bA→Option Bool)):Int→Option (Step Int (Out Unit Int))
  | x2=>(if decide (x2 < (s.length:Int)) then (idx s x2).bind fun x3=>(f x3).bind fun x4=>(if x4 then some (.stop (Out.ret x2)) else some (.next (bB (x2+1)))) else some (.stop (Out.brk ())))
def mQ:(Out Unit Int)→Option Int
  | .brk ()=>wL
  | .ret r=>some r
def qK(s:List bA)(f:(bA→Option Bool)):Option Int:=
  (loop (jT s f) 0).bind (mQ)
def iA(s:List bA)(f:(bA→Option Bool)):Option Bool:=
  (qK s f).bind fun x1=>some (decide (0≤x1))
def xD:Option Int:=
  some (-1)
def kA(s:List cW)(f:(cW→Option Bool)):Int→Option (Step Int (Out Unit Int))
  | x2=>(if decide (x2 < (s.length:Int)) then (idx s x2).bind fun x3=>(f x3).bind fun x4=>(if x4 then some (.stop (Out.ret x2)) else some (.next (bB (x2+1)))) else some (.stop (Out.brk ())))
def nY:(Out Unit Int)→Option Int
  | .brk ()=>xD
  | .ret r=>some r
def tA(s:List cW)(f:(cW→Option Bool)):Option Int:=
  (loop (kA s f) 0).bind (nY)
def iI(s:List cW)(f:(cW→Option Bool)):Option Bool:=
  (tA s f).bind fun x1=>some (decide (0≤x1))
def GN:Option Int:=
  some (-1)
def eQ(s:List Int)(v:Int):Int→Option (Step Int (Out Unit Int))
  | x2=>(if decide (x2 < (s.length:Int)) then (idx s x2).bind fun x3=>(if v == x3 then some (.stop (Out.ret x2)) else some (.next (bB (x2+1)))) else some (.stop (Out.brk ())))
def oN:(Out Unit Int)→Option Int
  | .brk ()=>GN
  | .ret r=>some r
def l8(s:List Int)(v:Int):Option Int:=
  (loop (eQ s v) 0).bind (oN)
def oO(s:List Int)(v:Int):Option Bool:=
  (l8 s v).bind fun x1=>some (decide (0≤x1))
def nZ(s:aQ)(k0:Int):Option Bool:=
  (oO s.aS k0).bind fun x1=>some x1
def wM:Option Int:=
  some (-1)
def jU(s:List aQ)(f:(aQ→Option Bool)):Int→Option (Step Int (Out Unit Int))
  | x2=>(if decide (x2 < (s.length:Int)) then (idx s x2).bind fun x3=>(f x3).bind fun x4=>(if x4 then some (.stop (Out.ret x2)) else some (.next (bB (x2+1)))) else some (.stop (Out.brk ())))
def mR:(Out Unit Int)→Option Int
  | .brk ()=>wM
  | .ret r=>some r
def qL(s:List aQ)(f:(aQ→Option Bool)):Option Int:=
  (loop (jU s f) 0).bind (mR)
def iB(s:List aQ)(f:(aQ→Option Bool)):Option Bool:=
  (qL s f).bind fun x1=>some (decide (0≤x1))
def BM(x1:Bool):Option Bool:=
  some x1
def FC(l:aB)(slot:Int):Option Bool:=
  (iB l.Global (fun y0=>nZ y0 slot)).bind fun x2=>(if x2 then BM true else (iB l.Own (fun y0=>nZ y0 slot)).bind fun x3=>BM x3)
def G4(m:Mem)(slot:Int):Option Int:=
  (nJ m.aD slot).bind fun x1=>(if decide (x1 < 0) then some 0 else (FC m.aB slot).bind fun x2=>(if x2 then some 1 else (zZ m.aD slot).bind fun x3=>(if decide (6 < x3) then some 2 else some 3)))
def uA(x1:Bool):Option Bool:=
  some x1
def AT(m:Mem)(h:Int):Option Bool:=
  (g9 h).bind fun x2=>(if x2 then (G4 m (Int.tmod h 32)).bind fun x3=>(if x3 == 3 then (zZ m.aD (Int.tmod h 32)).bind fun x4=>uA (x4 == (bB (Int.tdiv h 32))) else uA false) else uA false)
def qM(x1:Bool):Option Bool:=
  some x1
def y7(r_:cW)(k0:aA):Option Bool:=
  (AT k0.Mem r_.Handle).bind fun x2=>(if !x2 then qM true else qM (decide (k0.aC.aI < r_.aI)))
def EG(l:bA)(k0:aA):Option Bool:=
  (iI l.Rows (fun y0=>y7 y0 k0)).bind fun x1=>some x1
def pH(b:aA)(x1:Bool):Option Bool:=
  (if x1 then some false else (iA b.aP (fun y0=>EG y0 b)).bind fun x2=>some (!x2))
def J2(b:aA):Option Bool:=
  (IC b.Mem).bind fun x3=>(if !x3 then pH b true else (nK b.aC).bind fun x4=>(if !x4 then pH b true else (lQ b.aP).bind fun x5=>(if !x5 then pH b true else (DO b.nA).bind fun x6=>pH b (!x6))))
def wN:Option Int:=
  some (-1)
def jV(s:List Queue)(f:(Queue→Option Bool)):Int→Option (Step Int (Out Unit Int))
  | x2=>(if decide (x2 < (s.length:Int)) then (idx s x2).bind fun x3=>(f x3).bind fun x4=>(if x4 then some (.stop (Out.ret x2)) else some (.next (bB (x2+1)))) else some (.stop (Out.brk ())))
def mS:(Out Unit Int)→Option Int
  | .brk ()=>wN
  | .ret r=>some r
def qN(s:List Queue)(f:(Queue→Option Bool)):Option Int:=
  (loop (jV s f) 0).bind (mS)
def jW(s:List Queue)(f:(Queue→Option Bool)):Option Bool:=
  (qN s f).bind fun x1=>some (decide (0≤x1))
def BN:Option Int:=
  some (-1)
def lR(s:List dT)(f:(dT→Option Bool)):Int→Option (Step Int (Out Unit Int))
  | x2=>(if decide (x2 < (s.length:Int)) then (idx s x2).bind fun x3=>(f x3).bind fun x4=>(if x4 then some (.stop (Out.ret x2)) else some (.next (bB (x2+1)))) else some (.stop (Out.brk ())))
def qO:(Out Unit Int)→Option Int
  | .brk ()=>BN
  | .ret r=>some r
def wR(s:List dT)(f:(dT→Option Bool)):Option Int:=
  (loop (lR s f) 0).bind (qO)
def lS(s:List dT)(f:(dT→Option Bool)):Option Bool:=
  (wR s f).bind fun x1=>some (decide (0≤x1))
def G5(x4:Bool):Option Bool:=
  some x4
def G6(x7:Bool):Option Bool:=
  some x7
def BO(o_:dT)(x3:Bool):Option Bool:=
  (if x3 then some false else (if o_.Kind == 1 then (b9 o_.gY 0 100).bind fun x5=>(if x5 then (b9 o_.dV 0 65535).bind fun x6=>G5 x6 else G5 false) else (if o_.gY == 0 then G6 (o_.dV == 0) else G6 false)))
def nL(o_:dT)(x1:Bool):Option Bool:=
  (b9 o_.Kind 1 7).bind fun x2=>(if !x2 then some false else (if x1 then (b9 o_.Cell 0 1).bind fun x8=>(if !x8 then BO o_ true else BO o_ false) else BO o_ (o_.Cell != 0)))
def H4(o_:dT):Option Bool:=
  (if o_.Kind == 1 then nL o_ true else (if o_.Kind == 2 then nL o_ true else (if o_.Kind == 3 then nL o_ true else nL o_ (o_.Kind == 7))))
def y8(o_:dT):Option Bool:=
  (H4 o_).bind fun x1=>some (!x1)
def vK(x1:Bool):Option Bool:=
  some x1
def EH(q:Queue):Option Bool:=
  (if decide (12 < (q.i6.length:Int)) then vK true else (lS q.i6 (fun y0=>y8 y0)).bind fun x2=>vK x2)
def BP(x1:Bool):Option Bool:=
  some x1
def FD(todo:List Queue):Option Bool:=
  (if (todo.length:Int) == 3 then (jW todo (fun y0=>EH y0)).bind fun x2=>BP (!x2) else BP false)
def uB(h:Int):Option Bool:=
  (qD h).bind fun x1=>some (!x1)
def AU:Option Int:=
  some (-1)
def kS(s:List bE)(f:(bE→Option Bool)):Int→Option (Step Int (Out Unit Int))
  | x2=>(if decide (x2 < (s.length:Int)) then (idx s x2).bind fun x3=>(f x3).bind fun x4=>(if x4 then some (.stop (Out.ret x2)) else some (.next (bB (x2+1)))) else some (.stop (Out.brk ())))
def pI:(Out Unit Int)→Option Int
  | .brk ()=>AU
  | .ret r=>some r
def uC(s:List bE)(f:(bE→Option Bool)):Option Int:=
  (loop (kS s f) 0).bind (pI)
def kT(s:List bE)(f:(bE→Option Bool)):Option Bool:=
  (uC s f).bind fun x1=>some (decide (0≤x1))
def xE(x1:Bool):Option Bool:=
  some x1
def M3(j:bE):Option Bool:=
  (if !j.eG then some (decide (j=(⟨false,(⟨0,0,0,0⟩:dT),0,0,(⟨0,0,0,0,0,0,0,0,0,false⟩:Sub),0,0,0,0⟩:bE))) else (H4 j.Op).bind fun x2=>(if x2 then (qD j.H).bind fun x3=>(if x3 then (qD j.Old).bind fun x4=>xE x4 else xE false) else xE false))
def BQ(j:bE):Option Bool:=
  (M3 j).bind fun x1=>some (!x1)
def iK(x1:Bool):Option Bool:=
  some x1
def vL(s:aG):Option Bool:=
  (J2 s.aA).bind fun x2=>(if x2 then (if (s.Cells.length:Int) == 2 then (if (s.aX.length:Int) == 3 then (FD s.e9).bind fun x3=>(if x3 then (b9 s.aK 0 1000000).bind fun x4=>(if x4 then (eN s.Cells (fun y0=>uB y0)).bind fun x5=>(if !x5 then (kT s.aX (fun y0=>BQ y0)).bind fun x6=>iK (!x6) else iK false) else iK false) else iK false) else iK false) else iK false) else iK false)
def dJ(s:aG)(kind w_ handle val code:Int)(x1:bE):Option aG:=
  some ({s with Log:=s.Log++([(⟨kind,w_,x1.aK,x1.Op.Cell,handle,val,code⟩:Ev)])}:aG)
def cT(s:aG)(kind w_ handle val code:Int):Option aG:=
  (idx s.aX w_).bind fun x1=>need (s.Log.length+([(⟨kind,w_,x1.aK,x1.Op.Cell,handle,val,code⟩:Ev)]).length≤1073741824)<|dJ s kind w_ handle val code x1
def vM(s:List dT)(i j:Int):Option (List dT):=
  need (0≤(i:Int)∧(i:Int)≤(j:Int)∧(j:Int)≤((s.length:Int):Int)∧((s.length:Int):Int)≤(s.length:Int)) ((if i == j then some s else need (0≤(i:Int)∧(i:Int)≤(s.length:Int)) (need (0≤(j:Int)∧(j:Int)≤(s.length:Int)) (need (i.toNat≤j.toNat) (need (0≤(((((dA s i.toNat (s.drop j.toNat)).take (i.toNat+(s.length - j.toNat))).drop 0).length:Int):Int)∧(((((dA s i.toNat (s.drop j.toNat)).take (i.toNat+(s.length - j.toNat))).drop 0).length:Int):Int)≤((s.length:Int):Int)∧((s.length:Int):Int)≤((dA s i.toNat (s.drop j.toNat)).length:Int)) (some (((dA s i.toNat (s.drop j.toNat)).take (i.toNat+(s.length - j.toNat))).drop 0)))))))
def jP(kind a_:Int):Option Sub:=
  some (⟨kind,a_,0,0,0,0,0,0,0,false⟩:Sub)
def bM(j:bE)(code:Int):Option bE:=
  some ({j with Pc:=9,Code:=code}:bE)
def dX(s:aG)(w_:Int)(x4:(List dT))(x5:bE):Option aG:=
  (idx s.aX w_).bind fun x6=>(cT ({s with aX:=s.aX.set w_.toNat x5,e9:=s.e9.set w_.toNat (⟨x4⟩:Queue),aK:=bB (s.aK+1)}:aG) 1 w_ 0 0 0).bind fun x7=>some x7
def jJ(s:aG)(w_:Int)(x3:dT)(x4:(List dT))(x9:Bool):Option aG:=
  (if x9 then (jP 5 0).bind fun x10=>(idx s.aA.aC.cH w_).bind fun x11=>(if x11.On then (bM (⟨true,x3,bB (s.aK+1),0,x10,0,0,0,0⟩:bE) 1).bind fun x12=>dX s w_ x4 x12 else dX s w_ x4 (⟨true,x3,bB (s.aK+1),0,x10,0,0,0,0⟩:bE)) else (if x3.Kind == 4 then (jP 3 0).bind fun x13=>dX s w_ x4 (⟨true,x3,bB (s.aK+1),0,x13,0,0,0,0⟩:bE) else dX s w_ x4 (⟨true,x3,bB (s.aK+1),0,(⟨0,0,0,0,0,0,0,0,0,false⟩:Sub),0,0,0,0⟩:bE)))
def oP(s:aG)(w_:Int)(x1:Bool):Option aG:=
  (if x1 then some s else (idx s.e9 w_).bind fun x2=>(idx x2.i6 0).bind fun x3=>(vM x2.i6 0 1).bind fun x4=>(if x3.Kind == 1 then (jP 1 x3.gY).bind fun x8=>dX s w_ x4 (⟨true,x3,bB (s.aK+1),0,x8,0,0,0,0⟩:bE) else (if x3.Kind == 2 then jJ s w_ x3 x4 true else jJ s w_ x3 x4 (x3.Kind == 5))))
def vN(s:aG)(w_:Int):Option aG:=
  (idx s.e9 w_).bind fun x14=>(if (x14.i6.length:Int) == 0 then oP s w_ true else oP s w_ (s.aK == 1000000))
def XI:Option Int:=
  some (-1)
def y9(x2:Int)(x3:Bool):Option (Step Int (Out Unit Int)):=
  (if x3 then some (.stop (Out.ret x2)) else some (.next (bB (x2+1))))
def jQ(size:Int):Int→Option (Step Int (Out Unit Int))
  | x2=>(if decide (x2 < 3) then (if decide (1≤size) then (AR x2).bind fun x4=>y9 x2 (decide (size≤x4)) else y9 x2 false) else some (.stop (Out.brk ())))
def XJ:(Out Unit Int)→Option Int
  | .brk ()=>XI
  | .ret r=>some r
def G7(size:Int):Option Int:=
  (loop (jQ size) 0).bind (XJ)
def bG(s:Sub)(code:Int):Option Sub:=
  some ({s with Code:=code,cV:=true}:Sub)
def fV(w_:Int):Option Bool:=
  (b9 w_ 0 2).bind fun x1=>some x1
def EI(w_ c:Int)(x1:Bool):Option Int:=
  (if x1 then some (-1) else some (bB ((bB (w_ * 3))+c)))
def ID(w_ c:Int):Option Int:=
  (fV w_).bind fun x2=>(if !x2 then EI w_ c true else (j8 c).bind fun x3=>EI w_ c (!x3))
def uD(s:aQ):Option (Int×aQ):=
  (if decide ((bB ((s.aS.length:Int) - 1)) < 0) then some ((-1),s) else (idx s.aS (bB ((s.aS.length:Int) - 1))).bind fun x1=>need (0≤(bB ((s.aS.length:Int) - 1):Int)∧(bB ((s.aS.length:Int) - 1):Int)≤(bB ((s.aS.length:Int) - 1):Int)∧(bB ((s.aS.length:Int) - 1):Int)≤(s.aS.length:Int)) (some (x1,(⟨(s.aS.take ((bB ((s.aS.length:Int) - 1)).toNat)).drop 0⟩:aQ))))
def zA(x1:aB)(x2:Int)(x3:Bool):Option (aB×Int):=
  (if x3 then some (x1,(-1)) else (idx x1.Own x2).bind fun x4=>(uD x4).bind fun x5=>some ((⟨x1.Global,x1.Own.set x2.toNat x5.2⟩:aB),x5.1))
def G8(l:aB)(w_ c:Int):Option (aB×Int):=
  (iH l).bind fun x1=>(ID w_ c).bind fun x2=>(j9 l).bind fun x6=>(if !x6 then zA x1 x2 true else zA x1 x2 (decide (x2 < 0)))
def qP(c:Int)(x1:aB)(x2:Bool):Option (aB×Int):=
  (if x2 then some (x1,(-1)) else (idx x1.Global c).bind fun x3=>(uD x3).bind fun x4=>some ((⟨x1.Global.set c.toNat x4.2,x1.Own⟩:aB),x4.1))
def zC(l:aB)(c:Int):Option (aB×Int):=
  (iH l).bind fun x1=>(j9 l).bind fun x5=>(if !x5 then qP c x1 true else (j8 c).bind fun x6=>qP c x1 (!x6))
def kB(width:Int):Option Bool:=
  (b9 width 1 7).bind fun x1=>some x1
def aDD(x8:List UInt8):Option (List UInt8):=
  some x8
def EJ:(Int×(List UInt8)×Int)→Option (Step (Int×(List UInt8)×Int) (List UInt8))
  | (x5,x6,x7)=>(if decide (0≤x7) then (idx x6 x7).bind fun x9=>some (.next (nH .i64 x5 8,x6.set x7.toNat (u8 x5),bB (x7 - 1))) else some (.stop (x6)))
def aDE:(List UInt8)→Option (List UInt8)
  | x8=>aDD x8
def xF(n width:Int)(x1:Bool):Option (List UInt8):=
  (if x1 then some ([]) else need (0≤(width:Int)∧(width:Int)≤4294967296) ((loop (EJ) (n,List.replicate (width.toNat) 0,bB (width - 1))).bind (aDE)))
def z6(n width:Int):Option (List UInt8):=
  (kB width).bind fun x10=>(if !x10 then xF n width true else (if decide (n < 0) then xF n width true else need (0≤(IntKind.u64.wrap (bB (8 * width)):Int)) (xF n width (decide ((aED .i64 1 (IntKind.u64.wrap (bB (8 * width))))≤n)))))
def PJ(b x5:List Int):Option (List Int):=
  need (x5.length=b.length) (some x5)
def BR(b:List Int)(at_:Int)(text:List UInt8):((List Int)×Int)→Option (Step ((List Int)×Int) (List Int))
  | (x3,x4)=>need (x3.length=b.length) ((if decide (x4 < (text.length:Int)) then (idx text x4).bind fun x6=>(idx x3 (bB (at_+x4))).bind fun x7=>some (.next (x3.set ((bB (at_+x4)).toNat) (x6.toNat:Int),bB (x4+1))) else some (.stop (x3))))
def PK(b:List Int):(List Int)→Option (List Int)
  | x5=>PJ b x5
def uE(b:List Int)(at_:Int)(text:List UInt8):Option (List Int):=
  (loop (BR b at_ text) (b,0)).bind (PK b)
def BS(page index:Int)(x1:Bool):Option Int:=
  (if x1 then some (-1) else some (bB ((bB (page * 4))+index)))
def J3(page index:Int):Option Int:=
  (b9 page 0 5).bind fun x2=>(if !x2 then BS page index true else (b9 index 0 3).bind fun x3=>BS page index (!x3))
def aDF(c:Int)(x1:aD)(x2:Int)(x13 x14:List Int):Option (aD×(List Int)):=
  some ((⟨x14,x1.Class.set x2.toNat c⟩:aD),x13)
def KN(x10:List Int)(x11 x15:Int)(x16:List Int):Option (Step ((List Int)×Int×(List Int)) ((List Int)×(List Int))):=
  need (x10.length+([x15]).length≤1073741824) (some (.next (x10++([x15]),bB (x11+1),x16)))
def EK(c x2 x6:Int):((List Int)×Int×(List Int))→Option (Step ((List Int)×Int×(List Int)) ((List Int)×(List Int)))
  | (x10,x11,x12)=>(if decide (x11 < x6) then (J3 x2 x11).bind fun x15=>(tV x15 c).bind fun x17=>(z6 1 4).bind fun x18=>(uE x12 x17 x18).bind fun x19=>KN x10 x11 x15 x19 else some (.stop ((x10,x12))))
def aDG(c:Int)(x1:aD)(x2:Int):((List Int)×(List Int))→Option (aD×(List Int))
  | (x13,x14)=>aDF c x1 x2 x13 x14
def KO(c:Int)(x1:aD)(x2:Int)(x5:List Int):Option (aD×(List Int)):=
  (nI c).bind fun x6=>(loop (EK c x2 x6) (([]:List Int),0,x5)).bind (aDG c x1 x2)
def xG(c:Int)(x1:aD)(x2:Int)(x3:Bool):Option (aD×(List Int)):=
  (if x3 then some (x1,([]:List Int)) else (idx x1.Class x2).bind fun x4=>need (0≤(bB (x2 * 64):Int)∧(bB (x2 * 64):Int)≤(x1.Bytes.length:Int))<|(nI c).bind fun x20=>KO c x1 x2 (dA x1.Bytes ((bB (x2 * 64)).toNat) ([171,c,x20]:List Int)))
def DP(h:aD)(c:Int):Option (aD×(List Int)):=
  (sN h).bind fun x1=>(l8 h.Class (-1)).bind fun x2=>(FB h).bind fun x21=>(if !x21 then xG c x1 x2 true else (j8 c).bind fun x22=>(if !x22 then xG c x1 x2 true else xG c x1 x2 (decide (x2 < 0))))
def F6(x4:Int)(x5:Mem):Option (Mem×Int):=
  some (x5,x4)
def F7(c:Int)(x1:aD×(List Int))(x2:Mem):Option (Mem×Int):=
  (if (x1.2.length:Int) == 0 then some (x2,(-1)) else (idx x2.aB.Global c).bind fun x3=>need (0≤(1:Int)∧(1:Int)≤(x1.2.length:Int)) (need (x3.aS.length+((x1.2.take x1.2.length).drop ((1:Int).toNat)).length≤1073741824) ((idx x1.2 0).bind fun x6=>F6 x6 (⟨x2.aD,(⟨x2.aB.Global.set c.toNat (⟨x3.aS++((x1.2.take x1.2.length).drop ((1:Int).toNat))⟩:aQ),x2.aB.Own⟩:aB)⟩:Mem))))
def G9(m:Mem)(c:Int):Option (Mem×Int):=
  (DP m.aD c).bind fun x1=>(iH m.aB).bind fun x7=>F7 c x1 (⟨x1.1,x7⟩:Mem)
def vO(slot gen:Int)(x1:Bool):Option Int:=
  (if x1 then some 0 else some (bB ((bB (gen * 32))+slot)))
def KP(slot gen:Int):Option Int:=
  (lZ slot).bind fun x2=>(if !x2 then vO slot gen true else (b9 gen 1 6).bind fun x3=>vO slot gen (!x3))
def EL(m:Mem)(slot:Int):Option Int:=
  (zZ m.aD slot).bind fun x1=>(KP slot x1).bind fun x2=>some x2
def iF(s:Sub)(x3:Int)(x4:aA):Option (Sub×aA):=
  (if decide (0≤x3) then (EL x4.Mem x3).bind fun x5=>(bG ({s with Out:=x5}:Sub) 0).bind fun x6=>some (x6,x4) else (if s.Pc == 3 then (bG s 3).bind fun x7=>some (x7,x4) else some (({s with Pc:=bB (s.Pc+1)}:Sub),x4)))
def mL(s:Sub)(b:aA)(x1:Int)(x9:Bool):Option (Sub×aA):=
  (if x9 then (zC b.Mem.aB x1).bind fun x10=>iF s x10.2 ({b with Mem:=(⟨b.Mem.aD,x10.1⟩:Mem)}:aA) else (if s.Pc == 2 then (G9 b.Mem x1).bind fun x11=>iF s x11.2 ({b with Mem:=x11.1}:aA) else (bG s 1).bind fun x12=>some (x12,b)))
def qQ(s:Sub)(b:aA)(w_:Int):Option (Sub×aA):=
  (G7 s.A).bind fun x1=>(if decide (x1 < 0) then (bG s 2).bind fun x2=>some (x2,b) else (if s.Pc == 0 then (G8 b.Mem.aB w_ x1).bind fun x8=>iF s x8.2 ({b with Mem:=(⟨b.Mem.aD,x8.1⟩:Mem)}:aA) else (if s.Pc == 1 then mL s b x1 true else mL s b x1 (s.Pc == 3))))
def oQ(x1:Bool):Option Bool:=
  some x1
def pJ(r_:cW)(k0:Int):Option Bool:=
  (g9 r_.Handle).bind fun x2=>(if x2 then oQ ((Int.tmod r_.Handle 32) == k0) else oQ false)
def BT(own:bA)(k0:Int):Option Bool:=
  (iI own.Rows (fun y0=>pJ y0 k0)).bind fun x1=>some x1
def HA(l:List bA)(slot:Int):Option Bool:=
  (iA l (fun y0=>BT y0 slot)).bind fun x1=>some x1
def vP(l:List bA)(w_ h e_:Int)(x1:Bool):Option ((List bA)×Bool):=
  (if x1 then (mF l).bind fun x2=>some (x2,false) else (mF l).bind fun x3=>(idx x3 w_).bind fun x4=>need (x4.Rows.length+([(⟨h,e_⟩:cW)]).length≤1073741824) ((lQ (x3.set w_.toNat (⟨x4.Rows++([(⟨h,e_⟩:cW)])⟩:bA))).bind fun x5=>(if !x5 then (mF l).bind fun x6=>some (x6,false) else some (x3.set w_.toNat (⟨x4.Rows++([(⟨h,e_⟩:cW)])⟩:bA),true))))
def EM(l:List bA)(w_ h e_:Int):Option ((List bA)×Bool):=
  (lQ l).bind fun x7=>(if !x7 then vP l w_ h e_ true else (fV w_).bind fun x8=>vP l w_ h e_ (!x8))
def lT(s:Sub)(b:aA)(w_:Int)(x3:Bool):Option (Sub×aA):=
  (if x3 then (bG s 4).bind fun x4=>some (x4,b) else (EM b.aP w_ s.A s.E).bind fun x5=>(bG s 0).bind fun x6=>some (x6,({b with aP:=x5.1}:aA)))
def lU(s:Sub)(b:aA)(w_:Int)(x1:Bool):Option (Sub×aA):=
  (if x1 then (bG s 1).bind fun x2=>some (x2,b) else (AT b.Mem s.A).bind fun x7=>(if !x7 then lT s b w_ true else (HA b.aP (Int.tmod s.A 32)).bind fun x8=>lT s b w_ x8))
def oR(s:Sub)(b:aA)(w_:Int):Option (Sub×aA):=
  (if s.Pc == 0 then some (({s with Pc:=1,E:=b.aC.aI}:Sub),b) else (if s.Pc != 1 then lU s b w_ true else (b9 s.E 0 b.aC.aI).bind fun x9=>lU s b w_ (!x9)))
def pK(w_:Int)(x1:aC)(x4:Bool):Option (aC×Bool):=
  (if x4 then some (x1,true) else (idx x1.cH w_).bind fun x5=>(if decide (x5.Seen < 2) then some ((⟨x1.aI,x1.cH.set w_.toNat ({x5 with Seen:=bB (x5.Seen+1)}:oE)⟩:aC),false) else some ((⟨x1.aI,x1.cH.set w_.toNat ({x5 with cX:=true,Seen:=0}:oE)⟩:aC),true)))
def BU(w_ e_:Int)(x1:aC)(x2:Bool):Option (aC×Bool):=
  (if x2 then some (x1,false) else (idx x1.cH w_).bind fun x3=>(if !x3.On then pK w_ x1 true else (if x3.cX then pK w_ x1 true else pK w_ x1 (x3.aI == e_))))
def J4(c:aC)(w_ e_:Int):Option (aC×Bool):=
  (mE c).bind fun x1=>(nK c).bind fun x6=>(if !x6 then BU w_ e_ x1 true else (fV w_).bind fun x7=>BU w_ e_ x1 (!x7))
def BV(x1:aC)(x2:Bool):Option (aC×Bool):=
  (if x2 then some (x1,false) else some ((⟨bB (x1.aI+1),x1.cH⟩:aC),true))
def RK(c:aC)(e_:Int):Option (aC×Bool):=
  (mE c).bind fun x1=>(nK c).bind fun x3=>(if !x3 then BV x1 true else (if c.aI != e_ then BV x1 true else BV x1 (c.aI == 100000)))
def kU(s:Sub)(b:aA)(x4:aC×Bool)(x5:Int):Option (Sub×aA):=
  (bG ({s with Out:=x5}:Sub) 0).bind fun x6=>some (x6,({b with aC:=x4.1}:aA))
def kV(s:Sub)(b:aA)(x1:Bool):Option (Sub×aA):=
  (if x1 then (J4 b.aC s.B s.E).bind fun x2=>(if !x2.2 then (bG s 8).bind fun x3=>some (x3,({b with aC:=x2.1}:aA)) else (if (bB (s.B+1)) == 3 then some (({s with Pc:=2,B:=bB (s.B+1)}:Sub),({b with aC:=x2.1}:aA)) else some (({s with B:=bB (s.B+1)}:Sub),({b with aC:=x2.1}:aA)))) else (if s.Pc == 2 then (RK b.aC s.E).bind fun x4=>(if x4.2 then kU s b x4 1 else kU s b x4 s.Out) else (bG s 1).bind fun x7=>some (x7,b)))
def nM(s:Sub)(b:aA):Option (Sub×aA):=
  (if s.Pc == 0 then some (({s with Pc:=1,E:=b.aC.aI,B:=0}:Sub),b) else (if s.Pc == 1 then (fV s.B).bind fun x8=>kV s b x8 else kV s b false))
def BW(x1:Bool):Option Bool:=
  some x1
def FE(l:List bA)(w_ i:Int):Option Bool:=
  (fV w_).bind fun x2=>(if x2 then (idx l w_).bind fun x3=>(b9 i 0 (bB ((x3.Rows.length:Int) - 1))).bind fun x4=>BW x4 else BW false)
def HB(x1:Bool):Option Bool:=
  some x1
def LY(r_:cW)(e_:Int):Option Bool:=
  (if decide (2≤e_) then HB (decide (r_.aI≤(bB (e_ - 2)))) else HB false)
def FF(s:Sub)(b:aA):Option (Sub×aA):=
  (bG s 0).bind fun x3=>some (x3,b)
def eZ(s:Sub)(b:aA)(w_:Int):Int→Option (Step Int (Out Unit (Sub×aA)))
  | x2=>(idx b.aP w_).bind fun x4=>(if decide (x2 < (x4.Rows.length:Int)) then (idx x4.Rows x2).bind fun x5=>(LY x5 s.E).bind fun x6=>(if x6 then some (.stop (Out.ret (({s with Pc:=2,Row:=x2,B:=0,H:=x5.Handle}:Sub),b))) else some (.next (bB (x2+1)))) else some (.stop (Out.brk ())))
def PL(s:Sub)(b:aA):(Out Unit (Sub×aA))→Option (Sub×aA)
  | .brk ()=>FF s b
  | .ret r=>some r
def nN(s:Sub)(b:aA)(w_:Int):Option (Sub×aA):=
  (loop (eZ s b w_) (if s.Row < 0 then 0 else s.Row)).bind (PL s b)
def z7(s:List cW)(i j:Int):Option (List cW):=
  need (0≤(i:Int)∧(i:Int)≤(j:Int)∧(j:Int)≤((s.length:Int):Int)∧((s.length:Int):Int)≤(s.length:Int)) ((if i == j then some s else need (0≤(i:Int)∧(i:Int)≤(s.length:Int)) (need (0≤(j:Int)∧(j:Int)≤(s.length:Int)) (need (i.toNat≤j.toNat) (need (0≤(((((dA s i.toNat (s.drop j.toNat)).take (i.toNat+(s.length - j.toNat))).drop 0).length:Int):Int)∧(((((dA s i.toNat (s.drop j.toNat)).take (i.toNat+(s.length - j.toNat))).drop 0).length:Int):Int)≤((s.length:Int):Int)∧((s.length:Int):Int)≤((dA s i.toNat (s.drop j.toNat)).length:Int)) (some (((dA s i.toNat (s.drop j.toNat)).take (i.toNat+(s.length - j.toNat))).drop 0)))))))
def zD(w_ i:Int)(x1:(List bA))(x2:Bool):Option ((List bA)×Bool):=
  (if x2 then some (x1,false) else (idx x1 w_).bind fun x3=>(z7 x3.Rows i (bB (i+1))).bind fun x4=>some (x1.set w_.toNat (⟨x4⟩:bA),true))
def HC(l:List bA)(w_ i:Int):Option ((List bA)×Bool):=
  (mF l).bind fun x1=>(lQ l).bind fun x5=>(if !x5 then zD w_ i x1 true else (FE l w_ i).bind fun x6=>zD w_ i x1 (!x6))
def IE(x3 x5:List Int):Option (aD×Bool):=
  some ((⟨x5,x3⟩:aD),true)
def BX(slot gen x1:Int)(x2 x3:List Int)(x4:Bool):Option (aD×Bool):=
  (if x4 then some ((⟨x2,x3⟩:aD),false) else (tV slot x1).bind fun x6=>(z6 gen 4).bind fun x7=>(uE x2 x6 x7).bind fun x8=>IE x3 x8)
def IF(slot gen x1:Int)(x2 x3:List Int):Option (aD×Bool):=
  (if decide (x1 < 0) then BX slot gen x1 x2 x3 true else (b9 gen 1 7).bind fun x9=>BX slot gen x1 x2 x3 (!x9))
def PM(h:aD)(slot gen:Int):Option (aD×Bool):=
  (sN h).bind fun x10=>(qJ h slot).bind fun x11=>IF slot gen x11 x10.Bytes x10.Class
def vQ(c slot:Int)(x1:aB)(x2:Int)(x3:Bool):Option (aB×Bool):=
  (if x3 then some (x1,false) else (idx x1.Own x2).bind fun x4=>(if decide (2≤(x4.aS.length:Int)) then (idx x1.Global c).bind fun x5=>need (x5.aS.length+([slot]).length≤1073741824) (some ((⟨x1.Global.set c.toNat (⟨x5.aS++([slot])⟩:aQ),x1.Own⟩:aB),true)) else need (x4.aS.length+([slot]).length≤1073741824) (some ((⟨x1.Global,x1.Own.set x2.toNat (⟨x4.aS++([slot])⟩:aQ)⟩:aB),true))))
def V3(l:aB)(w_ c slot:Int):Option (aB×Bool):=
  (iH l).bind fun x1=>(ID w_ c).bind fun x2=>(j9 l).bind fun x6=>(if !x6 then vQ c slot x1 x2 true else (if decide (x2 < 0) then vQ c slot x1 x2 true else (lZ slot).bind fun x7=>(if !x7 then vQ c slot x1 x2 true else (FC l slot).bind fun x8=>vQ c slot x1 x2 x8)))
def KQ(x3:Mem):Option Mem:=
  some x3
def KR(m:Mem)(w_ h:Int)(x2:Mem):Option Mem:=
  (if decide ((bB ((bB (Int.tdiv h 32))+1))≤6) then (nJ m.aD (Int.tmod h 32)).bind fun x4=>(V3 m.aB w_ x4 (Int.tmod h 32)).bind fun x5=>KQ (⟨x2.aD,x5.1⟩:Mem) else KQ x2)
def M4(m:Mem)(w_ h:Int):Option Mem:=
  (PM m.aD (Int.tmod h 32) (bB ((bB (Int.tdiv h 32))+1))).bind fun x1=>(iH m.aB).bind fun x6=>KR m w_ h (⟨x1.1,x6⟩:Mem)
def dF(s:Sub)(b:aA)(w_:Int)(x5:Bool):Option (Sub×aA):=
  (if x5 then (HC b.aP w_ s.Row).bind fun x6=>(M4 b.Mem w_ s.H).bind fun x7=>some (({s with Pc:=1,Out:=bB (s.Out+1)}:Sub),({b with Mem:=x7,aP:=x6.1}:aA)) else (bG s 1).bind fun x8=>some (x8,b))
def eO(s:Sub)(b:aA)(w_:Int)(x1 x3:Bool):Option (Sub×aA):=
  (if x3 then (idx b.nA s.B).bind fun x4=>(if x4 == s.H then some (({s with Pc:=1,Row:=bB (s.Row+1)}:Sub),b) else (if (bB (s.B+1)) == 3 then some (({s with Pc:=3,B:=bB (s.B+1)}:Sub),b) else some (({s with B:=bB (s.B+1)}:Sub),b))) else (if s.Pc == 3 then (if x1 then (idx b.aP w_).bind fun x9=>(idx x9.Rows s.Row).bind fun x10=>(LY x10 s.E).bind fun x11=>dF s b w_ x11 else dF s b w_ false) else dF s b w_ false))
def fN(s:Sub)(b:aA)(w_:Int)(x1:Bool):Option (Sub×aA):=
  (if s.Pc == 0 then some (({s with Pc:=1,E:=b.aC.aI,Row:=0}:Sub),b) else (if s.Pc == 1 then (nN s b w_).bind fun x2=>some (x2.1,x2.2) else (if s.Pc == 2 then (fV s.B).bind fun x12=>(if x12 then eO s b w_ x1 x1 else eO s b w_ x1 false) else eO s b w_ x1 false)))
def nO(s:Sub)(b:aA)(w_:Int):Option (Sub×aA):=
  (FE b.aP w_ s.Row).bind fun x13=>(if x13 then (idx b.aP w_).bind fun x14=>(idx x14.Rows s.Row).bind fun x15=>fN s b w_ (x15.Handle == s.H) else fN s b w_ false)
def xH(w_ e_:Int)(x1:aC)(x2:Bool):Option (aC×Bool):=
  (if x2 then some (x1,false) else (idx x1.cH w_).bind fun x3=>some ((⟨x1.aI,x1.cH.set w_.toNat (⟨true,e_,false,0⟩:oE)⟩:aC),true))
def M5(c:aC)(w_ e_:Int):Option (aC×Bool):=
  (mE c).bind fun x1=>(nK c).bind fun x4=>(if !x4 then xH w_ e_ x1 true else (fV w_).bind fun x5=>(if !x5 then xH w_ e_ x1 true else (b9 e_ 0 c.aI).bind fun x6=>xH w_ e_ x1 (!x6)))
def wS(s:Sub)(b:aA)(x1:Bool)(x2:Int)(x3:List oE):Option (Sub×aA):=
  (if !x1 then (bG s 1).bind fun x4=>some (x4,b) else some (({s with Pc:=2}:Sub),({b with aC:=(⟨x2,x3⟩:aC)}:aA)))
def vR(s:Sub)(b:aA)(w_:Int):Option (Sub×aA):=
  (if s.Pc == 0 then some (({s with Pc:=1,E:=b.aC.aI}:Sub),b) else (if s.Pc == 1 then (M5 b.aC w_ s.E).bind fun x5=>wS s b x5.2 x5.1.aI x5.1.cH else (if s.Pc == 2 then (if b.aC.aI == s.E then (bG s 0).bind fun x6=>some (x6,b) else some (({s with Pc:=0}:Sub),b)) else (bG s 1).bind fun x7=>some (x7,b))))
def kC(s:Sub)(b:aA)(w_:Int):Option (Sub×aA):=
  (if s.cV then some (s,b) else (if s.Kind == 1 then (qQ s b w_).bind fun x1=>some (x1.1,x1.2) else (if s.Kind == 2 then (oR s b w_).bind fun x2=>some (x2.1,x2.2) else (if s.Kind == 3 then (nM s b).bind fun x3=>some (x3.1,x3.2) else (if s.Kind == 4 then (nO s b w_).bind fun x4=>some (x4.1,x4.2) else (if s.Kind == 5 then (vR s b w_).bind fun x5=>some (x5.1,x5.2) else (bG s 1).bind fun x6=>some (x6,b)))))))
def dB(j:bE)(pc:Int):Option bE:=
  some ({j with Pc:=pc,Code:=0}:bE)
def HD(slot c:Int):Option Int:=
  (tV slot c).bind fun x1=>(if decide (x1 < 0) then some (-1) else some (bB (x1+4)))
def M6(slot c:Int):Option Span:=
  (HD slot c).bind fun x1=>(if decide (x1 < 0) then some (⟨0,0⟩:Span) else (AR c).bind fun x2=>some (⟨x1,bB (x1+x2)⟩:Span))
def vS(h:aD)(slot at_ width:Int):Option Int:=
  (nJ h slot).bind fun x1=>(M6 slot x1).bind fun x2=>(b9 at_ 0 (bB ((bB (x2.To - x2.aQQ)) - width))).bind fun x3=>(if !x3 then some (-1) else some (bB (x2.aQQ+at_)))
def BY(m:Mem)(h at_ width:Int)(x1:Bool):Option (Int×Int):=
  (if x1 then some (0,1) else (AT m h).bind fun x2=>(if !x2 then some (0,4) else (vS m.aD (Int.tmod h 32) at_ width).bind fun x3=>(if decide (x3 < 0) then some (0,2) else (lO m.aD.Bytes x3 width).bind fun x4=>some (x4,0))))
def PN(m:Mem)(h at_ width:Int):Option (Int×Int):=
  (IC m).bind fun x5=>(if !x5 then BY m h at_ width true else (kB width).bind fun x6=>BY m h at_ width (!x6))
def OB(x4:Mem):Option (Mem×Int):=
  some (x4,0)
def HE(m:Mem)(h at_ width n:Int):Option (Mem×Int):=
  (GZ m).bind fun x1=>(z6 n width).bind fun x2=>(PN m h at_ width).bind fun x3=>(if x3.2 != 0 then some (x1,x3.2) else (if x2 == ([]) then some (x1,1) else (vS m.aD (Int.tmod h 32) at_ width).bind fun x5=>(uE x1.aD.Bytes x5 x2).bind fun x6=>OB (⟨(⟨x6,x1.aD.Class⟩:aD),x1.aB⟩:Mem)))
def BZ(s:aG)(w_ x7:Int)(x8:Mem):Option aG:=
  (if x7 != 0 then (idx s.aX w_).bind fun x9=>(bM x9 x7).bind fun x10=>some ({s with aX:=s.aX.set w_.toNat x10}:aG) else (idx s.aX w_).bind fun x11=>(dB x11 2).bind fun x12=>some ({s with aA:=(⟨x8,s.aA.aC,s.aA.aP,s.aA.nA⟩:aA),aX:=s.aX.set w_.toNat x12}:aG))
def B4(w_:Int)(x16:aG):Option aG:=
  (idx x16.aX w_).bind fun x17=>(if x17.Old == 0 then (bM x17 0).bind fun x18=>some ({x16 with aX:=x16.aX.set w_.toNat x18}:aG) else (jP 2 x17.Old).bind fun x19=>(dB ({x17 with Sub:=x19}:bE) 3).bind fun x20=>some ({x16 with aX:=x16.aX.set w_.toNat x20}:aG))
def B5(s:aG)(w_:Int)(x1:bE)(x14:Int)(x15:List Int):Option aG:=
  (idx (s.aX.set w_.toNat ({x1 with Old:=x14}:bE)) w_).bind fun x21=>(cT ({s with Cells:=x15,aX:=s.aX.set w_.toNat ({x1 with Old:=x14}:bE)}:aG) 2 w_ x21.H x21.Op.dV 0).bind fun x22=>B4 w_ x22
def B6(s:aG)(w_:Int):Option aG:=
  (idx s.aX w_).bind fun x1=>(if x1.Pc == 0 then (kC x1.Sub s.aA w_).bind fun x2=>(if !x2.1.cV then some ({s with aA:=x2.2,aX:=s.aX.set w_.toNat ({x1 with Sub:=x2.1}:bE)}:aG) else (if x2.1.Code != 0 then (bM ({x1 with Sub:=x2.1}:bE) x2.1.Code).bind fun x3=>some ({s with aA:=x2.2,aX:=s.aX.set w_.toNat x3}:aG) else (g9 x2.1.Out).bind fun x4=>(if !x4 then (bM ({x1 with Sub:=x2.1}:bE) 1).bind fun x5=>some ({s with aA:=x2.2,aX:=s.aX.set w_.toNat x5}:aG) else (dB ({x1 with Sub:=x2.1,H:=x2.1.Out}:bE) 1).bind fun x6=>some ({s with aA:=x2.2,aX:=s.aX.set w_.toNat x6}:aG)))) else (if x1.Pc == 1 then (HE s.aA.Mem x1.H 0 4 x1.Op.dV).bind fun x13=>BZ s w_ x13.2 x13.1 else (if x1.Pc == 2 then (idx s.Cells x1.Op.Cell).bind fun x14=>(idx (s.aX.set w_.toNat ({x1 with Old:=x14}:bE)) w_).bind fun x23=>(idx s.Cells x23.Op.Cell).bind fun x24=>B5 s w_ x1 x14 (s.Cells.set x23.Op.Cell.toNat x23.H) else (if x1.Pc == 3 then (kC x1.Sub s.aA w_).bind fun x25=>(if x25.1.cV then (bM ({x1 with Sub:=x25.1}:bE) x25.1.Code).bind fun x26=>some ({s with aA:=x25.2,aX:=s.aX.set w_.toNat x26}:aG) else some ({s with aA:=x25.2,aX:=s.aX.set w_.toNat ({x1 with Sub:=x25.1}:bE)}:aG)) else (bM x1 1).bind fun x27=>some ({s with aX:=s.aX.set w_.toNat x27}:aG)))))
def uF(s:aG)(w_:Int):Option aG:=
  (idx s.aX w_).bind fun x1=>(idx s.Cells x1.Op.Cell).bind fun x2=>(cT ({s with aX:=s.aX.set w_.toNat ({x1 with H:=x2}:bE)}:aG) 3 w_ x2 0 0).bind fun x3=>some x3
def rN(b:aA)(h at_ width:Int)(x1:Bool):Option (Int×Bool):=
  (if x1 then some (0,false) else (vS b.Mem.aD (Int.tmod h 32) at_ width).bind fun x2=>(if decide (x2 < 0) then some (0,false) else (lO b.Mem.aD.Bytes x2 width).bind fun x3=>some (x3,true)))
def HF(b:aA)(h at_ width:Int):Option (Int×Bool):=
  (g9 h).bind fun x4=>(if !x4 then rN b h at_ width true else (qJ b.Mem.aD (Int.tmod h 32)).bind fun x5=>(if decide (x5 < 0) then rN b h at_ width true else (kB width).bind fun x6=>rN b h at_ width (!x6)))
def lE(s:aG)(w_:Int):Option aG:=
  (idx s.aX w_).bind fun x1=>(HF s.aA x1.H 0 4).bind fun x2=>some ({s with aX:=s.aX.set w_.toNat ({x1 with dV:=x2.1}:bE)}:aG)
def iG(x1:Bool):Option Bool:=
  some x1
def jZ(p:oE):Option Bool:=
  (if p.On then iG (!p.cX) else iG false)
def lK(s:aG)(w_ pc:Int):Option aG:=
  (idx s.aX w_).bind fun x1=>(dB x1 pc).bind fun x2=>(idx s.aA.aC.cH w_).bind fun x3=>(jZ x3).bind fun x4=>(if !x4 then some ({s with aX:=s.aX.set w_.toNat ({x2 with dV:=0,Code:=6}:bE)}:aG) else some ({s with aX:=s.aX.set w_.toNat x2}:aG))
def xI(w_:Int)(x1:aC)(x2:Bool):Option (aC×Bool):=
  (if x2 then some (x1,false) else (idx x1.cH w_).bind fun x3=>some ((⟨x1.aI,x1.cH.set w_.toNat (⟨false,0,false,0⟩:oE)⟩:aC),true))
def M7(c:aC)(w_:Int):Option (aC×Bool):=
  (mE c).bind fun x1=>(nK c).bind fun x4=>(if !x4 then xI w_ x1 true else (fV w_).bind fun x5=>(if !x5 then xI w_ x1 true else (idx c.cH w_).bind fun x6=>xI w_ x1 (!x6.On)))
def rO(b:aA)(w_:Int):Option (Bool×aA):=
  (M7 b.aC w_).bind fun x1=>some (x1.2,({b with aC:=x1.1}:aA))
def B7(s:aG)(w_:Int):Option aG:=
  (idx s.aX w_).bind fun x1=>(if x1.Pc == 0 then (kC x1.Sub s.aA w_).bind fun x2=>(if x2.1.cV then (dB ({x1 with Sub:=x2.1}:bE) 1).bind fun x3=>some ({s with aA:=x2.2,aX:=s.aX.set w_.toNat x3}:aG) else some ({s with aA:=x2.2,aX:=s.aX.set w_.toNat ({x1 with Sub:=x2.1}:bE)}:aG)) else (if x1.Pc == 1 then (uF s w_).bind fun x4=>(idx x4.aX w_).bind fun x5=>(dB x5 2).bind fun x6=>(if x6.H == 0 then some ({x4 with aX:=x4.aX.set w_.toNat ({x6 with Pc:=4,Code:=8}:bE)}:aG) else some ({x4 with aX:=x4.aX.set w_.toNat x6}:aG)) else (if x1.Pc == 2 then (lE s w_).bind fun x7=>(idx x7.aX w_).bind fun x8=>(dB x8 3).bind fun x9=>some ({x7 with aX:=x7.aX.set w_.toNat x9}:aG) else (if x1.Pc == 3 then (lK s w_ 4).bind fun x10=>some x10 else (if x1.Pc == 4 then (rO s.aA w_).bind fun x11=>(bM x1 x1.Code).bind fun x12=>some ({s with aA:=x11.2,aX:=s.aX.set w_.toNat x12}:aG) else (bM x1 1).bind fun x13=>some ({s with aX:=s.aX.set w_.toNat x13}:aG))))))
def rP(w_ h:Int)(x1:(List Int))(x2:Bool):Option ((List Int)×Bool):=
  (if x2 then some (x1,false) else (idx x1 w_).bind fun x3=>some (x1.set w_.toNat h,true))
def HH(z:List Int)(w_ h:Int):Option ((List Int)×Bool):=
  (eU z).bind fun x1=>(DO z).bind fun x4=>(if !x4 then rP w_ h x1 true else (fV w_).bind fun x5=>(if !x5 then rP w_ h x1 true else (g9 h).bind fun x6=>rP w_ h x1 (!x6)))
def xJ(w_:Int)(x1:(List Int))(x2:Bool):Option ((List Int)×Bool):=
  (if x2 then some (x1,false) else (idx x1 w_).bind fun x3=>some (x1.set w_.toNat 0,true))
def M8(z:List Int)(w_:Int):Option ((List Int)×Bool):=
  (eU z).bind fun x1=>(DO z).bind fun x4=>(if !x4 then xJ w_ x1 true else (fV w_).bind fun x5=>(if !x5 then xJ w_ x1 true else (idx z w_).bind fun x6=>xJ w_ x1 (x6 == 0)))
def B8(s:aG)(w_:Int)(x6:List Int):Option aG:=
  (idx s.aX w_).bind fun x7=>(dB x7 2).bind fun x8=>some ({s with aA:=(⟨s.aA.Mem,s.aA.aC,s.aA.aP,x6⟩:aA),aX:=s.aX.set w_.toNat x8}:aG)
def B9(s:aG)(w_:Int)(x10:Bool):Option aG:=
  (if x10 then (idx s.aX w_).bind fun x11=>(dB x11 0).bind fun x12=>some ({s with aX:=s.aX.set w_.toNat x12}:aG) else (idx s.aX w_).bind fun x13=>(cT s 3 w_ x13.H 0 0).bind fun x14=>(idx x14.aX w_).bind fun x15=>(dB x15 3).bind fun x16=>some ({x14 with aX:=x14.aX.set w_.toNat x16}:aG))
def CA(s:aG)(w_:Int):Option aG:=
  (idx s.aX w_).bind fun x1=>(if x1.Pc == 0 then (idx s.Cells x1.Op.Cell).bind fun x2=>(dB ({x1 with H:=x2}:bE) 1).bind fun x3=>(if x3.H == 0 then (cT ({s with aX:=s.aX.set w_.toNat x3}:aG) 3 w_ 0 0 0).bind fun x4=>(idx x4.aX w_).bind fun x5=>some ({x4 with aX:=x4.aX.set w_.toNat ({x5 with Pc:=4,Code:=8}:bE)}:aG) else some ({s with aX:=s.aX.set w_.toNat x3}:aG)) else (if x1.Pc == 1 then (HH s.aA.nA w_ x1.H).bind fun x9=>B8 s w_ x9.1 else (if x1.Pc == 2 then (idx s.Cells x1.Op.Cell).bind fun x17=>B9 s w_ (x17 != x1.H) else (if x1.Pc == 3 then (lE s w_).bind fun x18=>(idx x18.aX w_).bind fun x19=>(dB x19 4).bind fun x20=>some ({x18 with aX:=x18.aX.set w_.toNat x20}:aG) else (if x1.Pc == 4 then (M8 s.aA.nA w_).bind fun x21=>(bM x1 x1.Code).bind fun x22=>some ({s with aA:=(⟨s.aA.Mem,s.aA.aC,s.aA.aP,x21.1⟩:aA),aX:=s.aX.set w_.toNat x22}:aG) else (bM x1 1).bind fun x23=>some ({s with aX:=s.aX.set w_.toNat x23}:aG))))))
def qR(s:aG)(w_:Int)(x5:Bool):Option aG:=
  (if x5 then (idx s.aX w_).bind fun x6=>(bM x6 6).bind fun x7=>some ({s with aX:=s.aX.set w_.toNat x7}:aG) else (idx s.aX w_).bind fun x8=>(if x8.Pc == 0 then (uF s w_).bind fun x9=>(idx x9.aX w_).bind fun x10=>(dB x10 1).bind fun x11=>(if x11.H == 0 then (bM x11 8).bind fun x12=>some ({x9 with aX:=x9.aX.set w_.toNat x12}:aG) else some ({x9 with aX:=x9.aX.set w_.toNat x11}:aG)) else (if x8.Pc == 1 then (lE s w_).bind fun x13=>(idx x13.aX w_).bind fun x14=>(dB x14 2).bind fun x15=>some ({x13 with aX:=x13.aX.set w_.toNat x15}:aG) else (if x8.Pc == 2 then (lK s w_ 9).bind fun x16=>some x16 else (bM x8 1).bind fun x17=>some ({s with aX:=s.aX.set w_.toNat x17}:aG)))))
def qS(s:aG)(w_:Int)(x1:oE)(x2:Bool):Option aG:=
  (if x2 then (idx s.aX w_).bind fun x3=>(bM x3 5).bind fun x4=>some ({s with aX:=s.aX.set w_.toNat x4}:aG) else (idx s.aX w_).bind fun x18=>(if x18.Pc == 0 then qR s w_ x1.cX else qR s w_ false))
def z8(s:aG)(w_:Int)(x1:oE):Option aG:=
  (idx s.aX w_).bind fun x19=>(if x19.Pc == 0 then qS s w_ x1 (!x1.On) else qS s w_ x1 false)
def zE(s:aG)(w_:Int):Option aG:=
  (idx s.aX w_).bind fun x20=>(idx s.aA.aC.cH w_).bind fun x21=>z8 s w_ x21
def oT(w_ x3:Int)(x4:aG):Option aG:=
  (idx x4.aX w_).bind fun x5=>(bM x5 x3).bind fun x6=>some ({x4 with aX:=x4.aX.set w_.toNat x6}:aG)
def oV(s:aG)(w_:Int)(x17:Bool):Option aG:=
  (if x17 then (idx s.aX w_).bind fun x18=>(kC x18.Sub s.aA w_).bind fun x19=>(if x19.1.cV then (bM ({x18 with Sub:=x19.1,dV:=x19.1.Out}:bE) x19.1.Code).bind fun x20=>some ({s with aA:=x19.2,aX:=s.aX.set w_.toNat x20}:aG) else some ({s with aA:=x19.2,aX:=s.aX.set w_.toNat ({x18 with Sub:=x19.1}:bE)}:aG)) else (idx s.aX w_).bind fun x21=>(bM x21 1).bind fun x22=>some ({s with aX:=s.aX.set w_.toNat x22}:aG))
def oW(s:aG)(w_:Int)(x12:Bool):Option aG:=
  (if x12 then (idx s.aX w_).bind fun x13=>(kC x13.Sub s.aA w_).bind fun x14=>(if x14.1.cV then (jP 4 0).bind fun x15=>(dB ({x13 with Sub:=x15}:bE) 1).bind fun x16=>some ({s with aA:=x14.2,aX:=s.aX.set w_.toNat x16}:aG) else some ({s with aA:=x14.2,aX:=s.aX.set w_.toNat ({x13 with Sub:=x14.1}:bE)}:aG)) else (idx s.aX w_).bind fun x23=>(if x23.Op.Kind == 4 then oV s w_ (x23.Pc == 1) else oV s w_ false))
def oX(s:aG)(w_:Int)(x8:Bool):Option aG:=
  (if x8 then (idx s.aX w_).bind fun x9=>(kC x9.Sub s.aA w_).bind fun x10=>(if x10.1.cV then (bM ({x9 with Sub:=x10.1}:bE) x10.1.Code).bind fun x11=>some ({s with aA:=x10.2,aX:=s.aX.set w_.toNat x11}:aG) else some ({s with aA:=x10.2,aX:=s.aX.set w_.toNat ({x9 with Sub:=x10.1}:bE)}:aG)) else (idx s.aX w_).bind fun x24=>(if x24.Op.Kind == 4 then oW s w_ (x24.Pc == 0) else oW s w_ false))
def oY(s:aG)(w_:Int)(x2:Bool):Option aG:=
  (if x2 then (rO s.aA w_).bind fun x7=>(if !x7.1 then oT w_ 5 ({s with aA:=x7.2}:aG) else oT w_ 0 ({s with aA:=x7.2}:aG)) else (idx s.aX w_).bind fun x25=>(if x25.Op.Kind == 5 then oX s w_ (x25.Pc == 0) else oX s w_ false))
def vT(s:aG)(w_:Int):Option aG:=
  (idx s.aX w_).bind fun x1=>(if x1.Op.Kind == 6 then oY s w_ (x1.Pc == 0) else oY s w_ false)
def rQ(s:aG)(w_:Int):Option aG:=
  (idx s.aX w_).bind fun x1=>(if !x1.eG then (vN s w_).bind fun x2=>some x2 else (if x1.Pc == 9 then (cT s 4 w_ x1.H x1.dV x1.Code).bind fun x3=>(idx x3.aX w_).bind fun x4=>some ({x3 with aX:=x3.aX.set w_.toNat (⟨false,(⟨0,0,0,0⟩:dT),0,0,(⟨0,0,0,0,0,0,0,0,0,false⟩:Sub),0,0,0,0⟩:bE)}:aG) else (if x1.Op.Kind == 1 then (B6 s w_).bind fun x5=>some x5 else (if x1.Op.Kind == 2 then (B7 s w_).bind fun x6=>some x6 else (if x1.Op.Kind == 3 then (CA s w_).bind fun x7=>some x7 else (if x1.Op.Kind == 7 then (zE s w_).bind fun x8=>some x8 else (vT s w_).bind fun x9=>some x9))))))
def OC(x y:Int):Option (Int×Int):=
  some (IntKind.u64.wrap ((IntKind.u64.wrap ((IntKind.u64.wrap ((nH .u64 x 32) * (nH .u64 y 32)))+(nH .u64 (IntKind.u64.wrap ((IntKind.u64.wrap ((nH .u64 x 32) * (gU .and .u64 y 4294967295)))+(nH .u64 (IntKind.u64.wrap ((gU .and .u64 x 4294967295) * (gU .and .u64 y 4294967295))) 32))) 32)))+(nH .u64 (IntKind.u64.wrap ((gU .and .u64 (IntKind.u64.wrap ((IntKind.u64.wrap ((nH .u64 x 32) * (gU .and .u64 y 4294967295)))+(nH .u64 (IntKind.u64.wrap ((gU .and .u64 x 4294967295) * (gU .and .u64 y 4294967295))) 32))) 4294967295)+(IntKind.u64.wrap ((gU .and .u64 x 4294967295) * (nH .u64 y 32))))) 32)),IntKind.u64.wrap (x * y))
def KS(x y:Int):Option (Int×Int):=
  (OC x y).bind fun x1=>some (x1.1,x1.2)
def PO(x7:List Int):Option (List Int):=
  some x7
def kI:((List Int)×Int)→Option (Step ((List Int)×Int) (List Int))
  | (x5,x6)=>(if decide (x6 < (x5.length:Int)) then need (0≤(x6:Int)∧(x6:Int)≤(x5.length:Int)) (need (0≤(x6:Int)∧(x6:Int)≤(x5.length:Int)) (some (.next (dA x5 x6.toNat ((x5.take x6.toNat).drop 0),bB (x6+((min ((x5.take x6.toNat).drop 0).length (x5.length - x6.toNat):Nat):Int)))))) else some (.stop (x5)))
def PQ:(List Int)→Option (List Int)
  | x7=>PO x7
def nP(x:List Int)(x1:Int×Int)(x2:Bool):Option (List Int):=
  (if x2 then none else need (0≤(IntKind.i64.wrap x1.2:Int)∧(IntKind.i64.wrap x1.2:Int)≤4294967296) ((loop (kI) (dA (List.replicate ((IntKind.i64.wrap x1.2).toNat) 0) 0 x,((min x.length ((List.replicate ((IntKind.i64.wrap x1.2).toNat) 0:List Int).length - 0):Nat):Int))).bind (PQ)))
def tG(x:List Int)(count:Int):Option (List Int):=
  (if decide (count < 0) then none else (KS (IntKind.u64.wrap (x.length:Int)) (IntKind.u64.wrap count)).bind fun x1=>(if decide (0 < x1.1) then nP x x1 true else nP x x1 (decide (9223372036854775807 < x1.2))))
def OD(x1:List Int):Option aD:=
  some (⟨List.replicate ((384:Int).toNat) 0,x1⟩:aD)
def HI:Option aD:=
  need (0≤(384:Int)∧(384:Int)≤4294967296)<|(tG ([(-1)]) 6).bind fun x2=>OD x2
def LZ:Option aB:=
  some (⟨List.replicate ((3:Int).toNat) (⟨[]⟩:aQ),List.replicate ((9:Int).toNat) (⟨[]⟩:aQ)⟩:aB)
def KT:Option aB:=
  need (0≤(3:Int)∧(3:Int)≤4294967296)<|need (0≤(9:Int)∧(9:Int)≤4294967296)<|LZ
def PR:Option Mem:=
  (HI).bind fun x1=>(KT).bind fun x2=>some (⟨x1,x2⟩:Mem)
def KU:Option aC:=
  need (0≤(3:Int)∧(3:Int)≤4294967296) (some (⟨0,List.replicate ((3:Int).toNat) (⟨false,0,false,0⟩:oE)⟩:aC))
def KV:Option (List bA):=
  need (0≤(3:Int)∧(3:Int)≤4294967296) (some (List.replicate ((3:Int).toNat) (⟨[]⟩:bA)))
def PT:Option (List Int):=
  need (0≤(3:Int)∧(3:Int)≤4294967296) (some (List.replicate ((3:Int).toNat) 0))
def HJ:Option aA:=
  (PR).bind fun x1=>(KU).bind fun x2=>(KV).bind fun x3=>(PT).bind fun x4=>some (⟨x1,x2,x3,x4⟩:aA)
def L4(x2:aG):Option aG:=
  some ({x2 with Log:=[]}:aG)
def EN(todo:List Queue):Option aG:=
  (FD todo).bind fun x1=>(if !x1 then some (⟨(⟨(⟨(⟨[],[]⟩:aD),(⟨[],[]⟩:aB)⟩:Mem),(⟨0,[]⟩:aC),[],[]⟩:aA),[],[],[],[],0⟩:aG) else (HJ).bind fun x3=>need (0≤(2:Int)∧(2:Int)≤4294967296)<|need (0≤(3:Int)∧(3:Int)≤4294967296)<|(EB todo).bind fun x4=>L4 (⟨x3,List.replicate ((2:Int).toNat) 0,List.replicate ((3:Int).toNat) (⟨false,(⟨0,0,0,0⟩:dT),0,0,(⟨0,0,0,0,0,0,0,0,0,false⟩:Sub),0,0,0,0⟩:bE),x4,[],0⟩:aG))
def UG(x6:aG):Option aG:=
  some x6
def tH(x4:Int)(x7:aG):Option (Step (Int×aG) aG):=
  some (.next (bB (x4+1),x7))
def J5(x:FY):(Int×aG)→Option (Step (Int×aG) aG)
  | (x4,x5)=>(if decide (x4 < (((x.tL.take ((if 400 < (x.tL.length:Int) then 400 else (x.tL.length:Int)).toNat)).drop 0).length:Int)) then (idx ((x.tL.take ((if 400 < (x.tL.length:Int) then 400 else (x.tL.length:Int)).toNat)).drop 0) x4).bind fun x8=>(fV x8).bind fun x9=>(if x9 then (rQ x5 x8).bind fun x10=>tH x4 x10 else tH x4 x5) else some (.stop (x5)))
def UH:aG→Option aG
  | x6=>UG x6
def CB(x:FY):Option aG:=
  (EN x.e9).bind fun x1=>(if (x1.aX.length:Int) == 0 then some x1 else need (0≤(if 400 < (x.tL.length:Int) then 400 else (x.tL.length:Int):Int)∧(if 400 < (x.tL.length:Int) then 400 else (x.tL.length:Int):Int)≤(x.tL.length:Int)) ((loop (J5 x) (0,x1)).bind (UH)))
def xK(x8:List Int)(x9:Int):Option (List Int):=
  need (0≤(x9:Int)∧(x9:Int)≤(x8.length:Int)) (need (0≤(x9:Int)∧(x9:Int)≤((dA x8 x9.toNat (List.replicate (x8.length - x9.toNat) 0)).length:Int)) (some (((dA x8 x9.toNat (List.replicate (x8.length - x9.toNat) 0)).take x9.toNat).drop 0)))
def iJ(x7:Int)(x10:List Int)(x11:Int):Option (Step ((List Int)×Int×Int) ((List Int)×Int)):=
  some (.next (x10,x11,bB (x7+1)))
def kD(del:(Int→Option Bool)):((List Int)×Int×Int)→Option (Step ((List Int)×Int×Int) ((List Int)×Int))
  | (x5,x6,x7)=>(if decide (x7 < (x5.length:Int)) then (idx x5 x7).bind fun x12=>(del x12).bind fun x13=>(if !x13 then (idx x5 x6).bind fun x14=>iJ x7 (x5.set x6.toNat x12) (bB (x6+1)) else iJ x7 x5 x6) else some (.stop ((x5,x6))))
def xL:((List Int)×Int)→Option (List Int)
  | (x8,x9)=>xK x8 x9
def mM(s:List Int)(del:(Int→Option Bool)):Option (List Int):=
  (fY s del).bind fun x1=>(if x1 == (-1) then some s else (loop (kD del) (s,x1,bB (x1+1))).bind (xL))
def DQ(n:Int):Option Bool:=
  some (n == 0)
def cmp_isNaN_int(x:Int):Option Bool:=
  some (x != x)
def rR(x1:Bool):Option Bool:=
  some x1
def cmp_Less_int(x y:Int):Option Bool:=
  (cmp_isNaN_int x).bind fun x2=>(if x2 then (cmp_isNaN_int y).bind fun x3=>(if !x3 then rR true else rR (decide (x < y))) else rR (decide (x < y)))
def iO(data x5:List Int):Option (List Int):=
  need (x5.length=data.length) (some x5)
def mG(data:List Int)(x4:Int)(x10:List Int):Option (Step ((List Int)×Int) (List Int)):=
  need (x10.length=data.length) (some (.next (x10,bB (x4+1))))
def iP(data:List Int)(x9:Int)(x12:List Int):Option (Step ((List Int)×Int) (List Int)):=
  need (x12.length=data.length) (some (.next (x12,bB (x9 - 1))))
def dK(data x8:List Int)(x9:Int)(x11:Bool):Option (Step ((List Int)×Int) (List Int)):=
  need (x8.length=data.length) ((if x11 then (idx x8 (bB (x9 - 1))).bind fun x13=>(idx x8 x9).bind fun x14=>(idx (x8.set x9.toNat x13) (bB (x9 - 1))).bind fun x15=>iP data x9 ((x8.set x9.toNat x13).set ((bB (x9 - 1)).toNat) x14) else some (.stop (x8))))
def dL(data:List Int)(a_:Int):((List Int)×Int)→Option (Step ((List Int)×Int) (List Int))
  | (x8,x9)=>need (x8.length=data.length) ((if decide (a_ < x9) then (idx x8 x9).bind fun x16=>(idx x8 (bB (x9 - 1))).bind fun x17=>(cmp_Less_int x16 x17).bind fun x18=>dK data x8 x9 x18 else dK data x8 x9 false))
def mH(data:List Int)(x4:Int):(List Int)→Option (Step ((List Int)×Int) (List Int))
  | x10=>mG data x4 x10
def cM(data:List Int)(a_ b:Int):((List Int)×Int)→Option (Step ((List Int)×Int) (List Int))
  | (x3,x4)=>need (x3.length=data.length) ((if decide (x4 < b) then (loop (dL data a_) (x3,x4)).bind (mH data x4) else some (.stop (x3))))
def iQ(data:List Int):(List Int)→Option (List Int)
  | x5=>iO data x5
def gT(data:List Int)(a_ b:Int):Option (List Int):=
  (loop (cM data a_ b) (data,bB (a_+1))).bind (iQ data)
def rS(data:List Int)(a_ b limit:Int):Unit→Option (Step Unit (List Int))
  | ()=>(if decide ((bB (b - a_))≤12) then (gT data a_ b).bind fun x1=>some (.stop (x1)) else (if limit == 0 then none else none))
def F8:(List Int)→Option (List Int)
  | r=>some r
def mT(data:List Int)(a_ b limit:Int):Option (List Int):=
  (loop (rS data a_ b limit) ()).bind (F8)
def AA(x5 x6:Int):Option Int:=
  (idx ([0,1,2,2,3,3,3,3,4,4,4,4,4,4,4,4,5,5,5,5,5,5,5,5,5,5,5,5,5,5,5,5,6,6,6,6,6,6,6,6,6,6,6,6,6,6,6,6,6,6,6,6,6,6,6,6,6,6,6,6,6,6,6,6,7,7,7,7,7,7,7,7,7,7,7,7,7,7,7,7,7,7,7,7,7,7,7,7,7,7,7,7,7,7,7,7,7,7,7,7,7,7,7,7,7,7,7,7,7,7,7,7,7,7,7,7,7,7,7,7,7,7,7,7,7,7,7,7,8,8,8,8,8,8,8,8,8,8,8,8,8,8,8,8,8,8,8,8,8,8,8,8,8,8,8,8,8,8,8,8,8,8,8,8,8,8,8,8,8,8,8,8,8,8,8,8,8,8,8,8,8,8,8,8,8,8,8,8,8,8,8,8,8,8,8,8,8,8,8,8,8,8,8,8,8,8,8,8,8,8,8,8,8,8,8,8,8,8,8,8,8,8,8,8,8,8,8,8,8,8,8,8,8,8,8,8,8,8,8,8,8,8,8,8,8,8,8,8,8,8,8,8,8,8,8,8]:List UInt8) ((u8 x5).toNat:Int)).bind fun x7=>some (bB (x6+(x7.toNat:Int)))
def AB(x3 x4:Int):Option Int:=
  (if decide (256≤x3) then AA (nH .u64 x3 8) (bB (x4+8)) else AA x3 x4)
def AD(x1 x2:Int):Option Int:=
  (if decide (65536≤x1) then AB (nH .u64 x1 16) (bB (x2+16)) else AB x1 x2)
def OE(x:Int):Option Int:=
  (if decide (4294967296≤x) then AD (nH .u64 x 32) 32 else AD x 0)
def xM(x:Int):Option Int:=
  (OE x).bind fun x1=>some x1
def zF(x:List Int):Option (List Int):=
  (xM (IntKind.u64.wrap (x.length:Int))).bind fun x1=>(mT x 0 (x.length:Int) x1).bind fun x2=>some x2
def uG(list:List Int):Option (List Int):=
  (eU list).bind fun x1=>(mM x1 (fun y0=>DQ y0)).bind fun x2=>(zF x2).bind fun x3=>(slices_Compact_int x3).bind fun x4=>some x4
def R0(x7:List Int):Option (List Int):=
  (uG x7).bind fun x8=>some x8
def xN(x6:Int)(x9:List Int):Option (Step ((List Int)×Int) (List Int)):=
  some (.next (x9,bB (x6+1)))
def EO(x5:List Int)(x6:Int)(x10:bE)(x12:Bool):Option (Step ((List Int)×Int) (List Int)):=
  (if x12 then need (x5.length+([x10.Old]).length≤1073741824) (xN x6 (x5++([x10.Old]))) else xN x6 x5)
def EP(x5:List Int)(x6:Int)(x10:bE)(x11:Bool):Option (Step ((List Int)×Int) (List Int)):=
  (if x11 then need (x5.length+([x10.H]).length≤1073741824) (xN x6 (x5++([x10.H]))) else (if x10.Op.Kind == 1 then EO x5 x6 x10 (x10.Pc == 3) else EO x5 x6 x10 false))
def xO(s:aG):((List Int)×Int)→Option (Step ((List Int)×Int) (List Int))
  | (x5,x6)=>(if decide (x6 < (s.aX.length:Int)) then (idx s.aX x6).bind fun x10=>(if x10.Op.Kind == 1 then (b9 x10.Pc 1 2).bind fun x13=>EP x5 x6 x10 x13 else EP x5 x6 x10 false) else some (.stop (x5)))
def R1:(List Int)→Option (List Int)
  | x7=>R0 x7
def M9(s:aG):Option (List Int):=
  (vL s).bind fun x1=>(if !x1 then some ([]) else (eU s.Cells).bind fun x2=>(loop (xO s) (x2,0)).bind (R1))
def OF(b:List Int):Option Bool:=
  some (decide ((b.length:Int)≤1000))
def mY(b:List Int):Int→Option (Step Int (Out Unit Bool))
  | x2=>(if decide (x2 < (b.length:Int)) then (idx b x2).bind fun x3=>(bS x3 0 255).bind fun x4=>(if !x4 then some (.stop (Out.ret false)) else some (.next (bB (x2+1)))) else some (.stop (Out.brk ())))
def F9(b:List Int):(Out Unit Bool)→Option Bool
  | .brk ()=>OF b
  | .ret r=>some r
def HK(b:List Int):Option Bool:=
  (loop (mY b) 0).bind (F9 b)
def XL:Option Bool:=
  some true
def mZ(h:aD):Int→Option (Step Int (Out Unit Bool))
  | x3=>(if decide (x3 < 6) then (idx h.Class x3).bind fun x4=>(bS x4 (-1) 2).bind fun x5=>(if !x5 then some (.stop (Out.ret false)) else some (.next (bB (x3+1)))) else some (.stop (Out.brk ())))
def XM:(Out Unit Bool)→Option Bool
  | .brk ()=>XL
  | .ret r=>some r
def rT(h:aD)(x1:Bool):Option Bool:=
  (if x1 then some false else (loop (mZ h) 0).bind (XM))
def HL(h:aD):Option Bool:=
  (if (h.Bytes.length:Int) != 384 then rT h true else (if (h.Class.length:Int) != 6 then rT h true else (HK h.Bytes).bind fun x6=>rT h (!x6)))
def aAW(x5:Int):Option Int:=
  some x5
def uH(b:List Int)(at_ width:Int):(Int×Int)→Option (Step (Int×Int) Int)
  | (x3,x4)=>(if decide (x4 < width) then (idx b (bB (at_+x4))).bind fun x6=>some (.next (bB ((bB (x3 * 256))+x6),bB (x4+1))) else some (.stop (x3)))
def aAX:Int→Option Int
  | x5=>aAW x5
def uI(b:List Int)(at_ width:Int):Option Int:=
  (loop (uH b at_ width) (0,0)).bind (aAX)
def nQ(c:Int):Option Int:=
  (if c == 0 then some 8 else (if c == 1 then some 16 else (if c == 2 then some 40 else some 0)))
def xP(c:Int):Option Int:=
  (bS c 0 2).bind fun x1=>(if !x1 then some 0 else (nQ c).bind fun x2=>some (bB (4+x2)))
def lV(c:Int):Option Int:=
  (bS c 0 2).bind fun x1=>(if !x1 then some 0 else (xP c).bind fun x2=>need (x2≠0) (some (bB (Int.tdiv 56 x2))))
def AV(slot:Int):Option Int:=
  (bS slot 0 23).bind fun x1=>(if !x1 then some (-1) else some (bB (Int.tdiv slot 4)))
def vU(slot:Int):Option Int:=
  (bS slot 0 23).bind fun x1=>(if !x1 then some (-1) else some (Int.tmod slot 4))
def ER(slot c:Int)(x1:Bool):Option Int:=
  (if x1 then some (-1) else (AV slot).bind fun x2=>(vU slot).bind fun x3=>(xP c).bind fun x4=>some (bB ((bB ((bB (x2 * 64))+8))+(bB (x3 * x4)))))
def uJ(slot c:Int):Option Int:=
  (AV slot).bind fun x5=>(if decide (x5 < 0) then ER slot c true else (vU slot).bind fun x6=>(lV c).bind fun x7=>(bS x6 0 (bB (x7 - 1))).bind fun x8=>ER slot c (!x8))
def uK(page index:Int)(x1:Bool):Option Int:=
  (if x1 then some (-1) else some (bB ((bB (page * 4))+index)))
def qE(page index:Int):Option Int:=
  (bS page 0 5).bind fun x2=>(if !x2 then uK page index true else (bS index 0 3).bind fun x3=>uK page index (!x3))
def aAY:Option Bool:=
  some true
def pL(h:aD)(p:Int):Int→Option (Step Int (Out Unit Bool))
  | x3=>(if decide (x3 < (bB ((bB (p * 64))+64))) then (idx h.Bytes x3).bind fun x4=>(if x4 != 0 then some (.stop (Out.ret false)) else some (.next (bB (x3+1)))) else some (.stop (Out.brk ())))
def aAZ:(Out Unit Bool)→Option Bool
  | .brk ()=>aAY
  | .ret r=>some r
def aA0:Option Bool:=
  some true
def pM(h:aD)(p x1:Int):Int→Option (Step Int (Out Unit Bool))
  | x9=>(lV x1).bind fun x10=>(if decide (x9 < x10) then (qE p x9).bind fun x11=>(uJ x11 x1).bind fun x12=>(uI h.Bytes x12 4).bind fun x13=>(bS x13 1 7).bind fun x14=>(if !x14 then some (.stop (Out.ret false)) else some (.next (bB (x9+1)))) else some (.stop (Out.brk ())))
def aA1:(Out Unit Bool)→Option Bool
  | .brk ()=>aA0
  | .ret r=>some r
def PU(h:aD)(p x1:Int):Option Bool:=
  (loop (pM h p x1) 0).bind (aA1)
def pN(h:aD)(p:Int):Int→Option (Step Int (Out Unit Bool))
  | x7=>(if decide (x7 < (bB ((bB (p * 64))+8))) then (idx h.Bytes x7).bind fun x15=>(if x15 != 0 then some (.stop (Out.ret false)) else some (.next (bB (x7+1)))) else some (.stop (Out.brk ())))
def PW(h:aD)(p x1:Int):(Out Unit Bool)→Option Bool
  | .brk ()=>PU h p x1
  | .ret r=>some r
def kJ(h:aD)(p x1:Int)(x5:Bool):Option Bool:=
  (if x5 then some false else (loop (pN h p) (bB ((bB (p * 64))+3))).bind (PW h p x1))
def J6(h:aD)(p:Int):Option Bool:=
  (idx h.Class p).bind fun x1=>(if decide (x1 < 0) then (loop (pL h p) (bB (p * 64))).bind (aAZ) else (idx h.Bytes (bB (p * 64))).bind fun x16=>(if x16 != 171 then kJ h p x1 true else (idx h.Bytes (bB ((bB (p * 64))+1))).bind fun x17=>(if x17 != x1 then kJ h p x1 true else (idx h.Bytes (bB ((bB (p * 64))+2))).bind fun x18=>(lV x1).bind fun x19=>kJ h p x1 (x18 != x19))))
def aA2:Option Bool:=
  some true
def uL(h:aD):Int→Option (Step Int (Out Unit Bool))
  | x3=>(if decide (x3 < 6) then (J6 h x3).bind fun x4=>(if !x4 then some (.stop (Out.ret false)) else some (.next (bB (x3+1)))) else some (.stop (Out.brk ())))
def aA3:(Out Unit Bool)→Option Bool
  | .brk ()=>aA2
  | .ret r=>some r
def FG(h:aD):Option Bool:=
  (HL h).bind fun x1=>(if !x1 then some false else (loop (uL h) 0).bind (aA3))
def aDH(x10:List Int):Option (List Int):=
  some x10
def xQ(l:aB):((List Int)×Int)→Option (Step ((List Int)×Int) (List Int))
  | (x8,x9)=>(if decide (x9 < (l.Own.length:Int)) then (idx l.Own x9).bind fun x11=>need (x8.length+x11.aS.length≤1073741824) (some (.next (x8++x11.aS,bB (x9+1)))) else some (.stop (x8)))
def aDI:(List Int)→Option (List Int)
  | x10=>aDH x10
def R2(l:aB)(x5:List Int):Option (List Int):=
  (loop (xQ l) (x5,0)).bind (aDI)
def xR(l:aB):((List Int)×Int)→Option (Step ((List Int)×Int) (List Int))
  | (x3,x4)=>(if decide (x4 < (l.Global.length:Int)) then (idx l.Global x4).bind fun x12=>need (x3.length+x12.aS.length≤1073741824) (some (.next (x3++x12.aS,bB (x4+1)))) else some (.stop (x3)))
def R3(l:aB):(List Int)→Option (List Int)
  | x5=>R2 l x5
def IG(l:aB):Option (List Int):=
  (loop (xR l) (([]:List Int),0)).bind (R3 l)
def aDJ:Option Bool:=
  some false
def sS(l:List Int)(x:Int):Int→Option (Step Int (Out Unit Bool))
  | x2=>(if decide (x2 < (l.length:Int)) then (idx l x2).bind fun x3=>(if x3 == x then some (.stop (Out.ret true)) else some (.next (bB (x2+1)))) else some (.stop (Out.brk ())))
def aDK:(Out Unit Bool)→Option Bool
  | .brk ()=>aDJ
  | .ret r=>some r
def DR(l:List Int)(x:Int):Option Bool:=
  (loop (sS l x) 0).bind (aDK)
def XN:Option Bool:=
  some true
def zG(x6:Int)(x7:Bool):Option (Step Int (Out Unit Bool)):=
  (if x7 then some (.stop (Out.ret false)) else some (.next (bB (x6+1))))
def m3(x4:(List Int)):Int→Option (Step Int (Out Unit Bool))
  | x6=>(if decide (x6 < (x4.length:Int)) then (idx x4 x6).bind fun x8=>(bS x8 0 23).bind fun x9=>(if !x9 then zG x6 true else need (0≤(x6:Int)∧(x6:Int)≤(x4.length:Int)) ((DR ((x4.take x6.toNat).drop 0) x8).bind fun x10=>zG x6 x10)) else some (.stop (Out.brk ())))
def XO:(Out Unit Bool)→Option Bool
  | .brk ()=>XN
  | .ret r=>some r
def OG(l:aB):Option Bool:=
  (IG l).bind fun x4=>(loop (m3 x4) 0).bind (XO)
def m4(l:aB):Int→Option (Step Int (Out Unit Bool))
  | x3=>(if decide (x3 < (l.Own.length:Int)) then (idx l.Own x3).bind fun x11=>(if decide (2 < (x11.aS.length:Int)) then some (.stop (Out.ret false)) else some (.next (bB (x3+1)))) else some (.stop (Out.brk ())))
def OH(l:aB):(Out Unit Bool)→Option Bool
  | .brk ()=>OG l
  | .ret r=>some r
def zH(l:aB)(x1:Bool):Option Bool:=
  (if x1 then some false else (loop (m4 l) 0).bind (OH l))
def HM(l:aB):Option Bool:=
  (if (l.Global.length:Int) != 3 then zH l true else zH l ((l.Own.length:Int) != 9))
def rU(h:aD)(x1:Int)(x2:Bool):Option Int:=
  (if x2 then some (-1) else (idx h.Class x1).bind fun x3=>some x3)
def lW(h:aD)(slot:Int):Option Int:=
  (AV slot).bind fun x1=>(if decide (x1 < 0) then rU h x1 true else (idx h.Class x1).bind fun x4=>(if decide (x4 < 0) then rU h x1 true else (idx h.Class x1).bind fun x5=>(vU slot).bind fun x6=>(lV x5).bind fun x7=>rU h x1 (decide (x7≤x6))))
def uM(h:aD)(slot:Int):Option Int:=
  (lW h slot).bind fun x1=>(uJ slot x1).bind fun x2=>(uI h.Bytes x2 4).bind fun x3=>some x3
def V4:Option Bool:=
  some true
def vV(x2:Int)(x3:Bool):Option (Step Int (Out Unit Bool)):=
  (if x3 then some (.stop (Out.ret false)) else some (.next (bB (x2+1))))
def l9(h:aD)(l:List Int)(c:Int):Int→Option (Step Int (Out Unit Bool))
  | x2=>(if decide (x2 < (l.length:Int)) then (idx l x2).bind fun x4=>(lW h x4).bind fun x5=>(if x5 != c then vV x2 true else (idx l x2).bind fun x6=>(uM h x6).bind fun x7=>vV x2 (decide (6 < x7))) else some (.stop (Out.brk ())))
def V5:(Out Unit Bool)→Option Bool
  | .brk ()=>V4
  | .ret r=>some r
def xS(h:aD)(l:List Int)(c:Int):Option Bool:=
  (loop (l9 h l c) 0).bind (V5)
def xT(w_ c:Int)(x1:Bool):Option Int:=
  (if x1 then some (-1) else some (bB ((bB (w_ * 3))+c)))
def uN(w_ c:Int):Option Int:=
  (bS w_ 0 2).bind fun x2=>(if !x2 then xT w_ c true else (bS c 0 2).bind fun x3=>xT w_ c (!x3))
def aDL:Option Bool:=
  some true
def R4(x3:Int):Option (Step Int (Out Unit Bool)):=
  some (.next (bB (x3+1)))
def xU(m:Mem)(x3:Int):Int→Option (Step Int (Out Unit Bool))
  | x7=>(if decide (x7 < 3) then (uN x7 x3).bind fun x8=>(idx m.aB.Own x8).bind fun x9=>(xS m.aD x9.aS x3).bind fun x10=>(if !x10 then some (.stop (Out.ret false)) else some (.next (bB (x7+1)))) else some (.stop (Out.brk ())))
def R5(x3:Int):(Out Unit Bool)→Option (Step Int (Out Unit Bool))
  | .brk ()=>R4 x3
  | .ret r=>some (.stop (Out.ret r))
def xV(m:Mem):Int→Option (Step Int (Out Unit Bool))
  | x3=>(if decide (x3 < 3) then (idx m.aB.Global x3).bind fun x4=>(xS m.aD x4.aS x3).bind fun x5=>(if !x5 then some (.stop (Out.ret false)) else (loop (xU m x3) 0).bind (R5 x3)) else some (.stop (Out.brk ())))
def aDM:(Out Unit Bool)→Option Bool
  | .brk ()=>aDL
  | .ret r=>some r
def ES(m:Mem)(x1:Bool):Option Bool:=
  (if x1 then some false else (loop (xV m) 0).bind (aDM))
def AE(m:Mem):Option Bool:=
  (FG m.aD).bind fun x11=>(if !x11 then ES m true else (HM m.aB).bind fun x12=>ES m (!x12))
def vW(x1:Bool):Option Bool:=
  some x1
def hC(h:Int):Option Bool:=
  (bS h 32 223).bind fun x2=>(if x2 then vW (decide ((Int.tmod h 32) < 24)) else vW false)
def dS(h:Int):Option Int:=
  (hC h).bind fun x1=>(if !x1 then some (-1) else some (Int.tmod h 32))
def J7(l:aB)(slot:Int):Option Bool:=
  (IG l).bind fun x1=>(DR x1 slot).bind fun x2=>some x2
def HN(m:Mem)(slot:Int):Option Int:=
  (lW m.aD slot).bind fun x1=>(if decide (x1 < 0) then some 0 else (J7 m.aB slot).bind fun x2=>(if x2 then some 1 else (uM m.aD slot).bind fun x3=>(if decide (6 < x3) then some 2 else some 3)))
def CC(h:Int):Option Int:=
  (hC h).bind fun x1=>(if !x1 then some 0 else some (bB (Int.tdiv h 32)))
def rV(x1:Bool):Option Bool:=
  some x1
def qT(m:Mem)(h:Int):Option Bool:=
  (hC h).bind fun x2=>(if x2 then (dS h).bind fun x3=>(HN m x3).bind fun x4=>(if x4 == 3 then (dS h).bind fun x5=>(uM m.aD x5).bind fun x6=>(CC h).bind fun x7=>rV (x6 == x7) else rV false) else rV false)
def ET(x1:Bool):Option Bool:=
  some x1
def IH(m:Mem)(h:Int):Option Bool:=
  (AE m).bind fun x2=>(if x2 then (qT m h).bind fun x3=>ET x3 else ET false)
def aA4(x5:List cW):Option (List cW):=
  some x5
def uO(l:List bA):((List cW)×Int)→Option (Step ((List cW)×Int) (List cW))
  | (x3,x4)=>(if decide (x4 < (l.length:Int)) then (idx l x4).bind fun x6=>need (x3.length+x6.Rows.length≤1073741824) (some (.next (x3++x6.Rows,bB (x4+1)))) else some (.stop (x3)))
def aA5:(List cW)→Option (List cW)
  | x5=>aA4 x5
def AW(l:List bA):Option (List cW):=
  (loop (uO l) (([]:List cW),0)).bind (aA5)
def XP:Option Bool:=
  some false
def rW(x3:Int)(x4:Bool):Option (Step Int (Out Unit Bool)):=
  (if x4 then some (.stop (Out.ret true)) else some (.next (bB (x3+1))))
def m5(slot:Int)(x1:(List cW)):Int→Option (Step Int (Out Unit Bool))
  | x3=>(if decide (x3 < (x1.length:Int)) then (idx x1 x3).bind fun x5=>(hC x5.Handle).bind fun x6=>(if x6 then (dS x5.Handle).bind fun x7=>rW x3 (x7 == slot) else rW x3 false) else some (.stop (Out.brk ())))
def XQ:(Out Unit Bool)→Option Bool
  | .brk ()=>XP
  | .ret r=>some r
def qU(l:List bA)(slot:Int):Option Bool:=
  (AW l).bind fun x1=>(loop (m5 slot x1) 0).bind (XQ)
def V6:Option Bool:=
  some true
def pO(a_ b:List Int):Int→Option (Step Int (Out Unit Bool))
  | x2=>(if decide (x2 < (a_.length:Int)) then (idx a_ x2).bind fun x3=>(idx b x2).bind fun x4=>(if x3 != x4 then some (.stop (Out.ret false)) else some (.next (bB (x2+1)))) else some (.stop (Out.brk ())))
def V7:(Out Unit Bool)→Option Bool
  | .brk ()=>V6
  | .ret r=>some r
def kE(a_ b:List Int):Option Bool:=
  (if (a_.length:Int) != (b.length:Int) then some false else (loop (pO a_ b) 0).bind (V7))
def OI:Option Bool:=
  some true
def lF(x3:Int)(x5:Bool):Option (Step Int (Out Unit Bool)):=
  (if x5 then some (.stop (Out.ret false)) else some (.next (bB (x3+1))))
def rX(c:aC):Int→Option (Step Int (Out Unit Bool))
  | x3=>(if decide (x3 < 3) then (idx c.cH x3).bind fun x4=>(if !x4.On then (if !(decide (x4=(⟨false,0,false,0⟩:oE))) then lF x3 true else (bS x4.aI 0 c.aI).bind fun x6=>(if !x6 then lF x3 true else (bS x4.Seen 0 2).bind fun x7=>lF x3 (!x7))) else (bS x4.aI 0 c.aI).bind fun x8=>(if !x8 then lF x3 true else (bS x4.Seen 0 2).bind fun x9=>lF x3 (!x9))) else some (.stop (Out.brk ())))
def GA:(Out Unit Bool)→Option Bool
  | .brk ()=>OI
  | .ret r=>some r
def m6(c:aC)(x1:Bool):Option Bool:=
  (if x1 then some false else (loop (rX c) 0).bind (GA))
def nR(c:aC):Option Bool:=
  (bS c.aI 0 100000).bind fun x10=>(if !x10 then m6 c true else m6 c ((c.cH.length:Int) != 3))
def XR:Option Bool:=
  some true
def rY(x5:List Int)(x6 x8:Int)(x9:Bool):Option (Step ((List Int)×Int) (Out Unit Bool)):=
  (if x9 then some (.stop (Out.ret false)) else need (x5.length+([x8]).length≤1073741824) (some (.next (x5++([x8]),bB (x6+1)))))
def rZ(x1:(List cW)):((List Int)×Int)→Option (Step ((List Int)×Int) (Out Unit Bool))
  | (x5,x6)=>(if decide (x6 < (x1.length:Int)) then (idx x1 x6).bind fun x7=>(dS x7.Handle).bind fun x8=>(if decide (x8 < 0) then rY x5 x6 x8 true else (bS x7.aI 0 100000).bind fun x10=>(if !x10 then rY x5 x6 x8 true else (DR x5 x8).bind fun x11=>rY x5 x6 x8 x11)) else some (.stop (Out.brk ())))
def XS:(Out Unit Bool)→Option Bool
  | .brk ()=>XR
  | .ret r=>some r
def zI(x1:(List cW))(x2:Bool):Option Bool:=
  (if x2 then some false else (loop (rZ x1) (([]:List Int),0)).bind (XS))
def HO(l:List bA):Option Bool:=
  (AW l).bind fun x1=>(if (l.length:Int) != 3 then zI x1 true else zI x1 (decide (24 < (x1.length:Int))))
def R6(z:List Int):Option Bool:=
  some ((z.length:Int) == 3)
def EU(x2:Int)(x3:Bool):Option (Step Int (Out Unit Bool)):=
  (if x3 then some (.stop (Out.ret false)) else some (.next (bB (x2+1))))
def xW(z:List Int):Int→Option (Step Int (Out Unit Bool))
  | x2=>(if decide (x2 < (z.length:Int)) then (idx z x2).bind fun x4=>(if x4 != 0 then (idx z x2).bind fun x5=>(hC x5).bind fun x6=>EU x2 (!x6) else EU x2 false) else some (.stop (Out.brk ())))
def R7(z:List Int):(Out Unit Bool)→Option Bool
  | .brk ()=>R6 z
  | .ret r=>some r
def DS(z:List Int):Option Bool:=
  (loop (xW z) 0).bind (R7 z)
def aA6:Option Bool:=
  some true
def CD(x4:Int)(x5:Bool):Option (Step Int (Out Unit Bool)):=
  (if x5 then some (.stop (Out.ret false)) else some (.next (bB (x4+1))))
def uP(b:aA)(x2:(List cW)):Int→Option (Step Int (Out Unit Bool))
  | x4=>(if decide (x4 < (x2.length:Int)) then (idx x2 x4).bind fun x6=>(qT b.Mem x6.Handle).bind fun x7=>(if !x7 then CD x4 true else CD x4 (decide (b.aC.aI < x6.aI))) else some (.stop (Out.brk ())))
def aA7:(Out Unit Bool)→Option Bool
  | .brk ()=>aA6
  | .ret r=>some r
def pP(b:aA)(x1:Bool):Option Bool:=
  (if x1 then some false else (AW b.aP).bind fun x2=>(loop (uP b x2) 0).bind (aA7))
def J8(b:aA):Option Bool:=
  (AE b.Mem).bind fun x8=>(if !x8 then pP b true else (nR b.aC).bind fun x9=>(if !x9 then pP b true else (HO b.aP).bind fun x10=>(if !x10 then pP b true else (DS b.nA).bind fun x11=>pP b (!x11))))
def zJ(x1:Bool):Option Bool:=
  some x1
def iL(h:Int):Option Bool:=
  (if h == 0 then zJ true else (hC h).bind fun x2=>zJ x2)
def XT:Option Bool:=
  some true
def eW(x5:Int)(x7:Bool):Option (Step Int (Out Unit Bool)):=
  (if x7 then some (.stop (Out.ret false)) else some (.next (bB (x5+1))))
def m7(s:aG):Int→Option (Step Int (Out Unit Bool))
  | x5=>(if decide (x5 < 3) then (idx s.aX x5).bind fun x6=>(if !x6.eG then (if !(decide (x6=(⟨false,(⟨0,0,0,0⟩:dT),0,0,(⟨0,0,0,0,0,0,0,0,0,false⟩:Sub),0,0,0,0⟩:bE))) then eW x5 true else (if x6.eG then (H3 x6.Op).bind fun x8=>(if !x8 then eW x5 true else (iL x6.H).bind fun x9=>(if !x9 then eW x5 true else (iL x6.Old).bind fun x10=>eW x5 (!x10))) else (iL x6.H).bind fun x11=>(if !x11 then eW x5 true else (iL x6.Old).bind fun x12=>eW x5 (!x12)))) else (if x6.eG then (H3 x6.Op).bind fun x13=>(if !x13 then eW x5 true else (iL x6.H).bind fun x14=>(if !x14 then eW x5 true else (iL x6.Old).bind fun x15=>eW x5 (!x15))) else (iL x6.H).bind fun x16=>(if !x16 then eW x5 true else (iL x6.Old).bind fun x17=>eW x5 (!x17)))) else some (.stop (Out.brk ())))
def XU:(Out Unit Bool)→Option Bool
  | .brk ()=>XT
  | .ret r=>some r
def OJ(s:aG):Option Bool:=
  (loop (m7 s) 0).bind (XU)
def m8(s:aG):Int→Option (Step Int (Out Unit Bool))
  | x3=>(if decide (x3 < 2) then (idx s.Cells x3).bind fun x18=>(iL x18).bind fun x19=>(if !x19 then some (.stop (Out.ret false)) else some (.next (bB (x3+1)))) else some (.stop (Out.brk ())))
def OK(s:aG):(Out Unit Bool)→Option Bool
  | .brk ()=>OJ s
  | .ret r=>some r
def lG(s:aG)(x1:Bool):Option Bool:=
  (if x1 then some false else (loop (m8 s) 0).bind (OK s))
def vX(s:aG):Option Bool:=
  (J8 s.aA).bind fun x20=>(if !x20 then lG s true else (if (s.Cells.length:Int) != 2 then lG s true else (if (s.aX.length:Int) != 3 then lG s true else (BA s.e9).bind fun x21=>(if !x21 then lG s true else (bS s.aK 0 1000000).bind fun x22=>lG s (!x22)))))
def uQ(x9:List Int):Option (List Int):=
  some x9
def II(x:Int)(x7:List Int)(x8:Bool):Option (List Int):=
  (if !x8 then need (x7.length+([x]).length≤1073741824) (uQ (x7++([x]))) else uQ x7)
def pQ(l:List Int)(x6:Int)(x11:List Int)(x12:Bool):Option (Step ((List Int)×Bool×Int) (Out ((List Int)×Bool) (List Int))):=
  (idx l x6).bind fun x13=>need (x11.length+([x13]).length≤1073741824) (some (.next (x11++([x13]),x12,bB (x6+1))))
def pR(l:List Int)(x:Int)(x4:List Int)(x5:Bool)(x6:Int)(x14:Bool):Option (Step ((List Int)×Bool×Int) (Out ((List Int)×Bool) (List Int))):=
  (if x14 then need (x4.length+([x]).length≤1073741824) (pQ l x6 (x4++([x])) true) else pQ l x6 x4 x5)
def jE(l:List Int)(x:Int):((List Int)×Bool×Int)→Option (Step ((List Int)×Bool×Int) (Out ((List Int)×Bool) (List Int)))
  | (x4,x5,x6)=>(if decide (x6 < (l.length:Int)) then (idx l x6).bind fun x10=>(if x10 == x then some (.stop (Out.ret l)) else (if !x5 then pR l x x4 x5 x6 (decide (x < x10)) else pR l x x4 x5 x6 false)) else some (.stop (Out.brk (x4,x5))))
def uR(x:Int):(Out ((List Int)×Bool) (List Int))→Option (List Int)
  | .brk (x7,x8)=>II x x7 x8
  | .ret r=>some r
def qF(l:List Int)(x:Int):Option (List Int):=
  (loop (jE l x) (([]:List Int),false,0)).bind (uR x)
def aDN(x11:List Int):Option (List Int):=
  some x11
def xX(x10:Int)(x13:List Int):Option (Step ((List Int)×Int) (List Int)):=
  some (.next (x13,bB (x10+1)))
def EV(x10:Int)(x14:bE)(x15:List Int)(x16:Bool):Option (Step ((List Int)×Int) (List Int)):=
  (if x16 then (qF x15 x14.Old).bind fun x17=>xX x10 x17 else xX x10 x15)
def EW(x10:Int)(x14:bE)(x15:List Int):Option (Step ((List Int)×Int) (List Int)):=
  (if x14.Pc == 3 then EV x10 x14 x15 (x14.Old != 0) else EV x10 x14 x15 false)
def xY(x9:List Int)(x10:Int)(x14:bE)(x18:Bool):Option (Step ((List Int)×Int) (List Int)):=
  (if x18 then (qF x9 x14.H).bind fun x19=>EW x10 x14 x19 else EW x10 x14 x9)
def xZ(s:aG)(x9:List Int)(x10:Int)(x12:Bool):Option (Step ((List Int)×Int) (List Int)):=
  (if x12 then (idx s.aX x10).bind fun x14=>(if x14.Op.Kind != 1 then xX x10 x9 else (if x14.Pc == 1 then xY x9 x10 x14 (x14.H != 0) else (if x14.Pc == 2 then xY x9 x10 x14 (x14.H != 0) else xY x9 x10 x14 false))) else some (.stop (x9)))
def yA(s:aG)(x1:Bool):((List Int)×Int)→Option (Step ((List Int)×Int) (List Int))
  | (x9,x10)=>(if decide (x10 < 3) then xZ s x9 x10 x1 else xZ s x9 x10 false)
def aDO:(List Int)→Option (List Int)
  | x11=>aDN x11
def R8(s:aG)(x1:Bool)(x6:List Int):Option (List Int):=
  (loop (yA s x1) (x6,0)).bind (aDO)
def EX(x5:Int)(x21:List Int):Option (Step ((List Int)×Int) (List Int)):=
  some (.next (x21,bB (x5+1)))
def yC(s:aG)(x4:List Int)(x5:Int)(x20:Bool):Option (Step ((List Int)×Int) (List Int)):=
  (if x20 then (idx s.Cells x5).bind fun x22=>(if x22 != 0 then (idx s.Cells x5).bind fun x23=>(qF x4 x23).bind fun x24=>EX x5 x24 else EX x5 x4) else some (.stop (x4)))
def yD(s:aG)(x1:Bool):((List Int)×Int)→Option (Step ((List Int)×Int) (List Int))
  | (x4,x5)=>(if decide (x5 < 2) then yC s x4 x5 x1 else yC s x4 x5 false)
def R9(s:aG)(x1:Bool):(List Int)→Option (List Int)
  | x6=>R8 s x1 x6
def DT(s:aG):Option (List Int):=
  (vX s).bind fun x1=>(loop (yD s x1) (([]:List Int),0)).bind (R9 s x1)
def OL(x6:List Int):Option (List Int):=
  (uG x6).bind fun x7=>some x7
def zK(x5:Int)(x8:List Int):Option (Step ((List Int)×Int) (List Int)):=
  some (.next (x8,bB (x5+1)))
def m9(x4:List Int)(x5:Int)(x9:bE)(x12:Bool):Option (Step ((List Int)×Int) (List Int)):=
  (if x12 then need (x4.length+([x9.H]).length≤1073741824) (zK x5 (x4++([x9.H]))) else zK x5 x4)
def r9(x4:List Int)(x5:Int)(x9:bE)(x14:Bool):Option (Step ((List Int)×Int) (List Int)):=
  (if x14 then m9 x4 x5 x9 true else (if x9.Op.Kind == 3 then m9 x4 x5 x9 (x9.Pc == 3) else m9 x4 x5 x9 false))
def sA(x4:List Int)(x5:Int)(x9:bE)(x11 x13:Bool):Option (Step ((List Int)×Int) (List Int)):=
  (if x13 then m9 x4 x5 x9 true else (if x9.Op.Kind == 7 then (b9 x9.Pc 1 2).bind fun x15=>(if x15 then r9 x4 x5 x9 x11 else r9 x4 x5 x9 false) else r9 x4 x5 x9 false))
def sB(s:aG):((List Int)×Int)→Option (Step ((List Int)×Int) (List Int))
  | (x4,x5)=>(if decide (x5 < (s.aX.length:Int)) then (idx s.aX x5).bind fun x9=>(idx s.aA.aC.cH x5).bind fun x10=>(jZ x10).bind fun x11=>(if x9.Op.Kind == 2 then (b9 x9.Pc 2 3).bind fun x16=>(if x16 then sA x4 x5 x9 x11 x11 else sA x4 x5 x9 x11 false) else sA x4 x5 x9 x11 false) else some (.stop (x4)))
def OM:(List Int)→Option (List Int)
  | x6=>OL x6
def vY(s:aG):Option (List Int):=
  (vL s).bind fun x1=>(if !x1 then some ([]:List Int) else (loop (sB s) (([]:List Int),0)).bind (OM))
def nS(x5:Bool):Option Bool:=
  some x5
def nT(x6:Bool):Option Bool:=
  some x6
def tI(x1:bE)(x3 x4:Bool):Option Bool:=
  (if x4 then some false else (if x1.Op.Kind == 2 then (if x3 then (if x1.Pc == 2 then nS true else nS (x1.Pc == 3)) else nS false) else (if x1.Op.Kind == 7 then (if x3 then (if x1.Pc == 1 then nT true else nT (x1.Pc == 2)) else nT false) else (if x1.Op.Kind == 3 then some (x1.Pc == 3) else some false))))
def tJ(x1:bE)(x3:Bool):Option Bool:=
  (if !x1.eG then tI x1 x3 true else tI x1 x3 (x1.H == 0))
def CE(s:aG)(w_:Int):Option Bool:=
  (idx s.aX w_).bind fun x1=>(idx s.aA.aC.cH w_).bind fun x2=>(if x2.On then tJ x1 (!x2.cX) else tJ x1 false)
def XV(x6:List Int):Option (List Int):=
  some x6
def zL(x5:Int)(x8:List Int):Option (Step ((List Int)×Int) (List Int)):=
  some (.next (x8,bB (x5+1)))
def sC(s:aG)(x4:List Int)(x5:Int)(x7:Bool):Option (Step ((List Int)×Int) (List Int)):=
  (if x7 then (CE s x5).bind fun x9=>(if x9 then (idx s.aX x5).bind fun x10=>(qF x4 x10.H).bind fun x11=>zL x5 x11 else zL x5 x4) else some (.stop (x4)))
def sD(s:aG)(x1:Bool):((List Int)×Int)→Option (Step ((List Int)×Int) (List Int))
  | (x4,x5)=>(if decide (x5 < 3) then sC s x4 x5 x1 else sC s x4 x5 false)
def XW:(List Int)→Option (List Int)
  | x6=>XV x6
def vZ(s:aG):Option (List Int):=
  (vX s).bind fun x1=>(loop (sD s x1) (([]:List Int),0)).bind (XW)
def GO(x11:Bool):Option Bool:=
  some x11
def fH(x12:Bool):Option Bool:=
  GO x12
def GP(x5:(List Int))(x10:aG):Option Bool:=
  (if (x10.Cells.length:Int) == 2 then (idx x10.Cells 0).bind fun x13=>(if x13 == 0 then (DT x10).bind fun x14=>(kE x5 x14).bind fun x15=>(if x15 then (vY x10).bind fun x16=>(vZ x10).bind fun x17=>(kE x16 x17).bind fun x18=>fH x18 else fH false) else (idx x10.Cells 1).bind fun x19=>(if x13 != x19 then (DT x10).bind fun x20=>(kE x5 x20).bind fun x21=>(if x21 then (vY x10).bind fun x22=>(vZ x10).bind fun x23=>(kE x22 x23).bind fun x24=>fH x24 else fH false) else fH false)) else fH false)
def wT(x8:Int)(x30:Bool)(x31:aG):Option (Step (Int×aG) (Out aG Bool)):=
  (if x30 then some (.stop (Out.ret false)) else some (.next (bB (x8+1),x31)))
def jK(x8:Int)(x32:Bool)(x33:aG):Option (Step (Int×aG) (Out aG Bool)):=
  wT x8 x32 x33
def lL(x5:(List Int)):(Int×aG)→Option (Step (Int×aG) (Out aG Bool))
  | (x8,x9)=>(if decide (x8 < (x5.length:Int)) then (idx x5 x8).bind fun x34=>(IH x9.aA.Mem x34).bind fun x35=>(if !x35 then jK x8 true x9 else (if decide (0 < x8) then (idx x5 (bB (x8 - 1))).bind fun x36=>(if decide (x34≤x36) then jK x8 true x9 else (dS x34).bind fun x37=>(qU x9.aA.aP x37).bind fun x38=>jK x8 x38 x9) else (dS x34).bind fun x41=>(qU x9.aA.aP x41).bind fun x42=>jK x8 x42 x9)) else some (.stop (Out.brk x9)))
def GQ(x5:(List Int)):(Out aG Bool)→Option Bool
  | .brk x10=>GP x5 x10
  | .ret r=>some r
def DU(code:List UInt8):Option Bool:=
  (aAR code).bind fun x1=>(if x1 then some true else (qH code).bind fun x2=>(M0 x2).bind fun x3=>(if !x3 then some true else (CB x2).bind fun x4=>(M9 x4).bind fun x5=>(loop (lL x5) (0,x4)).bind (GQ x5)))
def gX(kind a_:Int):Option Sub:=
  some (⟨kind,a_,0,0,0,0,0,0,0,false⟩:Sub)
def eX(s:aG)(w_:Int)(x2:Queue)(x3:dT)(x4:bE):Option aG:=
  (idx s.aX w_).bind fun x5=>need (s.Log.length+([(⟨1,w_,bB (s.aK+1),x3.Cell,0,0,0⟩:Ev)]).length≤1073741824) (some (⟨s.aA,s.Cells,s.aX.set w_.toNat x4,s.e9.set w_.toNat (⟨(x2.i6.take x2.i6.length).drop ((1:Int).toNat)⟩:Queue),s.Log++([(⟨1,w_,bB (s.aK+1),x3.Cell,0,0,0⟩:Ev)]),bB (s.aK+1)⟩:aG))
def iT(s:aG)(w_:Int)(x2:Queue)(x3:dT)(x7:Bool):Option aG:=
  (if x7 then (gX 5 0).bind fun x8=>(idx s.aA.aC.cH w_).bind fun x9=>(if x9.On then eX s w_ x2 x3 (⟨true,x3,bB (s.aK+1),9,x8,0,0,0,1⟩:bE) else eX s w_ x2 x3 (⟨true,x3,bB (s.aK+1),0,x8,0,0,0,0⟩:bE)) else (if x3.Kind == 4 then (gX 3 0).bind fun x10=>eX s w_ x2 x3 (⟨true,x3,bB (s.aK+1),0,x10,0,0,0,0⟩:bE) else eX s w_ x2 x3 (⟨true,x3,bB (s.aK+1),0,(⟨0,0,0,0,0,0,0,0,0,false⟩:Sub),0,0,0,0⟩:bE)))
def v5(s:aG)(w_:Int)(x1:Bool):Option aG:=
  (if x1 then some s else (idx s.e9 w_).bind fun x2=>(idx x2.i6 0).bind fun x3=>need (0≤(1:Int)∧(1:Int)≤(x2.i6.length:Int)) ((if x3.Kind == 1 then (gX 1 x3.gY).bind fun x6=>eX s w_ x2 x3 (⟨true,x3,bB (s.aK+1),0,x6,0,0,0,0⟩:bE) else (if x3.Kind == 2 then iT s w_ x2 x3 true else iT s w_ x2 x3 (x3.Kind == 5)))))
def yE(s:aG)(w_:Int):Option aG:=
  (idx s.e9 w_).bind fun x11=>(if (x11.i6.length:Int) == 0 then v5 s w_ true else v5 s w_ (s.aK == 1000000))
def XX:Option Int:=
  some (-1)
def fI(size:Int):Int→Option (Step Int (Out Unit Int))
  | x2=>(if decide (x2 < 3) then (nQ x2).bind fun x3=>(bS size 1 x3).bind fun x4=>(if x4 then some (.stop (Out.ret x2)) else some (.next (bB (x2+1)))) else some (.stop (Out.brk ())))
def XY:(Out Unit Int)→Option Int
  | .brk ()=>XX
  | .ret r=>some r
def CF(size:Int):Option Int:=
  (loop (fI size) 0).bind (XY)
def bK(s:Sub)(code:Int):Option Sub:=
  some ({s with Code:=code,cV:=true}:Sub)
def KW(s:aQ)(x1:Int):Option (aQ×Int):=
  some ((⟨(s.aS.take ((bB ((s.aS.length:Int) - 1)).toNat)).drop 0⟩:aQ),x1)
def qV(s:aQ):Option (aQ×Int):=
  (if (s.aS.length:Int) == 0 then some (s,(-1)) else need (0≤(bB ((s.aS.length:Int) - 1):Int)∧(bB ((s.aS.length:Int) - 1):Int)≤(s.aS.length:Int)) ((idx s.aS (bB ((s.aS.length:Int) - 1))).bind fun x2=>KW s x2))
def XZ(x7:List Int):Option (List Int):=
  some x7
def zN(at_:Int):((List Int)×Int×Int)→Option (Step ((List Int)×Int×Int) (List Int))
  | (x4,x5,x6)=>(if decide (0≤x6) then (idx x4 (bB (at_+x6))).bind fun x8=>some (.next (x4.set ((bB (at_+x6)).toNat) (Int.tmod x5 256),bB (Int.tdiv x5 256),bB (x6 - 1))) else some (.stop (x4)))
def X0:(List Int)→Option (List Int)
  | x7=>XZ x7
def v7(b:List Int)(at_ width n:Int):Option (List Int):=
  (loop (zN at_) (b,n,bB (width - 1))).bind (X0)
def X2(h:aD):Option (aD×(List Int)):=
  some (h,([]:List Int))
def GB(x2:Int):Option (Step Int (Out Unit (aD×(List Int)))):=
  some (.next (bB (x2+1)))
def X3(h:aD)(c x2:Int)(x14 x15:List Int):Option (Step Int (Out Unit (aD×(List Int)))):=
  some (.stop (Out.ret ((⟨x15,h.Class.set x2.toNat c⟩:aD),x14)))
def ON(x2:Int)(x11:List Int)(x12:Int)(x17:List Int):Option (Step ((List Int)×Int×(List Int)) ((List Int)×(List Int))):=
  (qE x2 x12).bind fun x18=>need (x11.length+([x18]).length≤1073741824) (some (.next (x11++([x18]),bB (x12+1),x17)))
def zO(c x2:Int):((List Int)×Int×(List Int))→Option (Step ((List Int)×Int×(List Int)) ((List Int)×(List Int)))
  | (x11,x12,x13)=>(lV c).bind fun x16=>(if decide (x12 < x16) then (qE x2 x12).bind fun x19=>(uJ x19 c).bind fun x20=>(v7 x13 x20 4 1).bind fun x21=>ON x2 x11 x12 x21 else some (.stop ((x11,x13))))
def X4(h:aD)(c x2:Int):((List Int)×(List Int))→Option (Step Int (Out Unit (aD×(List Int))))
  | (x14,x15)=>X3 h c x2 x14 x15
def eY(h:aD)(c:Int):Int→Option (Step Int (Out Unit (aD×(List Int))))
  | x2=>(if decide (x2 < 6) then (idx h.Class x2).bind fun x3=>(if x3 != (-1) then GB x2 else (idx h.Bytes (bB (x2 * 64))).bind fun x4=>(idx (h.Bytes.set ((bB (x2 * 64)).toNat) 171) (bB ((bB (x2 * 64))+1))).bind fun x5=>(lV c).bind fun x6=>(idx ((h.Bytes.set ((bB (x2 * 64)).toNat) 171).set ((bB ((bB (x2 * 64))+1)).toNat) c) (bB ((bB (x2 * 64))+2))).bind fun x7=>(loop (zO c x2) (([]:List Int),0,((h.Bytes.set ((bB (x2 * 64)).toNat) 171).set ((bB ((bB (x2 * 64))+1)).toNat) c).set ((bB ((bB (x2 * 64))+2)).toNat) x6)).bind (X4 h c x2)) else some (.stop (Out.brk ())))
def X5(h:aD):(Out Unit (aD×(List Int)))→Option (aD×(List Int))
  | .brk ()=>X2 h
  | .ret r=>some r
def qW(h:aD)(c:Int):Option (aD×(List Int)):=
  (loop (eY h c) 0).bind (X5 h)
def GC(m:Mem)(c:Int)(x1:aD×(List Int))(x2:aQ)(x3:Int):Option (Mem×Int):=
  some ((⟨x1.1,(⟨m.aB.Global.set c.toNat (⟨x2.aS++((x1.2.take x1.2.length).drop ((1:Int).toNat))⟩:aQ),m.aB.Own⟩:aB)⟩:Mem),x3)
def CG(m:Mem)(c:Int):Option (Mem×Int):=
  (qW m.aD c).bind fun x1=>(if (x1.2.length:Int) == 0 then some ((⟨x1.1,m.aB⟩:Mem),(-1)) else (idx m.aB.Global c).bind fun x2=>need (0≤(1:Int)∧(1:Int)≤(x1.2.length:Int)) (need (x2.aS.length+((x1.2.take x1.2.length).drop ((1:Int).toNat)).length≤1073741824) ((idx x1.2 0).bind fun x4=>GC m c x1 x2 x4)))
def v8(slot gen:Int)(x1:Bool):Option Int:=
  (if x1 then some 0 else some (bB ((bB (gen * 32))+slot)))
def KX(slot gen:Int):Option Int:=
  (bS slot 0 23).bind fun x2=>(if !x2 then v8 slot gen true else (bS gen 1 6).bind fun x3=>v8 slot gen (!x3))
def yF(m:Mem)(slot:Int):Option Int:=
  (uM m.aD slot).bind fun x1=>(KX slot x1).bind fun x2=>some x2
def NA(b:aA)(s:Sub)(slot pc:Int):Option Sub:=
  (if decide (0≤slot) then (yF b.Mem slot).bind fun x1=>(bK ({s with Out:=x1}:Sub) 0).bind fun x2=>some x2 else some ({s with Pc:=pc}:Sub))
def wA(s:Sub)(x3:Int)(x5:Bool)(x6:aA):Option (aA×Sub):=
  (if x5 then (bK s 3).bind fun x7=>some (x6,x7) else (NA x6 s x3 (bB (s.Pc+1))).bind fun x8=>some (x6,x8))
def iU(s:Sub)(x3:Int)(x4:aA):Option (aA×Sub):=
  (if decide (x3 < 0) then wA s x3 (s.Pc == 3) x4 else wA s x3 false x4)
def wB(b:aA)(s:Sub)(x1:Int)(x12:Bool):Option (aA×Sub):=
  (if x12 then (idx b.Mem.aB.Global x1).bind fun x13=>(qV x13).bind fun x14=>iU s x14.2 ({b with Mem:=(⟨b.Mem.aD,(⟨b.Mem.aB.Global.set x1.toNat x14.1,b.Mem.aB.Own⟩:aB)⟩:Mem)}:aA) else (if s.Pc == 2 then (CG b.Mem x1).bind fun x15=>iU s x15.2 ({b with Mem:=x15.1}:aA) else (bK s 1).bind fun x16=>some (b,x16)))
def yG(b:aA)(w_:Int)(s:Sub):Option (aA×Sub):=
  (CF s.A).bind fun x1=>(if decide (x1 < 0) then (bK s 2).bind fun x2=>some (b,x2) else (if s.Pc == 0 then (uN w_ x1).bind fun x9=>(idx b.Mem.aB.Own x9).bind fun x10=>(qV x10).bind fun x11=>iU s x11.2 ({b with Mem:=(⟨b.Mem.aD,(⟨b.Mem.aB.Global,b.Mem.aB.Own.set x9.toNat x11.1⟩:aB)⟩:Mem)}:aA) else (if s.Pc == 1 then wB b s x1 true else wB b s x1 (s.Pc == 3))))
def CH(b:aA)(s:Sub)(x5:List bA):Option (aA×Sub):=
  (bK s 0).bind fun x6=>some (({b with aP:=x5}:aA),x6)
def tK(b:aA)(w_:Int)(s:Sub)(x3:Bool):Option (aA×Sub):=
  (if x3 then (bK s 4).bind fun x4=>some (b,x4) else (idx b.aP w_).bind fun x7=>need (x7.Rows.length+([(⟨s.A,s.E⟩:cW)]).length≤1073741824)<|CH b s (b.aP.set w_.toNat (⟨x7.Rows++([(⟨s.A,s.E⟩:cW)])⟩:bA)))
def uS(b:aA)(w_:Int)(s:Sub):Option (aA×Sub):=
  (if s.Pc == 0 then some (b,({s with Pc:=1,E:=b.aC.aI}:Sub)) else (if s.Pc == 1 then (bS s.E 0 b.aC.aI).bind fun x1=>(if !x1 then (bK s 1).bind fun x2=>some (b,x2) else (qT b.Mem s.A).bind fun x8=>(if !x8 then tK b w_ s true else (dS s.A).bind fun x9=>(qU b.aP x9).bind fun x10=>tK b w_ s x10)) else (bK s 1).bind fun x11=>some (b,x11)))
def wC(c:aC):Option aC:=
  need (([]:List oE).length+c.cH.length≤1073741824) (some (⟨c.aI,([]:List oE)++c.cH⟩:aC))
def pS(w_:Int)(x1:aC)(x3:oE)(x4:Bool):Option (aC×Bool):=
  (if x4 then some (x1,true) else (if x3.Seen == 2 then (idx x1.cH w_).bind fun x5=>some ((⟨x1.aI,x1.cH.set w_.toNat ({x5 with cX:=true,Seen:=0}:oE)⟩:aC),true) else (idx x1.cH w_).bind fun x6=>some ((⟨x1.aI,x1.cH.set w_.toNat ({x6 with Seen:=bB (x3.Seen+1)}:oE)⟩:aC),false)))
def CI(c:aC)(w_ e_:Int)(x1:aC)(x2:Bool):Option (aC×Bool):=
  (if x2 then some (x1,false) else (idx c.cH w_).bind fun x3=>(if !x3.On then pS w_ x1 x3 true else (if x3.cX then pS w_ x1 x3 true else pS w_ x1 x3 (x3.aI == e_))))
def FH(c:aC)(w_ e_:Int):Option (aC×Bool):=
  (wC c).bind fun x1=>(nR c).bind fun x7=>(if !x7 then CI c w_ e_ x1 true else (bS w_ 0 2).bind fun x8=>CI c w_ e_ x1 (!x8))
def CJ(e_:Int)(x1:aC)(x2:Bool):Option (aC×Bool):=
  (if x2 then some (x1,false) else some ((⟨bB (e_+1),x1.cH⟩:aC),true))
def L5(c:aC)(e_:Int):Option (aC×Bool):=
  (wC c).bind fun x1=>(nR c).bind fun x3=>(if !x3 then CJ e_ x1 true else (if c.aI != e_ then CJ e_ x1 true else CJ e_ x1 (e_ == 100000)))
def qX(b:aA)(s:Sub)(x3:aC×Bool)(x5:Int):Option (aA×Sub):=
  some (({b with aC:=x3.1}:aA),({s with Pc:=x5,B:=bB (s.B+1)}:Sub))
def qY(b:aA)(s:Sub)(x6:aC×Bool)(x7:Int):Option (aA×Sub):=
  (bK ({s with Out:=x7}:Sub) 0).bind fun x8=>some (({b with aC:=x6.1}:aA),x8)
def sG(b:aA)(s:Sub):Option (aA×Sub):=
  (if s.Pc == 0 then some (b,({s with Pc:=1,E:=b.aC.aI,B:=0}:Sub)) else (if s.Pc == 1 then (bS s.B 0 2).bind fun x1=>(if !x1 then (bK s 1).bind fun x2=>some (b,x2) else (FH b.aC s.B s.E).bind fun x3=>(if !x3.2 then (bK s 8).bind fun x4=>some (({b with aC:=x3.1}:aA),x4) else (if (bB (s.B+1)) == 3 then qX b s x3 2 else qX b s x3 s.Pc))) else (if s.Pc == 2 then (L5 b.aC s.E).bind fun x6=>(if x6.2 then qY b s x6 1 else qY b s x6 s.Out) else (bK s 1).bind fun x9=>some (b,x9))))
def HP(x1:Bool):Option Bool:=
  some x1
def H5(r_:cW)(e_:Int):Option Bool:=
  (if decide (2≤e_) then HP (decide (r_.aI≤(bB (e_ - 2)))) else HP false)
def X6:Option Int:=
  some (-1)
def eF(l:List cW)(e_:Int):Int→Option (Step Int (Out Unit Int))
  | x2=>(if decide (x2 < (l.length:Int)) then (idx l x2).bind fun x3=>(H5 x3 e_).bind fun x4=>(if x4 then some (.stop (Out.ret x2)) else some (.next (bB (x2+1)))) else some (.stop (Out.brk ())))
def X7:(Out Unit Int)→Option Int
  | .brk ()=>X6
  | .ret r=>some r
def wD(l:List cW)(from_ e_:Int):Option Int:=
  (loop (eF l e_) (if 0 < from_ then from_ else 0)).bind (X7)
def IJ(x2 x3:List aQ):Option aB:=
  some (⟨x2,x3⟩:aB)
def PX(x:aB)(slot x1:Int)(x4:aQ):Option aB:=
  IJ x.Global (x.Own.set x1.toNat (⟨x4.aS++([slot])⟩:aQ))
def PY(x:aB)(x5:List aQ):Option aB:=
  IJ x5 x.Own
def PZ(x:aB)(w_ c slot:Int):Option aB:=
  (uN w_ c).bind fun x1=>(idx x.Own x1).bind fun x4=>(if decide ((x4.aS.length:Int) < 2) then need (x4.aS.length+([slot]).length≤1073741824)<|PX x slot x1 x4 else (idx x.Global c).bind fun x6=>need (x6.aS.length+([slot]).length≤1073741824)<|PY x (x.Global.set c.toNat (⟨x6.aS++([slot])⟩:aQ)))
def IK(x:Mem)(x3:List Int)(x4 x5:List aQ):Option Mem:=
  some (⟨(⟨x3,x.aD.Class⟩:aD),(⟨x4,x5⟩:aB)⟩:Mem)
def IL(x:Mem)(w_ slot x1 x2:Int)(x3:List Int):Option Mem:=
  (if decide ((bB (x2+1))≤6) then (PZ x.aB w_ x1 slot).bind fun x6=>IK x x3 x6.Global x6.Own else IK x x3 x.aB.Global x.aB.Own)
def FI(x:Mem)(w_ slot:Int):Option Mem:=
  (lW x.aD slot).bind fun x1=>(uM x.aD slot).bind fun x2=>(uJ slot x1).bind fun x7=>(v7 x.aD.Bytes x7 4 (bB (x2+1))).bind fun x8=>IL x w_ slot x1 x2 x8
def qZ(b:aA)(s:Sub)(x8:Int):Option (aA×Sub):=
  some (b,({s with Pc:=x8,B:=bB (s.B+1)}:Sub))
def fD(b:aA)(s:Sub)(x5:Bool):Option (aA×Sub):=
  (if x5 then (bK s 1).bind fun x6=>some (b,x6) else (idx b.nA s.B).bind fun x7=>(if x7 == s.H then some (b,({s with Pc:=1,Row:=bB (s.Row+1)}:Sub)) else (if (bB (s.B+1)) == 3 then qZ b s 3 else qZ b s s.Pc)))
def AF(s:Sub)(x14:aA):Option (aA×Sub):=
  some (x14,({s with Pc:=1,Out:=bB (s.Out+1)}:Sub))
def fE(b:aA)(w_:Int)(s:Sub)(x1:bA)(x12:Bool):Option (aA×Sub):=
  (if x12 then (bK s 1).bind fun x13=>some (b,x13) else need (0≤(s.Row:Int)∧(s.Row:Int)≤(x1.Rows.length:Int)) (need (0≤(bB (s.Row+1):Int)∧(bB (s.Row+1):Int)≤(x1.Rows.length:Int)) (need (s.Row.toNat≤(bB (s.Row+1)).toNat) ((dS s.H).bind fun x15=>(FI b.Mem w_ x15).bind fun x16=>AF s ({b with Mem:=x16,aP:=b.aP.set w_.toNat (⟨((dA x1.Rows s.Row.toNat (x1.Rows.drop ((bB (s.Row+1)).toNat))).take (s.Row.toNat+(x1.Rows.length - ((bB (s.Row+1)).toNat)))).drop 0⟩:bA)}:aA)))))
def sH(b:aA)(w_:Int)(s:Sub):Option (aA×Sub):=
  (idx b.aP w_).bind fun x1=>(if s.Pc == 0 then some (b,({s with Pc:=1,E:=b.aC.aI,Row:=0}:Sub)) else (if s.Pc == 1 then (wD x1.Rows s.Row s.E).bind fun x2=>(if decide (x2 < 0) then (bK s 0).bind fun x3=>some (b,x3) else (idx x1.Rows x2).bind fun x4=>some (b,({s with Pc:=2,Row:=x2,B:=0,H:=x4.Handle}:Sub))) else (if s.Pc == 2 then (bS s.B 0 2).bind fun x9=>(if !x9 then fD b s true else (bS s.Row 0 (bB ((x1.Rows.length:Int) - 1))).bind fun x10=>(if !x10 then fD b s true else (idx x1.Rows s.Row).bind fun x11=>fD b s (x11.Handle != s.H))) else (if s.Pc == 3 then (bS s.Row 0 (bB ((x1.Rows.length:Int) - 1))).bind fun x17=>(if !x17 then fE b w_ s x1 true else (idx x1.Rows s.Row).bind fun x18=>(if x18.Handle != s.H then fE b w_ s x1 true else (H5 x18 s.E).bind fun x19=>fE b w_ s x1 (!x19))) else (bK s 1).bind fun x20=>some (b,x20)))))
def yH(w_ e_:Int)(x1:aC)(x2:Bool):Option (aC×Bool):=
  (if x2 then some (x1,false) else (idx x1.cH w_).bind fun x3=>some ((⟨x1.aI,x1.cH.set w_.toNat (⟨true,e_,false,0⟩:oE)⟩:aC),true))
def IM(c:aC)(w_ e_:Int):Option (aC×Bool):=
  (wC c).bind fun x1=>(nR c).bind fun x4=>(if !x4 then yH w_ e_ x1 true else (bS w_ 0 2).bind fun x5=>(if !x5 then yH w_ e_ x1 true else (bS e_ 0 c.aI).bind fun x6=>yH w_ e_ x1 (!x6)))
def FJ(b:aA)(w_:Int)(s:Sub):Option (aA×Sub):=
  (if s.Pc == 0 then some (b,({s with Pc:=1,E:=b.aC.aI}:Sub)) else (if s.Pc == 1 then (IM b.aC w_ s.E).bind fun x1=>(if !x1.2 then (bK s 1).bind fun x2=>some (({b with aC:=x1.1}:aA),x2) else some (({b with aC:=x1.1}:aA),({s with Pc:=2}:Sub))) else (if s.Pc == 2 then (if b.aC.aI == s.E then (bK s 0).bind fun x3=>some (b,x3) else some (b,({s with Pc:=0}:Sub))) else (bK s 1).bind fun x4=>some (b,x4))))
def uT(b:aA)(w_:Int)(s:Sub):Option (aA×Sub):=
  (if s.cV then some (b,s) else (if s.Kind == 1 then (yG b w_ s).bind fun x1=>some (x1.1,x1.2) else (if s.Kind == 2 then (uS b w_ s).bind fun x2=>some (x2.1,x2.2) else (if s.Kind == 3 then (sG b s).bind fun x3=>some (x3.1,x3.2) else (if s.Kind == 4 then (sH b w_ s).bind fun x4=>some (x4.1,x4.2) else (if s.Kind == 5 then (FJ b w_ s).bind fun x5=>some (x5.1,x5.2) else (bK s 1).bind fun x6=>some (b,x6)))))))
def bD(j:bE)(pc code:Int):Option bE:=
  some ({j with Pc:=pc,Code:=code}:bE)
def uU(b:List Int):Option (List Int):=
  need (([]:List Int).length+b.length≤1073741824) (some (([]:List Int)++b))
def P0(h:aD):Option aD:=
  (uU h.Bytes).bind fun x1=>(uU h.Class).bind fun x2=>some (⟨x1,x2⟩:aD)
def aA8(x5:List aQ):Option (List aQ):=
  some x5
def IN(l:List aQ):((List aQ)×Int)→Option (Step ((List aQ)×Int) (List aQ))
  | (x3,x4)=>(if decide (x4 < (l.length:Int)) then (idx l x4).bind fun x6=>(uU x6.aS).bind fun x7=>need (x3.length+([(⟨x7⟩:aQ)]).length≤1073741824) (some (.next (x3++([(⟨x7⟩:aQ)]),bB (x4+1)))) else some (.stop (x3)))
def aA9:(List aQ)→Option (List aQ)
  | x5=>aA8 x5
def J9(l:List aQ):Option (List aQ):=
  (loop (IN l) (([]:List aQ),0)).bind (aA9)
def P1(l:aB):Option aB:=
  (J9 l.Global).bind fun x1=>(J9 l.Own).bind fun x2=>some (⟨x1,x2⟩:aB)
def P2(m:Mem):Option Mem:=
  (P0 m.aD).bind fun x1=>(P1 m.aB).bind fun x2=>some (⟨x1,x2⟩:Mem)
def HQ(slot c:Int):Option Int:=
  (uJ slot c).bind fun x1=>(if decide (x1 < 0) then some (-1) else some (bB (x1+4)))
def CK(at_ x3 x4:Int)(x5:Bool):Option (Int×Int):=
  (if x5 then some (0,2) else (HQ x3 x4).bind fun x6=>some (bB (x6+at_),0))
def CL(m:Mem)(h at_ width:Int)(x1:Bool):Option (Int×Int):=
  (if x1 then some (0,1) else (qT m h).bind fun x2=>(if !x2 then some (0,4) else (dS h).bind fun x3=>(lW m.aD x3).bind fun x4=>(nQ x4).bind fun x7=>(bS at_ 0 (bB (x7 - 1))).bind fun x8=>(if !x8 then CK at_ x3 x4 true else (nQ x4).bind fun x9=>CK at_ x3 x4 (decide ((bB (x9 - at_)) < width)))))
def P3(m:Mem)(h at_ width:Int):Option (Int×Int):=
  (AE m).bind fun x10=>(if !x10 then CL m h at_ width true else (bS width 1 7).bind fun x11=>CL m h at_ width (!x11))
def SA(x8:Int)(x9:List UInt8):Option (List UInt8):=
  (if decide (0 < x8) then some ([]) else some x9)
def EY(width:Int):(Int×(List UInt8)×Int)→Option (Step (Int×(List UInt8)×Int) (Int×(List UInt8)))
  | (x5,x6,x7)=>(if decide (x7 < width) then need (([u8 (Int.tmod x5 256)]).length+x6.length≤9223372036854775807) (some (.next (bB (Int.tdiv x5 256),([u8 (Int.tmod x5 256)])++x6,bB (x7+1)))) else some (.stop ((x5,x6))))
def SB:(Int×(List UInt8))→Option (List UInt8)
  | (x8,x9)=>SA x8 x9
def KY(n width:Int)(x1:Bool):Option (List UInt8):=
  (if x1 then some ([]) else (loop (EY width) (n,[],0)).bind (SB))
def NB(n width:Int):Option (List UInt8):=
  (bS width 1 7).bind fun x10=>(if !x10 then KY n width true else KY n width (decide (n < 0)))
def CM(m:Mem)(h at_ width n:Int):Option (Mem×Int):=
  (P2 m).bind fun x1=>(P3 m h at_ width).bind fun x2=>(if x2.2 != 0 then some (x1,x2.2) else (NB n width).bind fun x3=>(if x3 == ([]) then some (x1,1) else (v7 x1.aD.Bytes x2.1 width n).bind fun x4=>some ((⟨(⟨x4,x1.aD.Class⟩:aD),x1.aB⟩:Mem),0)))
def FK(s:aG)(w_:Int)(j:bE):Option (aG×bE):=
  (if j.Pc == 0 then (uT s.aA w_ j.Sub).bind fun x1=>(if !x1.2.cV then some (({s with aA:=x1.1}:aG),({j with Sub:=x1.2}:bE)) else (if x1.2.Code != 0 then (bD ({j with Sub:=x1.2}:bE) 9 x1.2.Code).bind fun x2=>some (({s with aA:=x1.1}:aG),x2) else (hC x1.2.Out).bind fun x3=>(if !x3 then (bD ({j with Sub:=x1.2}:bE) 9 1).bind fun x4=>some (({s with aA:=x1.1}:aG),x4) else (bD ({j with Sub:=x1.2,H:=x1.2.Out}:bE) 1 0).bind fun x5=>some (({s with aA:=x1.1}:aG),x5)))) else (if j.Pc == 1 then (CM s.aA.Mem j.H 0 4 j.Op.dV).bind fun x6=>(if x6.2 != 0 then (bD j 9 x6.2).bind fun x7=>some (({s with aA:=(⟨x6.1,s.aA.aC,s.aA.aP,s.aA.nA⟩:aA)}:aG),x7) else (bD j 2 0).bind fun x8=>some (({s with aA:=(⟨x6.1,s.aA.aC,s.aA.aP,s.aA.nA⟩:aA)}:aG),x8)) else (if j.Pc == 2 then (idx s.Cells j.Op.Cell).bind fun x9=>need (s.Log.length+([(⟨2,w_,j.aK,j.Op.Cell,j.H,j.Op.dV,0⟩:Ev)]).length≤1073741824) ((if x9 == 0 then (bD ({j with Old:=x9}:bE) 9 0).bind fun x10=>some (({s with Cells:=s.Cells.set j.Op.Cell.toNat j.H,Log:=s.Log++([(⟨2,w_,j.aK,j.Op.Cell,j.H,j.Op.dV,0⟩:Ev)])}:aG),x10) else (gX 2 x9).bind fun x11=>(bD ({j with Sub:=x11,Old:=x9}:bE) 3 0).bind fun x12=>some (({s with Cells:=s.Cells.set j.Op.Cell.toNat j.H,Log:=s.Log++([(⟨2,w_,j.aK,j.Op.Cell,j.H,j.Op.dV,0⟩:Ev)])}:aG),x12))) else (if j.Pc == 3 then (uT s.aA w_ j.Sub).bind fun x13=>(if !x13.2.cV then some (({s with aA:=x13.1}:aG),({j with Sub:=x13.2}:bE)) else (bD ({j with Sub:=x13.2}:bE) 9 x13.2.Code).bind fun x14=>some (({s with aA:=x13.1}:aG),x14)) else (bD j 9 1).bind fun x15=>some (s,x15)))))
def jF(s:aG)(w_:Int)(j:bE):Option aG:=
  need (s.Log.length+([(⟨3,w_,j.aK,j.Op.Cell,j.H,0,0⟩:Ev)]).length≤1073741824) (some ({s with Log:=s.Log++([(⟨3,w_,j.aK,j.Op.Cell,j.H,0,0⟩:Ev)])}:aG))
def mI(h:aD)(x at_ width x3:Int)(x4:Bool):Option (Int×Bool):=
  (if x4 then some (0,false) else (dS x).bind fun x5=>(HQ x5 x3).bind fun x6=>(uI h.Bytes (bB (x6+at_)) width).bind fun x7=>some (x7,true))
def CN(h:aD)(x at_ width:Int)(x1:Bool):Option (Int×Bool):=
  (if x1 then some (0,false) else (dS x).bind fun x2=>(lW h x2).bind fun x3=>(if decide (x3 < 0) then mI h x at_ width x3 true else (nQ x3).bind fun x8=>(bS at_ 0 (bB (x8 - 1))).bind fun x9=>(if !x9 then mI h x at_ width x3 true else (nQ x3).bind fun x10=>mI h x at_ width x3 (decide ((bB (x10 - at_)) < width)))))
def KA(h:aD)(x at_ width:Int):Option (Int×Bool):=
  (hC x).bind fun x11=>(if !x11 then CN h x at_ width true else (bS width 1 7).bind fun x12=>CN h x at_ width (!x12))
def nU(s:aG)(j:bE):Option Int:=
  (KA s.aA.Mem.aD j.H 0 4).bind fun x1=>some x1.1
def mA(j:bE)(pc:Int)(x2:Bool):Option bE:=
  (if x2 then (bD j pc 0).bind fun x3=>some x3 else (bD ({j with dV:=0}:bE) pc 6).bind fun x4=>some x4)
def sT(s:aG)(w_:Int)(j:bE)(pc:Int):Option bE:=
  (idx s.aA.aC.cH w_).bind fun x1=>(if x1.On then mA j pc (!x1.cX) else mA j pc false)
def yI(w_:Int)(x1:aC)(x2:Bool):Option (aC×Bool):=
  (if x2 then some (x1,false) else (idx x1.cH w_).bind fun x3=>some ((⟨x1.aI,x1.cH.set w_.toNat (⟨false,0,false,0⟩:oE)⟩:aC),true))
def DV(c:aC)(w_:Int):Option (aC×Bool):=
  (wC c).bind fun x1=>(nR c).bind fun x4=>(if !x4 then yI w_ x1 true else (bS w_ 0 2).bind fun x5=>(if !x5 then yI w_ x1 true else (idx c.cH w_).bind fun x6=>yI w_ x1 (!x6.On)))
def FL(s:aG)(w_:Int)(j:bE):Option (aG×bE):=
  (if j.Pc == 0 then (uT s.aA w_ j.Sub).bind fun x1=>(if !x1.2.cV then some (({s with aA:=x1.1}:aG),({j with Sub:=x1.2}:bE)) else (bD ({j with Sub:=x1.2}:bE) 1 0).bind fun x2=>some (({s with aA:=x1.1}:aG),x2)) else (if j.Pc == 1 then (idx s.Cells j.Op.Cell).bind fun x3=>(jF s w_ ({j with H:=x3}:bE)).bind fun x4=>(if x3 == 0 then (bD ({j with H:=x3}:bE) 4 8).bind fun x5=>some (x4,x5) else (bD ({j with H:=x3}:bE) 2 0).bind fun x6=>some (x4,x6)) else (if j.Pc == 2 then (nU s j).bind fun x7=>(bD ({j with dV:=x7}:bE) 3 0).bind fun x8=>some (s,x8) else (if j.Pc == 3 then (sT s w_ j 4).bind fun x9=>some (s,x9) else (if j.Pc == 4 then (DV s.aA.aC w_).bind fun x10=>(bD j 9 j.Code).bind fun x11=>some (({s with aA:=(⟨s.aA.Mem,x10.1,s.aA.aP,s.aA.nA⟩:aA)}:aG),x11) else (bD j 9 1).bind fun x12=>some (s,x12))))))
def sI(w_ h:Int)(x1:(List Int))(x2:Bool):Option ((List Int)×Bool):=
  (if x2 then some (x1,false) else (idx x1 w_).bind fun x3=>some (x1.set w_.toNat h,true))
def CP(z:List Int)(w_ h:Int):Option ((List Int)×Bool):=
  (uU z).bind fun x1=>(DS z).bind fun x4=>(if !x4 then sI w_ h x1 true else (bS w_ 0 2).bind fun x5=>(if !x5 then sI w_ h x1 true else (hC h).bind fun x6=>sI w_ h x1 (!x6)))
def yJ(w_:Int)(x1:(List Int))(x2:Bool):Option ((List Int)×Bool):=
  (if x2 then some (x1,false) else (idx x1 w_).bind fun x3=>some (x1.set w_.toNat 0,true))
def IP(z:List Int)(w_:Int):Option ((List Int)×Bool):=
  (uU z).bind fun x1=>(DS z).bind fun x4=>(if !x4 then yJ w_ x1 true else (bS w_ 0 2).bind fun x5=>(if !x5 then yJ w_ x1 true else (idx z w_).bind fun x6=>yJ w_ x1 (x6 == 0)))
def FM(s:aG)(w_:Int)(j:bE):Option (aG×bE):=
  (if j.Pc == 0 then (idx s.Cells j.Op.Cell).bind fun x1=>(if x1 == 0 then (jF s w_ ({j with H:=x1}:bE)).bind fun x2=>(bD ({j with H:=x1}:bE) 4 8).bind fun x3=>some (x2,x3) else (bD ({j with H:=x1}:bE) 1 0).bind fun x4=>some (s,x4)) else (if j.Pc == 1 then (CP s.aA.nA w_ j.H).bind fun x5=>(bD j 2 0).bind fun x6=>some (({s with aA:=(⟨s.aA.Mem,s.aA.aC,s.aA.aP,x5.1⟩:aA)}:aG),x6) else (if j.Pc == 2 then (idx s.Cells j.Op.Cell).bind fun x7=>(if x7 != j.H then (bD j 0 0).bind fun x8=>some (s,x8) else (jF s w_ j).bind fun x9=>(bD j 3 0).bind fun x10=>some (x9,x10)) else (if j.Pc == 3 then (nU s j).bind fun x11=>(bD ({j with dV:=x11}:bE) 4 0).bind fun x12=>some (s,x12) else (if j.Pc == 4 then (IP s.aA.nA w_).bind fun x13=>(bD j 9 j.Code).bind fun x14=>some (({s with aA:=(⟨s.aA.Mem,s.aA.aC,s.aA.aP,x13.1⟩:aA)}:aG),x14) else (bD j 9 1).bind fun x15=>some (s,x15))))))
def CQ(s:aG)(w_:Int)(j:bE):Option (aG×bE):=
  (idx s.aA.aC.cH w_).bind fun x1=>(if j.Pc == 0 then (if !x1.On then (bD j 9 5).bind fun x2=>some (s,x2) else (if x1.cX then (bD j 9 6).bind fun x3=>some (s,x3) else (idx s.Cells j.Op.Cell).bind fun x4=>(jF s w_ ({j with H:=x4}:bE)).bind fun x5=>(if x4 == 0 then (bD ({j with H:=x4}:bE) 9 8).bind fun x6=>some (x5,x6) else (bD ({j with H:=x4}:bE) 1 0).bind fun x7=>some (x5,x7)))) else (if j.Pc == 1 then (nU s j).bind fun x8=>(bD ({j with dV:=x8}:bE) 2 0).bind fun x9=>some (s,x9) else (if j.Pc == 2 then (sT s w_ j 9).bind fun x10=>some (s,x10) else (bD j 9 1).bind fun x11=>some (s,x11))))
def hU(s:aG)(w_:Int)(j:bE)(x5:Bool):Option (aG×bE):=
  (if x5 then (bD j 9 1).bind fun x6=>some (s,x6) else (uT s.aA w_ j.Sub).bind fun x7=>(if !x7.2.cV then some (({s with aA:=x7.1}:aG),({j with Sub:=x7.2}:bE)) else (if j.Op.Kind == 5 then (bD ({j with Sub:=x7.2}:bE) 9 x7.2.Code).bind fun x8=>some (({s with aA:=x7.1}:aG),x8) else (if j.Pc == 0 then (gX 4 0).bind fun x9=>(bD ({j with Sub:=x9}:bE) 1 0).bind fun x10=>some (({s with aA:=x7.1}:aG),x10) else (bD ({j with Sub:=x7.2,dV:=x7.2.Out}:bE) 9 x7.2.Code).bind fun x11=>some (({s with aA:=x7.1}:aG),x11)))))
def wE(s:aG)(w_:Int)(j:bE)(x1:Bool):Option (aG×bE):=
  (if x1 then (DV s.aA.aC w_).bind fun x2=>(if !x2.2 then (bD j 9 5).bind fun x3=>some (({s with aA:=(⟨s.aA.Mem,x2.1,s.aA.aP,s.aA.nA⟩:aA)}:aG),x3) else (bD j 9 0).bind fun x4=>some (({s with aA:=(⟨s.aA.Mem,x2.1,s.aA.aP,s.aA.nA⟩:aA)}:aG),x4)) else (if j.Op.Kind == 6 then hU s w_ j true else (if j.Pc != 0 then (if j.Pc != 1 then hU s w_ j true else hU s w_ j (j.Op.Kind == 5)) else hU s w_ j false)))
def yK(s:aG)(w_:Int)(j:bE):Option (aG×bE):=
  (if j.Op.Kind == 6 then wE s w_ j (j.Pc == 0) else wE s w_ j false)
def cJ(w_:Int)(x3:aG)(x4:bE):Option aG:=
  (idx x3.aX w_).bind fun x5=>some ({x3 with aX:=x3.aX.set w_.toNat x4}:aG)
def NC(s:aG)(w_:Int):Option aG:=
  (idx s.aX w_).bind fun x1=>(if !x1.eG then (yE s w_).bind fun x2=>some x2 else (if x1.Pc == 9 then need (s.Log.length+([(⟨4,w_,x1.aK,x1.Op.Cell,x1.H,x1.dV,x1.Code⟩:Ev)]).length≤1073741824) (some ({s with aX:=s.aX.set w_.toNat (⟨false,(⟨0,0,0,0⟩:dT),0,0,(⟨0,0,0,0,0,0,0,0,0,false⟩:Sub),0,0,0,0⟩:bE),Log:=s.Log++([(⟨4,w_,x1.aK,x1.Op.Cell,x1.H,x1.dV,x1.Code⟩:Ev)])}:aG)) else (if x1.Op.Kind == 1 then (FK s w_ x1).bind fun x6=>cJ w_ x6.1 x6.2 else (if x1.Op.Kind == 2 then (FL s w_ x1).bind fun x7=>cJ w_ x7.1 x7.2 else (if x1.Op.Kind == 3 then (FM s w_ x1).bind fun x8=>cJ w_ x8.1 x8.2 else (if x1.Op.Kind == 7 then (CQ s w_ x1).bind fun x9=>cJ w_ x9.1 x9.2 else (yK s w_ x1).bind fun x10=>cJ w_ x10.1 x10.2))))))
end
end Go.Gv
end
