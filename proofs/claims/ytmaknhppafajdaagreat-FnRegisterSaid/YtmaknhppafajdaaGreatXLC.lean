import Derived.Test.YtmaknhppafajdaaGreatXLB
import Derived.Test.YtmaknhppafajdaaGreatProg
set_option linter.unusedVariables false
set_option linter.unusedSimpArgs false
set_option linter.unusedSectionVars false
set_option linter.constructorNameAsVariable false
set_option linter.unnecessarySimpa false
noncomputable section
namespace Go.Gv
theorem a56{P:Program}{f:FuncId}{κ:Ctx}{xs:List SV}{ρ:Type}{sv:ρ→SV}{r:ρ}(hcall:∀args w,(callFunc f args).run P w=.ok (.enter f args) w)
    (H:(∀f:Fact,f.P κ.S0 κ.w0→f.P (RV κ.w0) κ.w0)→∀vs,bC (gK []) xs=some vs→Calls P f vs.toArray κ.w0 (Ret fun v w'=>gK [] (sv r)=some v∧St (c9 κ.w0) w' [] [])):Fn0 P f κ xs sv r:=
  ⟨hcall,fun vs hv hS=>Calls.mono (H (fun f hf=>f.mono hf fun b o hb=>hS.s0 b o hb) vs hv) fun en w' ⟨v,h1,h2,h3⟩=>⟨v,h1,(),h2,hS.aV4 h3.iW⟩⟩
noncomputable section
variable {P:Program} {T:TT} {hT:HQ P T} {n:Nat} {c:Ctx} {B0:Bl} {N:Act→World→Prop} {X:Nat→Act→World→Prop} {Q:Act→World→Prop} {K K':List Fr} {m m':Nat} {e e':SE} {L L' Lv:List Ch} {cf cf' cf1 cf2:yW} {o:Oper} {d:Nat}
theorem un{α:Type}[aL α](j:Nat)(ks:List Nat)(ps qs:List (Nat×Nat)){s:AC}{n0:Nat}{l:List α}(hj:L[j]?=some (.o (gO [s.v n0] l)))(hz:hO j cf.CS=true)(hk:bC (E6 e) ks=some (ks.map fun _=>.h s n0))(hp:bC (atE (ovh (.h s l.length) e ks)) ps=some (ps.map fun _=>.h s n0))(hq:bC (atL (L.set j (ow s l))) qs=some (qs.map fun _=>.h s n0))(ha:(d8 (qs.map (·.1)) && (qs.map (·.1)).all fun j=>hO j cf.CS)=true)
    (k:l.length=n0→G (.mk P T hT n c B0 N X Q) K m (rhE (.h s l.length) (ovh (.h s l.length) e ks) ps) (rhL (.h s l.length) (L.set j (ow s l)) qs) cf):G (.mk P T hT n c B0 N X Q) K m e L cf:=by
  rw [Bool.and_eq_true] at ha
  refine chg (fun _:PLift (l.length=n0)=>m) (fun _=>rhE (.h s l.length) (ovh (.h s l.length) e ks) ps) (fun _=>rhL (.h s l.length) (L.set j (ow s l)) qs) (fun B a w hm hA hS=>?_) (fun _=>XG (J3 hz) ha.2) (fun h=>k h.down)
  have hn:l.length=n0:=by
    obtain⟨⟨R,s1,s2⟩,s0⟩:=hS
    obtain⟨F,hF⟩:=s1.chunk (ch:=gO [s.v n0] l) j (by simp [hj,kZ])
    obtain⟨ad,cp,h1,h2⟩:=JT (show aL.own w [s.v n0] l F from hF)
    simp only [AC.v,Value.slice.injEq] at h1
    exact h1.2.1.symm
  subst hn
  have hS':nT c w B (L.set j (ow s l)):=by
    have:L.set j (ow s l)=L:=by
      obtain⟨hl,he⟩:=List.getElem?_eq_some_iff.1 hj
      show L.set j (.o (gO [s.v l.length] l))=L
      rw [←he];exact List.set_getElem_self hl
    rw [this];exact hS
  obtain⟨h1,h2⟩:=aR1 s rfl hp hq ha.1 (aKS ks hk hA) hS'
  exact⟨⟨rfl⟩,[],by simpa using hm,by simpa using h1,by simpa using h2⟩
theorem rr(s:AC){n0 n1:Nat}(hn:n0=n1)(ks:List Nat)(ps qs:List (Nat×Nat))(hk:bC (E6 e) ks=some (ks.map fun _=>.h s n0))(hp:bC (atE (ovh (.h s n1) e ks)) ps=some (ps.map fun _=>.h s n0))(hq:bC (atL L) qs=some (qs.map fun _=>.h s n0))(ha:(d8 (qs.map (·.1)) && (qs.map (·.1)).all fun j=>hO j cf.CS)=true)
    (k:G (.mk P T hT n c B0 N X Q) K m (rhE (.h s n1) (ovh (.h s n1) e ks) ps) (rhL (.h s n1) L qs) cf):G (.mk P T hT n c B0 N X Q) K m e L cf:=by
  rw [Bool.and_eq_true] at ha
  subst hn
  refine chg (fun _:Unit=>m) (fun _=>rhE (.h s n0) (ovh (.h s n0) e ks) ps) (fun _=>rhL (.h s n0) L qs) (fun B a w hm hA hS=>?_) (fun _=>XG (by simpa using A1 (L:=L) []) ha.2) (fun _=>k)
  obtain⟨h1,h2⟩:=aR1 s rfl hp hq ha.1 (aKS ks hk hA) hS
  exact⟨(),[],by simpa using hm,by simpa using h1,by simpa using h2⟩
theorem cpy{d:Option Nat}{x y:Operand}{t t2 el sz:Nat}{α:Type}[aL α][Flat α]{s s2:AC}{l xs:List α}{b1 b2:Bool}{n1:Nat}{z1 z2:List SV}{kt:TK}(p a:Nat)(hb:a≤l.length∧l.length≤l.length)(hsrc:∀{w},HS c w L'→bL (c9 w) s2 xs)(hs:lI T n K cf m e L=.op o Lv cf1 cf2 K' m' e' L')(ho:(o.op,o.dst)=(.call {callee:=.builtin .copy,args:=#[x,y],argTypes:=#[t,t2]},d))(ht:CQ T t=some ⟨.sl el,b1,n1,z1⟩)(he:CQ T el=some ⟨kt,b2,sz,z2⟩)(hn:aL.n α=sz)(hp:(L'[p]?,hO p cf1.CS)=(some (ow s l),true))(hx:jQ e' x=some (.h (s.sub sz a) ((l.take l.length).drop a).length))(hy:jQ e' y=some (.h s2 xs.length))
    (k:G (.mk P T hT n c B0 N X Q) K' m' (dse d (.i .i64 ((min xs.length (l.length - a):Nat):Int)) e') (L'.set p (ow s (dQ l a xs))) cf2):G (.mk P T hT n c B0 N X Q) K m e L cf:=by
  have hp1:L'[p]?=some (ow s l):=congrArg Prod.fst hp
  have hz:hO p cf1.CS=true:=congrArg Prod.snd hp
  have hlen:(dQ l a xs).length=l.length:=e9 hb.1
  refine hQ (g:=.mk P T hT n c B0 N X Q) ?_
  rw [hs]
  intro hdn _ hE
  refine hE Unit (fun _=>m') (fun _=>dse d (.i .i64 ((min xs.length (l.length - a):Nat):Int)) e') (fun _=>L'.set p (ow s (dQ l a xs))) (fun _=>J3 hz) (fun B act w next Q' hm hA hS hnext=>?_) (fun _=>k)
  have hr:bL (c9 w) s2 xs:=hsrc ⟨_,hS⟩
  obtain⟨⟨R,s1,s2'⟩,s0⟩:=hS
  have hx2:ev (vE (W4 (.mk P T hT n c B0 N X Q) cf1++B) e') x=some (iE sz a l.length (s.v l.length)):=by rw [hdB hA hx,OF hb.1 hb.2]
  have hop:o.op=.call {callee:=.builtin .copy,args:=#[x,y],argTypes:=#[t,t2]}:=congrArg Prod.fst ho
  have hd:o.dst=d:=congrArg Prod.snd ho
  obtain⟨v,w',k1,rfl,k2⟩:=aQ9 p s1 (by rw [List.getElem?_map,hp1];rfl) hr hn hb.1 (IJ ht hT) (hT.size _ _ he) hop hx2 (hdB hA hy)
  unfold Oper.wp
  rw [k1 _ act hA.env,Oper.upon_value,hd]
  have hS2:nT c w' (W4 (.mk P T hT n c B0 N X Q) cf1++B) (L'.set p (ow s (dQ l a xs))):=by
    refine⟨⟨R,?_,fun z hz=>?_⟩,s0⟩
    · rw [List.map_set]
      show St c w' ((L'.map _).set p (gO [s.v (dQ l a xs).length] _)) R
      rw [hlen];exact k2
    · rcases List.mem_or_eq_of_mem_set hz with hz | hz
      · exact s2' z hz
      · subst hz;trivial
  cases d with
  | none=>exact hnext () _ _ ⟨[],by simpa using hm,by simpa [Act.put,dse] using hA,by simpa using hS2⟩
  | some d=>exact hnext () _ _ ⟨[],by simpa using hm,by simpa [dse] using hA.of (by simp [gK,gV,b7]) (hA.env.put (by rw [hd] at hdn;simpa [tE,Nat.blt_eq] using hdn) _),by simpa using hS2⟩
theorem cp0{d:Option Nat}{x y:Operand}{t t2 el sz:Nat}{α:Type}[aL α][Flat α]{s s2:AC}{l xs:List α}{b1 b2:Bool}{n1:Nat}{z1 z2:List SV}{kt:TK}(p:Nat)(hsrc:∀{w},HS c w L'→bL (c9 w) s2 xs)(hs:lI T n K cf m e L=.op o Lv cf1 cf2 K' m' e' L')(ho:(o.op,o.dst)=(.call {callee:=.builtin .copy,args:=#[x,y],argTypes:=#[t,t2]},d))(ht:CQ T t=some ⟨.sl el,b1,n1,z1⟩)(he:CQ T el=some ⟨kt,b2,sz,z2⟩)(hn:aL.n α=sz)(hp:(L'[p]?,hO p cf1.CS)=(some (ow s l),true))(hx:jQ e' x=some (.h s l.length))(hy:jQ e' y=some (.h s2 xs.length))
    (k:G (.mk P T hT n c B0 N X Q) K' m' (dse d (.i .i64 ((min xs.length (l.length - 0):Nat):Int)) e') (L'.set p (ow s (dQ l 0 xs))) cf2):G (.mk P T hT n c B0 N X Q) K m e L cf:=by
  have hp1:L'[p]?=some (ow s l):=congrArg Prod.fst hp
  have hz:hO p cf1.CS=true:=congrArg Prod.snd hp
  have hlen:(dQ l 0 xs).length=l.length:=e9 (Nat.zero_le _)
  refine hQ (g:=.mk P T hT n c B0 N X Q) ?_
  rw [hs]
  intro hdn _ hE
  refine hE Unit (fun _=>m') (fun _=>dse d (.i .i64 ((min xs.length (l.length - 0):Nat):Int)) e') (fun _=>L'.set p (ow s (dQ l 0 xs))) (fun _=>J3 hz) (fun B act w next Q' hm hA hS hnext=>?_) (fun _=>k)
  have hr:bL (c9 w) s2 xs:=hsrc ⟨_,hS⟩
  obtain⟨⟨R,s1,s2'⟩,s0⟩:=hS
  have hop:o.op=.call {callee:=.builtin .copy,args:=#[x,y],argTypes:=#[t,t2]}:=congrArg Prod.fst ho
  have hd:o.dst=d:=congrArg Prod.snd ho
  obtain⟨v,w',k1,rfl,k2⟩:=aU9 p s1 (by rw [List.getElem?_map,hp1];rfl) hr hn (IJ ht hT) (hT.size _ _ he) hop (hdB hA hx) (hdB hA hy)
  unfold Oper.wp
  rw [k1 _ act hA.env,Oper.upon_value,hd]
  have hS2:nT c w' (W4 (.mk P T hT n c B0 N X Q) cf1++B) (L'.set p (ow s (dQ l 0 xs))):=by
    refine⟨⟨R,?_,fun z hz=>?_⟩,s0⟩
    · rw [List.map_set]
      show St c w' ((L'.map _).set p (gO [s.v (dQ l 0 xs).length] _)) R
      rw [hlen];exact k2
    · rcases List.mem_or_eq_of_mem_set hz with hz | hz
      · exact s2' z hz
      · subst hz;trivial
  cases d with
  | none=>exact hnext () _ _ ⟨[],by simpa using hm,by simpa [Act.put,dse] using hA,by simpa using hS2⟩
  | some d=>exact hnext () _ _ ⟨[],by simpa using hm,by simpa [dse] using hA.of (by simp [gK,gV,b7]) (hA.env.put (by rw [hd] at hdn;simpa [tE,Nat.blt_eq] using hdn) _),by simpa using hS2⟩
theorem fR{Z:Act→World→Prop}{e1:SE}{L1:List Ch}(h1:aVG e=some e1)(h2:aVH L=some L1)(kk:∀a w,rT n c B0 m e1 L1 a w→Z a w):∀a w,rT n c B0 m e L a w→Z a w:=by
  have:=aKM h1
  have:=aKN h2
  subst e1;subst L1
  exact kk
end
end Go.Gv
end
noncomputable section
namespace Go.Gv
noncomputable section
variable {B B':Bl} {i j:Nat}
end
noncomputable section
variable {n:Nat} {c:Ctx} {B0:Bl} {m:Nat} {e:SE} {L:List Ch}
theorem pnR{Z:Act→World→Prop}{α:Type}[aL α](j:Nat){s:AC}{l:List α}{n0:Nat}(hl:l.length=n0)(hj:L[j]?=some (ow s l))
    (kk:∀a w,rT n c B0 m e (L.set j (.o (gO [s.v n0] l))) a w→Z a w):∀a w,rT n c B0 m e L a w→Z a w:=by
  subst hl
  have:L.set j (.o (gO [s.v l.length] l))=L:=by
    obtain⟨h1,h2⟩:=List.getElem?_eq_some_iff.1 hj
    rw [←show L[j]=.o (gO [s.v l.length] l) from h2];exact List.set_getElem_self h1
  rw [this] at kk
  exact kk
end
end Go.Gv
end
noncomputable section
namespace Go.Gv
universe u
theorem Q{α:Sort u}{a:α}:a=a:=Eq.refl a
def W{ρ:Type}(C:Prop)(r:ρ)(F:Option ρ):Prop:=F=some r→C
theorem wm{ρ:Type}{C:Prop}{r:ρ}{F F':Option ρ}(h:F'=F)(k:W C r F):W C r F':=h ▸ k
theorem wi{ρ:Type}{C:Prop}{r:ρ}{F:Option ρ}(h:F=some r)(k:W C r F):C:=k h
def VS(P:Program)(c:Ctx)(f:FuncId){ρ ex:Type}(F:Option ρ)(xs:List SV)(B0:Bl)(L0:List Ch)(sv:ρ→ex→SV)(Lf:ρ→ex→List Ch):Prop:=∀r,F=some r→FnS P f c xs B0 L0 sv Lf r
abbrev V0(P:Program)(c:Ctx)(f:FuncId){ρ:Type}(F:Option ρ)(xs:List SV)(sv:ρ→SV):Prop:=VS P c f F xs [] [] (fun r (_:Unit)=>sv r) (fun _ _=>[])
theorem VS.r{P:Program}{c:Ctx}{f:FuncId}{ρ ex:Type}{F:Option ρ}{xs:List SV}{B0:Bl}{L0:List Ch}{sv:ρ→ex→SV}{Lf:ρ→ex→List Ch}(h:VS P c f F xs B0 L0 sv Lf){r:ρ}(hF:F=some r):FnS P f c xs B0 L0 sv Lf r:=h r hF
def QR(P:Program)(fn:Func){rs:List ResultVar}(_:fn.results=rs.toArray)(c:Ctx)(B0:Bl){ρ ex:Type}(sv:ρ→ex→SV)(Lf:ρ→ex→List Ch)(r:ρ):Act→World→Prop:=QS P fn c B0 sv Lf r
def aWQ(T:TT)(rs:List ResultVar)(is:List Nat)(b0:Nat)(L2:List Ch):Stop→Option (SV×List Ch)
  | .ret m e L => match aKC T e L rs with
    | some x => match IC b0 (nbS x) with
      | true => match U9 b0 m e L is b0 [] L2 with
        | some ([],L3)=>some (nbS x,L3)
        | _=>none
      | false=>none
    | none=>none
  | _=>none
def aS3(is:List Nat)(b0 mj:Nat)(ej:SE)(Lj:List Ch):Stop→Option (SE×List Ch)
  | .fin m e L=>U9 b0 m e L is mj ej Lj
  | _=>none
def exQ(is:List Nat)(id b0 mj:Nat)(ej:SE)(Lj:List Ch):Stop→Option (SE×List Ch)
  | .ex i m e L => match Nat.beq i id with
    | true=>U9 b0 m e L is mj ej Lj
    | false=>none
  | _=>none
def a58:Stop→Stop
  | .fin m e L=>.ret m e L
  | _=>.stuck
def ixT(T:TT)(t n:Nat):Bool:=match CQ T t with
  | some ⟨.sl el, _, _, _⟩ => match CQ T el with
    | some ⟨_,_,sz,_⟩=>Nat.beq n sz
    | none=>false
  | _=>false
noncomputable section
variable {P:Program} {T:TT} {hT:HQ P T} {n:Nat} {c:Ctx} {B0:Bl} {N:Act→World→Prop} {X:Nat→Act→World→Prop} {Q:Act→World→Prop} {K K':List Fr} {m m':Nat} {e e':SE} {L L' Lv:List Ch} {cf cf' cf1 cf2:yW} {o:Oper}
theorem dW(hT:HQ P T){f:FuncId}{fn:Func}{cd:Code}{xs:List SV}{L0:List Ch}{ρ ex:Type}{sv:ρ→ex→SV}{Lf:ρ→ex→List Ch}{F:Option ρ}{rs:List ResultVar}(hc:∀args w,(callFunc f args).run P w=.ok (.enter f args) w)(hf:P.funcs[f]?=some fn)(hr:fn.results=rs.toArray)(hb:fn.body=some cd)(hm:fn.ntmps=n)
    (k:∀{r},W (G (.mk P T hT n c B0 (QR P fn hr c B0 sv Lf r) (fun _ _ _=>False) (QR P fn hr c B0 sv Lf r)) [] B0.length (aJH 0 xs) L0 (.c cd)) r F) (hl:Nat.ble xs.length n=true:=by exact rfl):VS P c f F xs B0 L0 sv Lf:=
  fun _ hF=>en n hc hf hT hb hm hl (k hF)
theorem aR3{rs:List ResultVar}{is:List Nat}{b0:Nat}{L2 L3:List Ch}{s:SV}{st:Stop}(h:aWQ T rs is b0 L2 st=some (s,L3)):∃m' e' L' x,st=.ret m' e' L'∧aKC T e' L' rs=some x∧nbS x=s∧IC b0 s=true∧U9 b0 m' e' L' is b0 [] L2=some ([],L3):=by
  unfold aWQ at h
  split at h
  · split at h
    · rename_i h1
      split at h
      · rename_i h2
        split at h
        · rename_i h3
          cases h
          exact⟨_,_,_,_,rfl,h1,rfl,h2,h3⟩
        · cases h
      · cases h
    · cases h
  · cases h
theorem nP{fn:Func}{ρ ex:Type}{sv:ρ→ex→SV}{Lf:ρ→ex→List Ch}{r r':ρ}{rs:List ResultVar}{hr:fn.results=rs.toArray}{zz:Option ρ}(y:ex)(is:List Nat)(hz:zz=some r')(h:aWQ T rs is B0.length (Lf r' y) (lI T n K cf m e L)=some (sv r' y,Lf r' y)):W (G (.mk P T hT n c B0 N X (QR P fn hr c B0 sv Lf r)) K m e L cf) r zz:=fun hF=>by
  obtain⟨_,_,_,_,h1,h2,h3,h4,h5⟩:=aR3 h
  exact rt y is hF hz h1 hr h2 h3 h4 h5
theorem dE{fn:Func}{ρ:Type}{sv:ρ→Unit→SV}{Lf:ρ→Unit→List Ch}{r r':ρ}{rs:List ResultVar}{hr:fn.results=rs.toArray}{zz:Option ρ}(hz:zz=some r')(h:aWQ T rs [] B0.length (Lf r' ()) (lI T n K cf m e L)=some (sv r' (),Lf r' ())):W (G (.mk P T hT n c B0 N X (QR P fn hr c B0 sv Lf r)) K m e L cf) r zz:=nP () [] hz h
theorem N3{fn:Func}{ρ ex:Type}{sv:ρ→ex→SV}{Lf:ρ→ex→List Ch}{r r':ρ}{rs:List ResultVar}{hr:fn.results=rs.toArray}{zz:Option ρ}(y:ex)(is:List Nat)(hz:zz=some r')(h:aWQ T rs is B0.length (Lf r' y) (a58 (lI T n K cf m e L))=some (sv r' y,Lf r' y)):W (G (.mk P T hT n c B0 (QR P fn hr c B0 sv Lf r) X Q) K m e L cf) r zz:=fun hF=>by
  obtain⟨m',e',L',_,h1,h2,h3,h4,h5⟩:=aR3 h
  refine rf y is hF hz (m':=m') (e':=e') (L':=L') ?_ hr h2 h3 h4 h5
  unfold a58 at h1
  split at h1
  · rename_i h0;rw [h0];cases h1;rfl
  · cases h1
theorem aR4{is:List Nat}{b0 mj:Nat}{ej e3:SE}{Lj L3:List Ch}{st:Stop}(h:aS3 is b0 mj ej Lj st=some (e3,L3)):∃m' e' L',st=.fin m' e' L'∧U9 b0 m' e' L' is mj ej Lj=some (e3,L3):=by
  unfold aS3 at h
  split at h
  · exact⟨_,_,_,rfl,h⟩
  · cases h
theorem pR{π υ α:Type}{eq:π→Prop}{mj:Nat}{ej:π→υ→SE}{Lj:π→υ→List Ch}{p:π}{q:α}{zz:Option α}(u:υ)(is:List Nat)(hz:(zz=some q)=eq p)(h:aS3 is B0.length mj (ej p u) (Lj p u) (lI T n K cf m e L)=some (ej p u,Lj p u)):W (G (.mk P T hT n c B0 (JP n c B0 eq mj ej Lj) X Q) K m e L cf) q zz:=fun hF=>by
  obtain⟨_,_,_,h1,h2⟩:=aR4 h
  exact jn u is (hz ▸ hF) h1 h2
theorem cQ{π α:Type}{eq:π→Prop}{mj:Nat}{ej:π→Unit→SE}{Lj:π→Unit→List Ch}{p:π}{q:α}{zz:Option α}(is:List Nat)(hz:(zz=some q)=eq p)(h:aS3 is B0.length mj (ej p ()) (Lj p ()) (lI T n K cf m e L)=some (ej p (),Lj p ())):W (G (.mk P T hT n c B0 (JP n c B0 eq mj ej Lj) X Q) K m e L cf) q zz:=pR () is hz h
theorem nxW{σ ρ υ:Type}{o:Step σ ρ}{mj:Nat}{el:σ→υ→SE}{Ll:σ→υ→List Ch}{s:σ}(u:υ)(is:List Nat)(h:aS3 is B0.length mj (el s u) (Ll s u) (lI T n K cf m e L)=some (el s u,Ll s u)):W (G (.mk P T hT n c B0 (NxP n c B0 o mj el Ll) X Q) K m e L cf) o (some (Step.next s)):=fun hF=>by
  obtain⟨_,_,_,h1,h2⟩:=aR4 h
  exact nx u is hF h1 h2
theorem J4{σ ρ:Type}{o:Step σ ρ}{mj:Nat}{el:σ→Unit→SE}{Ll:σ→Unit→List Ch}{s:σ}(is:List Nat)(h:aS3 is B0.length mj (el s ()) (Ll s ()) (lI T n K cf m e L)=some (el s (),Ll s ())):W (G (.mk P T hT n c B0 (NxP n c B0 o mj el Ll) X Q) K m e L cf) o (some (Step.next s)):=nxW () is h
def BkR(n:Nat)(c:Ctx)(B0:Bl){β ρ σ υ:Type}{o:Step σ ρ}{ro:ρ}(_:∀p,o=.stop p→p=ro)(enc:β→ρ)(m:Nat)(ej:β→υ→SE)(Lj:β→υ→List Ch)(id:Nat)(X:Nat→Act→World→Prop):Nat→Act→World→Prop:=BkP n c B0 ro enc m ej Lj id X
theorem bkW{σ ρ β υ:Type}{o:Step σ ρ}{ro:ρ}{enc:β→ρ}{mj id:Nat}{ej:β→υ→SE}{Lj:β→υ→List Ch}{b:β}{hr:∀p,o=.stop p→p=ro}(u:υ)(is:List Nat)(h:exQ is id B0.length mj (ej b u) (Lj b u) (lI T n K cf m e L)=some (ej b u,Lj b u)):W (G (.mk P T hT n c B0 N (BkR n c B0 hr enc mj ej Lj id X) Q) K m e L cf) o (some (Step.stop (enc b))):=fun hF=>by
  unfold exQ at h
  split at h
  · rename_i h0
    split at h
    · rename_i hb
      rw [Nat.eq_of_beq_eq_true hb] at h0
      exact bk u is hF hr h0 h
    · cases h
  · cases h
theorem FW{σ ρ β:Type}{o:Step σ ρ}{ro:ρ}{enc:β→ρ}{mj id:Nat}{ej:β→Unit→SE}{Lj:β→Unit→List Ch}{b:β}{hr:∀p,o=.stop p→p=ro}(is:List Nat)(h:exQ is id B0.length mj (ej b ()) (Lj b ()) (lI T n K cf m e L)=some (ej b (),Lj b ())):W (G (.mk P T hT n c B0 N (BkR n c B0 hr enc mj ej Lj id X) Q) K m e L cf) o (some (Step.stop (enc b))):=bkW () is h
theorem MT{σ ρ α:Type}{o:Step σ ρ}{p ro:ρ}{F:ρ→Option α}{q:α}{C:Prop}(hr:∀p,o=.stop p→p=ro)(hF:F ro=some q)(k:W C q (F p)):W C o (some (Step.stop p)):=fun h=>k (re h rfl hr hF)
noncomputable section
variable {b:Bool} {α:Type} {A B':Option α} {q:α}
theorem b8{o:Operand}{x y:Code}(ss:List Nat)(hs:lI T n K cf m e L=.cond o b x y K' m' e' L')(ho:bC (E6 e') ss=some (ss.map fun _=>SV.b b))
    (k1:W (G (.mk P T hT n c B0 N X Q) K' m' (ovr true e' ss) L' (.c x)) q A) (k2:W (G (.mk P T hT n c B0 N X Q) K' m' (ovr false e' ss) L' (.c y)) q B'):W (G (.mk P T hT n c B0 N X Q) K m e L cf) q (if b=true then A else B'):=fun hF=>cs ss hs ho hF k1 k2
theorem aM6{o:Operand}{x y:Code}(ss:List Nat)(hs:lI T n K cf m e L=.cond o b x y K' m' e' L')(ho:bC (E6 e') ss=some (ss.map fun _=>SV.b b))
    (k1:b=true→W (G (.mk P T hT n c B0 N X Q) K' m' (ovr true e' ss) L' (.c x)) q A) (k2:b=false→W (G (.mk P T hT n c B0 N X Q) K' m' (ovr false e' ss) L' (.c y)) q B'):W (G (.mk P T hT n c B0 N X Q) K m e L cf) q (if b=true then A else B'):=fun hF=>csK ss hs ho hF k1 k2
theorem eP(ss:List Nat)(hs:lI T n K cf m e L=.case b cf' K' m' e' L')(ho:bC (E6 e') ss=some (ss.map fun _=>SV.b b))
    (k1:W (G (.mk P T hT n c B0 N X Q) K' m' (ovr true e' ss) L' cf') q A) (k2:W (G (.mk P T hT n c B0 N X Q) K' m' (ovr false e' ss) L' cf') q B'):W (G (.mk P T hT n c B0 N X Q) K m e L cf) q (if b=true then A else B'):=fun hF=>ca ss hs ho hF k1 k2
theorem aM7(ss:List Nat)(hs:lI T n K cf m e L=.case b cf' K' m' e' L')(ho:bC (E6 e') ss=some (ss.map fun _=>SV.b b))
    (k1:b=true→W (G (.mk P T hT n c B0 N X Q) K' m' (ovr true e' ss) L' cf') q A) (k2:b=false→W (G (.mk P T hT n c B0 N X Q) K' m' (ovr false e' ss) L' cf') q B'):W (G (.mk P T hT n c B0 N X Q) K m e L cf) q (if b=true then A else B'):=fun hF=>caK ss hs ho hF k1 k2
end
noncomputable section
variable {α β:Type} {fo:Option α} {kf:α→Option β} {q:β} {d:Nat} {f:FuncId} {xs:List SV}
theorem c0{sv:α→SV}(hs:lI T n K cf m e L=.call o (some d) f xs cf1 cf2 K' m' e' L')
    (hc:∀{w},HS c w L'→V0 P (c9 w) f fo xs sv) (k:∀x,W (G (.mk P T hT n c B0 N X Q) K' m' ((d,sv x) :: e') L' cf2) q (kf x)):W (G (.mk P T hT n c B0 N X Q) K m e L cf) q (fo.bind kf):=fun hF=>cl0 hs (fun h _ hx=>hc h _ hx) hF fun x _ h=>k x h
theorem c1{ex:Type}{sv:α→ex→SV}{Lf:α→ex→List Ch}(hs:lI T n K cf m e L=.call o (some d) f xs cf1 cf2 K' m' e' L')
    (hc:∀{w},HS c w L'→VS P (c9 w) f fo xs [] [] sv Lf) (k:∀x,∀y:ex,W (G (.mk P T hT n c B0 N X Q) K' m' ((d,sv x y) :: e') (L'++Lf x y) cf2) q (kf x)) (hn:∀x y,noF (Lf x y)=true:=by exact fun _ _=>rfl):W (G (.mk P T hT n c B0 N X Q) K m e L cf) q (fo.bind kf):=fun hF=>cl hs hn (fun h _ hx=>hc h _ hx) hF fun x _ h y=>k x y h
theorem OG{β:Type}{kf:α→Option β}{q:β}{iR:aL α}(C:LS α){d t:Nat}{s:AC}{i:Int}{ls:List α}(hs:lI T n K cf m e L=.idx o d t s ls.length i Lv cf1 cf2 K' m' e' L')(h1:bL c s ls)(ht:ixT T t (aL.n α)=true)
    (k:∀x,∀y:C.ex,C.sub c.S0 c.w0 x y→W (G (.mk P T hT n c B0 N X Q) K' (m'+1) ((d,.p m' 0) :: e') (L' ++ [.ro m' (C.cs x y)]) (cf2.ext [.ro m' (C.cs x y)])) q (kf x)):W (G (.mk P T hT n c B0 N X Q) K m e L cf) q ((idx ls i).bind kf):=fun hF=>by
  unfold ixT at ht
  split at ht
  · rename_i h2
    split at ht
    · rename_i h3
      exact ix C hs h1 hF h2 h3 (Nat.eq_of_beq_eq_true ht) fun x _ h y hy=>k x y hy h
    · cases ht
  · cases ht
theorem VA{β:Type}{kf:Int→Option β}{q:β}{d t:Nat}{s:AC}{i:Int}{ls:List Int}(hs:lI T n K cf m e L=.idx o d t s ls.length i Lv cf1 cf2 K' m' e' L')(h1:bL c s ls)(ht:ixT T t 1=true)
    (k:∀x,W (G (.mk P T hT n c B0 N X Q) K' (m'+1) ((d,.p m' 0) :: e') (L' ++ [.ro m' [.i .i64 x]]) (cf2.ext [.ro m' [.i .i64 x]])) q (kf x)):W (G (.mk P T hT n c B0 N X Q) K m e L cf) q ((idx ls i).bind kf):=OG cI hs h1 ht fun x _ _=>k x
theorem nZ(hm:P.follows .mixedOrders=true){id:Nat}{ops:Array Oper}{zz:Option β}(is:List Nat)(hs:lI T n K cf m e L=.rgn id ops K' m' e' L')
    (k:∀{B1},W (G (.mk P T hT n c B0 N X Q) K' m' e' L' (.d B1 ops (List.replicate ops.size false) is (kl L' is) (kl L' is))) q zz) (hf:(aMN ops && (okL m' (kl L' is) && (d8 is && is.all fun j=>Nat.blt j L'.length)))=true:=by kernel_rfl):W (G (.mk P T hT n c B0 N X Q) K m e L cf) q zz:=fun hF=>dr is hs hm hf fun _=>k hF
theorem iT{π υ:Type}{zz:Option β}(j mj:Nat)(Fj:π→Option β)(ks:List Nat)(ej:π→υ→SE)(is:List Nat)(Lj:π→υ→List Ch)(hs:WB (lI T n K cf m e L)=some (K',cf',m',e',L'))
    (k1:W (G (.mk P T hT n c B0 (JP n c B0 (fun p=>Fj p=some q) mj (fun p u=>ej p u++kp e' ks) (fun p u=>Lj p u++kl L' is)) (XK (.mk P T hT n c B0 N X Q) (K'.drop j)) Q) (K'.take j) m' e' L' cf') q zz)
    (k2:∀p u,W (G (.mk P T hT n c B0 N X Q) (K'.drop j) mj (ej p u++kp e' ks) (Lj p u++kl L' is) .n) q (Fj p)):W (G (.mk P T hT n c B0 N X Q) K m e L cf) q zz:=fun hF=>cut j mj (fun p=>Fj p=some q) ks ej is Lj hs (k1 hF) fun p u h=>k2 p u h
theorem d5{zz:Option β}(j mj:Nat)(Fj:Bool→Option β)(ks:List Nat)(v:Nat)(is:List Nat)(hs:WB (lI T n K cf m e L)=some (K',cf',m',e',L'))
    (k1:W (G (.mk P T hT n c B0 (JP n c B0 (fun p=>Fj p=some q) mj (fun p (_:Unit)=>[(v,.b p)]++kp e' ks) (fun _ _=>[]++kl L' is)) (XK (.mk P T hT n c B0 N X Q) (K'.drop j)) Q) (K'.take j) m' e' L' cf') q zz)
    (k2:∀p,W (G (.mk P T hT n c B0 N X Q) (K'.drop j) mj ([(v,.b p)]++kp e' ks) ([]++kl L' is) .n) q (Fj p)):W (G (.mk P T hT n c B0 N X Q) K m e L cf) q zz:=iT j mj Fj ks (fun p (_:Unit)=>[(v,.b p)]) is (fun _ _=>[]) hs k1 fun p _=>k2 p
theorem QX{σ ρ υ γ ω:Type}{id:Nat}{y:Code}{fb:σ→Option (Step σ ρ)}{s0:σ}{gk:ρ→Option β}(u0:υ)(ks:List Nat)(el:σ→υ→SE)(is0 is:List Nat)(Ll:σ→υ→List Ch)(enc:γ→ρ)(kb:List Nat)(ej:γ→ω→SE)(ib:List Nat)(Lj:γ→ω→List Ch)
    (hs:lI T n K cf m e L=.loop id y K' m' e' L')
    (h0:U9 B0.length m' e' L' is0 m' (el s0 u0++kp e' ks) (Ll s0 u0++kl L' is)=some (el s0 u0++kp e' ks,Ll s0 u0++kl L' is))
    (k1:∀{ro o},gk ro=some q→∀s u,(hr:∀p,o=.stop p→p=ro)→W (G (.mk P T hT n c B0 (NxP n c B0 o m' (fun s u=>el s u++kp e' ks) (fun s u=>Ll s u++kl L' is)) (BkR n c B0 hr enc m' (fun b u=>ej b u++kp e' kb) (fun b u=>Lj b u++kl L' ib) id (XK (.mk P T hT n c B0 N X Q) K')) Q) [] m' (el s u++kp e' ks) (Ll s u++kl L' is) (.c y)) o (fb s))
    (k2:∀b u,W (G (.mk P T hT n c B0 N X Q) K' m' (ej b u++kp e' kb) (Lj b u++kl L' ib) .n) q (gk (enc b))):W (G (.mk P T hT n c B0 N X Q) K m e L cf) q ((loop fb s0).bind gk):=fun hF=>
  lp u0 ks el is0 is Ll enc kb ej ib Lj hs hF h0 (fun ro h1 s u o h2 h3=>k1 h1 s u h3 h2) fun b u h=>k2 b u h
theorem PG{ρ:Type}{id:Nat}{y:Code}{fb:Int→Option (Step Int ρ)}{s0:Int}{gk:ρ→Option β}(v:Nat)(ks:List Nat)(is:List Nat)(enc:Unit→ρ)(kb:List Nat)(ib:List Nat)
    (hs:lI T n K cf m e L=.loop id y K' m' e' L')
    (h0:U9 B0.length m' e' L' is m' ([(v,.i .i64 s0)]++kp e' ks) ([]++kl L' is)=some ([(v,.i .i64 s0)]++kp e' ks,[]++kl L' is))
    (k1:∀{ro o},gk ro=some q→∀s,(hr:∀p,o=.stop p→p=ro)→W (G (.mk P T hT n c B0 (NxP n c B0 o m' (fun s (_:Unit)=>[(v,.i .i64 s)]++kp e' ks) (fun _ _=>[]++kl L' is)) (BkR n c B0 hr enc m' (fun _ (_:Unit)=>[]++kp e' kb) (fun _ _=>[]++kl L' ib) id (XK (.mk P T hT n c B0 N X Q) K')) Q) [] m' ([(v,.i .i64 s)]++kp e' ks) ([]++kl L' is) (.c y)) o (fb s))
    (k2:W (G (.mk P T hT n c B0 N X Q) K' m' ([]++kp e' kb) ([]++kl L' ib) .n) q (gk (enc ()))):W (G (.mk P T hT n c B0 N X Q) K m e L cf) q ((loop fb s0).bind gk):=
  QX () ks (fun s (_:Unit)=>[(v,.i .i64 s)]) is is (fun _ _=>[]) enc kb (fun _ (_:Unit)=>[]) ib (fun _ _=>[]) hs h0 (fun h s _ hr=>k1 h s hr) fun _ _=>k2
theorem nQ{β:Type}{kf:α→Option β}{q:β}[aL α](E:CO α)(j:Nat){t:TypeId}{s:AC}{i:Int}{ls:List α}(hs:lI T n K cf m e L=.idx o d t s ls.length i Lv cf1 cf2 K' m' e' L')(hj:L'[j]?=some (ow s ls))(hz:hO j cf1.CS=true)
    (k:∀x,idx ls i=some x→∀y:E.ex,Shp s ls.length→W (G (.mk P T hT n c B0 N X Q) K' (m'+1) e' (L'.set j .no++([.o (yU (s.v ls.length) ls i.toNat),.box m' (E.cs x y),wOf α m' s ls.length i.toNat]++E.Lx x y)) (cf1.ext [wOf α m' s ls.length i.toNat])) q (kf x)):W (G (.mk P T hT n c B0 N X Q) K m e L cf) q ((idx ls i).bind kf):=fun hF=>oe E j hs hj hz hF fun x h1 h2 y h3=>k x h1 y h3 h2
end
noncomputable section
variable {α β ex:Type} {fo:Option α} {kf:α→Option β} {q:β} {d:Option Nat} {f:FuncId} {xs xs0:List SV} {M:List Ch} {sv:α→ex→SV} {Lr:α→ex→List Ch}
theorem aEJ(is:List Nat)
    (hs:cpS (lI T n K cf m e L)=some (o,d,f,xs,cf1,cf2,K',m',e',L')) (hi:bC (fun i=>L'[i]?) is=some M) (hx:bC (rnP [] 0) xs=some xs0)
    (hk:(SF M && (d8 is && is.all fun j=>hO j cf1.CS))=true)
    (hc:∀{κ:Ctx},HG c κ L' is→VS P κ f fo xs0 [] M sv Lr)
    (k:∀x,∀y:ex,W (G (.mk P T hT n c B0 N X Q) K' m' (dse d (sv x y) e') (SD L' is++Lr x y) cf2) q (kf x)) (hn:∀x y,(SF (Lr x y) && IC 0 (sv x y))=true:=by exact fun _ _=>rfl):W (G (.mk P T hT n c B0 N X Q) K m e L cf) q (fo.bind kf):=fun hF=>
  cw0 is hs hi hx hk hn (fun h _ hx=>hc h _ hx) hF fun x _ h y=>k x y h
theorem d6{c1:List SV}{a1:α→ex→List SV}(i1 n1 o1 k1:Nat)(is:List Nat)
    (hs:cpS (lI T n K cf m e L)=some (o,d,f,xs,cf1,cf2,K',m',e',L')) (hb:aMY L' [(i1,n1,o1,k1)]=some [c1]) (hi:bC (fun i=>L'[i]?) is=some M) (hx:bC (rnP [(i1,n1,o1,k1)] 0) xs=some xs0)
    (hk:(SF M && ([c1].all (IC.okC 0) && (d8 (i1 :: is) && (i1 :: is).all fun j=>hO j cf1.CS)))=true)
    (hc:∀{κ:Ctx},HG c κ L' (i1 :: is)→∀{b1:Nat×Nat},VS P κ f fo xs0 [b1] (.box 0 c1 :: M) sv (fun x y=>.box 0 (a1 x y) :: Lr x y))
    (k:∀x,∀y:ex,W (G (.mk P T hT n c B0 N X Q) K' m' (dse d (sv x y) e') (PM L' (SD L' (i1 :: is)++Lr x y) [(i1,n1,o1,k1)] [a1 x y]) cf2) q (kf x)) (hn:∀x y,(aEC [(i1,n1,o1,k1)] [a1 x y] && ([a1 x y].all (IC.okC 0) && (SF (Lr x y) && IC 0 (sv x y))))=true:=by exact fun _ _=>rfl):W (G (.mk P T hT n c B0 N X Q) K m e L cf) q (fo.bind kf):=fun hF=>
  cw1 i1 n1 o1 k1 is hs hb hi hx hk hn (fun h _ _ hx=>hc h _ hx) hF fun x _ h y=>k x y h
theorem aAR{c1 c2:List SV}{a1 a2:α→ex→List SV}(i1 n1 o1 k1:Nat)(i2 n2 o2 k2:Nat)(is:List Nat)
    (hs:cpS (lI T n K cf m e L)=some (o,d,f,xs,cf1,cf2,K',m',e',L')) (hb:aMY L' [(i1,n1,o1,k1),(i2,n2,o2,k2)]=some [c1,c2]) (hi:bC (fun i=>L'[i]?) is=some M) (hx:bC (rnP [(i1,n1,o1,k1),(i2,n2,o2,k2)] 0) xs=some xs0)
    (hk:(SF M && ([c1,c2].all (IC.okC 0) && (d8 (i1 :: i2 :: is) && (i1 :: i2 :: is).all fun j=>hO j cf1.CS)))=true)
    (hc:∀{κ:Ctx},HG c κ L' (i1 :: i2 :: is)→∀{b1 b2:Nat×Nat},VS P κ f fo xs0 [b1,b2] (.box 0 c1 :: .box 1 c2 :: M) sv (fun x y=>.box 0 (a1 x y) :: .box 1 (a2 x y) :: Lr x y))
    (k:∀x,∀y:ex,W (G (.mk P T hT n c B0 N X Q) K' m' (dse d (sv x y) e') (PM L' (SD L' (i1 :: i2 :: is)++Lr x y) [(i1,n1,o1,k1),(i2,n2,o2,k2)] [a1 x y,a2 x y]) cf2) q (kf x)) (hn:∀x y,(aEC [(i1,n1,o1,k1),(i2,n2,o2,k2)] [a1 x y,a2 x y] && ([a1 x y,a2 x y].all (IC.okC 0) && (SF (Lr x y) && IC 0 (sv x y))))=true:=by exact fun _ _=>rfl):W (G (.mk P T hT n c B0 N X Q) K m e L cf) q (fo.bind kf):=fun hF=>
  cw2 i1 n1 o1 k1 i2 n2 o2 k2 is hs hb hi hx hk hn (fun h _ _ _ hx=>hc h _ hx) hF fun x _ h y=>k x y h
end
theorem aHM{α β:Type}{iR:aL α}{C:LS α}{sr:β→SV}{g:FuncId}{w:World}{p:α→Option β}(hc:∀args w,(callFunc g args).run P w=.ok (.enter g args) w)(hn:∀{κ:Ctx} {x y},C.sub κ.S0 κ.w0 x y→V0 P κ g (p x) [C.sv x y] sr):Fu1 P (c9 w) C sr g [] p:=fu1 hc (by intro κ x y h q hq;exact hn h _ hq)
theorem aPP{α β:Type}{iR:aL α}{C:LS α}{sr:β→SV}{g:FuncId}{w:World}{Bs:Bl}{cs:List (Nat×List SV)}{p:α→Option β}(hc:∀args w,(callFunc g args).run P w=.ok (.enter g args) w)(hB:∀w1,gU F0 w w1→nT (c9 w1) w1 Bs (roL 0 cs))(hl:bC (gK Bs) (aV9 0 cs)=some (aEA Bs))(hn:∀{w1 x y},gU F0 w w1→C.sub (RV w1) w1 x y→VS P (c9 w1) g (p x) (C.sv x y :: aV9 0 cs) Bs (roL 0 cs) (fun r (_:Unit)=>sr r) (fun _ _=>[]))(hz:∀q,IC 0 (sr q)=true:=by exact fun _=>rfl):Fu1 P (c9 w) C sr g (aEA Bs) p:=fk1 hc hB hl hz (by intro w1 x y h h' q hq;exact hn h h' _ hq)
noncomputable section
variable {α β:Type} {fo:Option α} {kf:α→Option β} {q:β} {d:Nat} {f g:FuncId} {xs:List SV} {sv:α→SV}
theorem aPQ{n1:Nat}{c1:List SV}(is:List Nat)(hs:lI T n K cf m e L=.callp o (some d) f xs cf1 cf2 K' m' e' L')(hk:kl L' is=[.ro n1 c1])(ho:(aMU [(n1,c1)] && okA xs.dropLast)=true)(hx:xs=xs.dropLast ++ [.f g [n1]])
    (hc:∀{w},HS c w L'→∀{b1:Nat×Nat},(∀w1,gU F0 w w1→nT (c9 w1) w1 [b1] [.ro 0 c1])→V0 P (c9 w) f fo (xs.dropLast ++ [.k (.func (.func g) #[] (aEA [b1]).toArray)]) sv)
    (k:∀x,W (G (.mk P T hT n c B0 N X Q) K' m' ((d,sv x) :: e') L' cf2) q (kf x)):W (G (.mk P T hT n c B0 N X Q) K m e L cf) q (fo.bind kf):=fun hF=>
  a7L is hs hk ho hx (fun h _ h2 _ hx=>hc h h2 _ hx) hF fun x _ h=>k x h
end
end
end Go.Gv
end
noncomputable section
namespace Go.Gv
def pV(y:Nat×Nat):Value:=.pointer (some ⟨y.1,y.2,none⟩)
noncomputable section
variable {P:Program} {T:TT} {hT:HQ P T} {n:Nat} {c:Ctx} {B0:Bl} {N:Act→World→Prop} {X:Nat→Act→World→Prop} {Q:Act→World→Prop} {K K':List Fr} {m m':Nat} {e e':SE} {L L':List Ch} {cf cf1 cf2:yW} {o:Oper}
abbrev VP(P:Program)(c:Ctx)(f:FuncId){ρ:Type}(F:Option ρ)(xs:List SV)(cs:ρ→List SV):Prop:=VS P c f F xs [] [] (fun _ (y:Nat×Nat)=>.k (pV y)) (fun r y=>[.o (RX [y] 0 (cs r))])
theorem rtP{fn:Func}{ρ:Type}{r r':ρ}{t:Nat}{hr:fn.results=[ResultVar.tmp t].toArray}{zz:Option ρ}{cs:ρ→List SV}(is:List Nat)(hz:zz=some r')(hs:lI T n K cf m e L=.ret m' e' L')(hL:U9 0 m' e' L' is 1 [(t,.p 0 0)] [.box 0 (cs r')]=some ([(t,.p 0 0)],[.box 0 (cs r')]))(ho:IC.okC 0 (cs r')=true):W (G (.mk P T hT n c [] N X (QR P fn hr c [] (fun _ (y:Nat×Nat)=>.k (pV y)) (fun r y=>[.o (RX [y] 0 (cs r))]) r)) K m e L cf) r zz:=fun hF=>by
  subst hz;cases hF
  refine hQ (g:=.mk P T hT n c [] N X _) ?_
  rw [hs]
  intro a w hr'
  obtain⟨B,hm,hA,hS⟩:=rT.U9 hr' is hL
  have hB:∃y,B=[y]:=by
    cases B with
    | nil=>simp at hm
    | cons y B => cases B with
      | nil=>exact⟨y,rfl⟩
      | cons z B=>simp at hm
  obtain⟨y,rfl⟩:=hB
  have hS:nT c w [y] [.box 0 (cs r)]:=hS
  have hA:gN n [y] [(t,.p 0 0)] a:=hA
  have hv:aKC T [(t,.p 0 0)] [.box 0 (cs r)] [ResultVar.tmp t]=some (.p 0 0):=by simp [aKC,aVI,E6]
  obtain⟨v,h1,h2⟩:=aC8 hr hT hA hS hv
  have hv':v=pV y:=by
    simp only [gK,gV,b7,List.getElem?_cons_zero] at h1
    cases h1;rfl
  subst hv'
  refine⟨hA.d,_,h2,y,by simp [gK,gV,b7,pV,Value.oneCell'],?_⟩
  obtain⟨⟨R,s1,s2⟩,s0⟩:=hS
  exact⟨⟨R,s1.imp (.cons (fun F h=>h) .nil),fun x hx=>by rcases List.mem_cons.1 hx with rfl | hx <;> first | trivial | simp at hx⟩,s0⟩
theorem cP{α β:Type}{fo:Option α}{kf:α→Option β}{q:β}{d:Nat}{f:FuncId}{xs:List SV}{cs:α→List SV}(hs:lI T n K cf m e L=.call o (some d) f xs cf1 cf2 K' m' e' L')
    (hc:∀{w},HS c w L'→VP P (c9 w) f fo xs cs) (k:∀x,W (G (.mk P T hT n c B0 N X Q) K' (m'+1) ((d,.p m' 0) :: e') (L' ++ [.box m' (cs x)]) cf2) q (kf x)) (hk:∀x,IC.okC 0 (cs x)=true:=by exact fun _=>rfl):W (G (.mk P T hT n c B0 N X Q) K m e L cf) q (fo.bind kf):=fun hF=>by
  refine hQ (g:=.mk P T hT n c B0 N X Q) ?_
  rw [hs]
  intro fo' args ats ho hd hf ⟨ys,hys,hxs⟩ hA0 hdn hE
  subst hxs
  cases hfo:fo with
  | none=>rw [hfo] at hF;cases hF
  | some x =>
    rw [hfo] at hF
    refine hE Unit (fun _=>m'+1) (fun _=>(d,.p m' 0) :: e') (fun _=>L' ++ [.box m' (cs x)]) (fun _=>A1 _) (fun B a w next Q' hm hA hS hnext=>?_) (fun _=>k x hF)
    obtain⟨hcall,hrun⟩:=hc ⟨_,hS⟩ x hfo
    obtain⟨vs,h1,h2⟩:=aAF hA hys
    obtain⟨v,h3,h4⟩:=eZ hA hf
    simp [gK,bC] at h3
    subst h3
    have h5:=hrun vs (aC9 hA0 (by rw [UM];exact h1)) (aKO w)
    have h6:=XD (w:=w) hcall ho h4 h2
    unfold Oper.wp
    rw [h6 _ a hA.env,Oper.upon_enter]
    refine Calls.mono h5 fun en w' ⟨v,hv,y,g1,g2⟩=>?_
    subst hv
    rw [hd]
    have hv':v=pV y:=by simpa [gK,gV,b7,pV,Value.oneCell'] using g1.symm
    subst hv'
    have hb:∀{F:dB},(RX [y] 0 (cs x)).P w' F→(RX ((W4 (.mk P T hT n c B0 N X Q) cf1++B) ++ [y]) m' (cs x)).P w' F:=fun⟨b,z,us,k1,k2,k3⟩=>by
      simp only [List.getElem?_cons_zero,Option.some.injEq] at k1
      refine⟨y.1,y.2,us,?_,?_,by rw [k1];exact k3⟩
      · rw [List.getElem?_append_right (by omega),hm];simp
      · simpa using fU (fun x v h=>by simpa using gZ (B:=[]) (W4 (.mk P T hT n c B0 N X Q) cf1++B ++ [y]) h) (II (hk x) k2)
    have g3:gK ((W4 (.mk P T hT n c B0 N X Q) cf1++B) ++ [y]) (.p m' 0)=some (pV y):=by
      simp only [gK,gV,b7]
      rw [List.getElem?_append_right (by omega),hm]
      simp [pV]
    refine hnext () _ _ ⟨[y],by simp only [List.length_append,List.length_cons,List.length_nil] at hm ⊢;omega,hA.ext g3 (hA.env.put (by simpa [tE,Nat.blt_eq] using hdn) _),?_⟩
    obtain⟨⟨R,s1,s2⟩,s0⟩:=(hS.after (L2:=[.o (RX [y] 0 (cs x))]) rfl g2).app [y]
    refine⟨⟨R,s1.imp ?_,fun z hz=>?_⟩,s0⟩
    · rw [List.map_append,List.map_append]
      exact j6.append (j6.refl _) (.cons (fun F h=>hb h) .nil)
    · rcases List.mem_append.1 hz with hz | hz
      · exact s2 z (List.mem_append_left _ hz)
      · rcases List.mem_cons.1 hz with rfl | hz <;> first | trivial | simp at hz
def a3W(b:Bool)(off sz:Nat)(cs:List SV):Option SV:=match b with
  | true=>some (.g ((cs.drop off).take sz))
  | false => match cs[off]? with
    | some x => match x with
      | .g _=>none
      | .t _=>none
      | .f _ _=>none
      | .u=>none
      | y=>some y
    | none=>none
theorem SG{α:Type}{F0:Option α}{q:α}{t ix sz d:Nat}{b:Bool}{k:TK}{z cs:List SV}{Fs:Array Field}{F:Field}{x:Operand}{r:SV}{Lv:List Ch}(hu:P.underlying t=some (.struct Fs))(hf:Fs[ix]?=some F)(hl:CQ T F.type=some ⟨k,b,sz,z⟩)(hs:opS (lI T n K cf m e L)=some (o,Lv,cf1,cf2,K',m',e',L'))(ho:(o.op,o.dst)=(.field t x ix,some d))(hx:jQ e' x=some (.g cs))(hr:a3W b F.offset sz cs=some r)(hz:(!b || Nat.ble (F.offset+sz) cs.length)=true)
    (kk:W (G (.mk P T hT n c B0 N X Q) K' m' ((d,r) :: e') L' cf2) q F0):W (G (.mk P T hT n c B0 N X Q) K m e L cf) q F0:=fun hF=>
  pu hs (congrArg Prod.snd ho) (fun B a w hA _=>by
    obtain⟨v,h1,h2⟩:=eZ hA hx
    simp only [gK,gV] at h1
    split at h1
    case h_2=>cases h1
    rename_i vs hv
    cases h1
    have hlen:=mB hv
    have h0:o.op=.field t x ix:=congrArg Prod.fst ho
    have hag:=hT.agg _ _ hl
    have hsz:=hT.size _ _ hl
    cases b with
    | true =>
      have hz':=Nat.le_of_ble_eq_true (by simpa using hz)
      simp only [a3W] at hr;cases hr
      refine⟨.agg ((vs.drop F.offset).take sz).toArray,by simp only [gK,gV,OD sz (OC F.offset hv)],fun _ a hA=>?_⟩
      have e:vs.toArray.extract F.offset (F.offset+sz)=((vs.drop F.offset).take sz).toArray:=by
        apply Array.ext'
        simp [List.extract_eq_take_drop]
      simp [execOp,h0,hA.eval h2,Instr.field,run_underlying hu,hf,part,asAgg,hag,hsz,e]
    | false =>
      simp only [a3W] at hr
      split at hr
      case h_2=>cases hr
      rename_i y hy
      obtain⟨u,h4,h5⟩:=OB hv hy
      have hr':r=y:=by cases y <;> simp at hr <;> exact hr.symm
      subst hr'
      refine⟨u,aRB h4,fun _ a hA=>?_⟩
      simp [execOp,h0,hA.eval h2,Instr.field,run_underlying hu,hf,part,asAgg,hag,h5]) (kk hF)
end
end Go.Gv
end
noncomputable section
namespace Go.Gv
noncomputable section
variable {n:Nat} {c:Ctx} {B0:Bl} {m:Nat} {e:SE} {L:List Ch}
def kf(L xs:List Ch)(k:Nat):List Nat→List Ch
  | []=>[]
  | i :: is => match Nat.blt i k with
    | true => match L[i]? with
      | some x=>x :: kf L xs k is
      | none=>kf L xs k is
    | false => match xs[i - k]? with
      | some x=>x :: kf L xs k is
      | none=>kf L xs k is
end
end Go.Gv
end
noncomputable section
namespace Go.Gv
structure aE where
  Bytes:List Int
  Class:List Int
  deriving DecidableEq,Inhabited
instance:aL aE:=aL.via (fun d=>(d.Bytes,d.Class))
instance:Fits aE:=Fits.via (fun d=>(d.Bytes,d.Class))
structure aR where
  aS:List Int
  deriving DecidableEq,Inhabited
instance:aL aR:=aL.via (fun d=>(d.aS))
instance:Fits aR:=Fits.via (fun d=>(d.aS))
theorem aM8{S:dB}{w:World}{cs:List Value}{d:aR}(h:aL.rd S w cs d):∃v0:Value,cs=[v0]∧aL.rd S w [v0] d.aS:=by
  obtain⟨u0,q0⟩:=LR h
  rw [q0] at h
  exact⟨u0,q0,h⟩
theorem CT(d:aR){v0:Value}:OP [v0] d [gO [v0] d.aS]:=(show OP (α:=(List Int)) _ (d.aS) _ from aO6)
theorem _root_.Go.Gv.St.aWR{c:Ctx}{L:List Chunk}{R:List Fact}{w:World}{s:Value}{l:List aR}{i:Nat}{x:aR}(h:St c w L R)(j:Nat)(hj:R[j]?=some (CP [s] l))(hi:l[i]?=some x):∃v0:Value,cD w (R4 s) (RW 1 i s) [v0]∧St c w L (R ++ [CP [v0] x.aS]):=by
  obtain⟨S,hS,hk⟩:=h.aUM hj
  obtain⟨ec,h1,h2⟩:=aME hS hi
  obtain⟨v0,q,q0⟩:=aM8 h2
  rw [q] at h1
  exact⟨v0,h1,hk _ (by intro f hf;simp only [List.mem_cons,List.not_mem_nil,or_false] at hf;subst hf;exact q0)⟩
structure aD where
  Global:List aR
  cT:List aR
  deriving DecidableEq,Inhabited
instance:aL aD:=aL.via (fun d=>(d.Global,d.cT))
instance:Fits aD:=Fits.via (fun d=>(d.Global,d.cT))
structure Mem where
  aE:aE
  aD:aD
  deriving DecidableEq,Inhabited
instance:aL Mem:=aL.via (fun d=>(d.aE,d.aD))
instance:Fits Mem:=Fits.via (fun d=>(d.aE,d.aD))
structure qA where
  On:Bool
  aJ:Int
  dJ:Bool
  Seen:Int
  deriving DecidableEq,Inhabited
instance:aL qA:=aL.via (fun d=>(d.On,d.aJ,d.dJ,d.Seen))
instance:Fits qA:=Fits.via (fun d=>(d.On,d.aJ,d.dJ,d.Seen))
theorem a3X{S:dB}{w:World}{cs:List Value}{d:qA}(h:aL.rd S w cs d):cs=[.bool (d.On),.int .i64 (d.aJ),.bool (d.dJ),.int .i64 (d.Seen)]:=by
  obtain⟨c0,r0,e0,h0,n0⟩:=h
  have q0:c0=[_]:=h0
  obtain⟨c1,r1,e1,h1,n1⟩:=n0
  have q1:c1=[_]:=h1
  obtain⟨c2,r2,e2,h2,n2⟩:=n1
  have q2:c2=[_]:=h2
  have q3:r2=[_]:=n2
  exact by rw [e0,e1,e2,q0,q1,q2,q3];rfl
theorem aWS{S:dB}{w:World}(d:qA):aL.rd S w [.bool (d.On),.int .i64 (d.aJ),.bool (d.dJ),.int .i64 (d.Seen)] d:=⟨[.bool (d.On)],[.int .i64 (d.aJ),.bool (d.dJ),.int .i64 (d.Seen)],rfl,rfl,⟨[.int .i64 (d.aJ)],[.bool (d.dJ),.int .i64 (d.Seen)],rfl,rfl,⟨[.bool (d.dJ)],[.int .i64 (d.Seen)],rfl,rfl,rfl⟩⟩⟩
instance:Flat qA:=⟨fun h=>Flat.own_of (α:=Bool×Int×Bool×Int) h,fun h=>Flat.no (α:=Bool×Int×Bool×Int) h⟩
theorem a3Y(d:qA):OP [.bool (d.On),.int .i64 (d.aJ),.bool (d.dJ),.int .i64 (d.Seen)] d []:=(show OP (α:=Bool×Int×Bool×Int) _ (d.On,d.aJ,d.dJ,d.Seen) _ from (kO (c1:=[.bool (d.On)]) (c2:=[.int .i64 (d.aJ),.bool (d.dJ),.int .i64 (d.Seen)]) (A:=[]) (B:=[]) (gJ rfl) (kO (c1:=[.int .i64 (d.aJ)]) (c2:=[.bool (d.dJ),.int .i64 (d.Seen)]) (A:=[]) (B:=[]) (gJ rfl) (kO (c1:=[.bool (d.dJ)]) (c2:=[.int .i64 (d.Seen)]) (A:=[]) (B:=[]) (gJ rfl) (gJ rfl) rfl) rfl) rfl))
structure aC where
  aJ:Int
  cK:List qA
  deriving DecidableEq,Inhabited
instance:aL aC:=aL.via (fun d=>(d.aJ,d.cK))
instance:Fits aC:=Fits.via (fun d=>(d.aJ,d.cK))
structure dO where
  Handle:Int
  aJ:Int
  deriving DecidableEq,Inhabited
instance:aL dO:=aL.via (fun d=>(d.Handle,d.aJ))
instance:Fits dO:=Fits.via (fun d=>(d.Handle,d.aJ))
theorem aR5{S:dB}{w:World}{cs:List Value}{d:dO}(h:aL.rd S w cs d):cs=[.int .i64 (d.Handle),.int .i64 (d.aJ)]:=by
  obtain⟨c0,r0,e0,h0,n0⟩:=h
  have q0:c0=[_]:=h0
  have q1:r0=[_]:=n0
  exact by rw [e0,q0,q1];rfl
theorem a0H{S:dB}{w:World}(d:dO):aL.rd S w [.int .i64 (d.Handle),.int .i64 (d.aJ)] d:=⟨[.int .i64 (d.Handle)],[.int .i64 (d.aJ)],rfl,rfl,rfl⟩
instance:Flat dO:=⟨fun h=>Flat.own_of (α:=Int×Int) h,fun h=>Flat.no (α:=Int×Int) h⟩
theorem a0I(d:dO):OP [.int .i64 (d.Handle),.int .i64 (d.aJ)] d []:=(show OP (α:=Int×Int) _ (d.Handle,d.aJ) _ from (kO (c1:=[.int .i64 (d.Handle)]) (c2:=[.int .i64 (d.aJ)]) (A:=[]) (B:=[]) (gJ rfl) (gJ rfl) rfl))
theorem a0J{S:dB}{w:World}{s:Value}{l:List dO}{i:Nat}{x:dO}(h:aL.rd S w [s] l)(hi:l[i]?=some x):cD w (R4 s) (RW 2 i s) [.int .i64 (x.Handle),.int .i64 (x.aJ)]:=by
  obtain⟨ec,h1,h2⟩:=aME h hi
  rw [aR5 h2] at h1;exact h1
structure bB where
  Rows:List dO
  deriving DecidableEq,Inhabited
instance:aL bB:=aL.via (fun d=>(d.Rows))
instance:Fits bB:=Fits.via (fun d=>(d.Rows))
theorem aM9{S:dB}{w:World}{cs:List Value}{d:bB}(h:aL.rd S w cs d):∃v0:Value,cs=[v0]∧aL.rd S w [v0] d.Rows:=by
  obtain⟨u0,q0⟩:=LR h
  rw [q0] at h
  exact⟨u0,q0,h⟩
theorem aEK(d:bB){v0:Value}:OP [v0] d [gO [v0] d.Rows]:=(show OP (α:=(List dO)) _ (d.Rows) _ from aO6)
theorem _root_.Go.Gv.St.aNA{c:Ctx}{L:List Chunk}{R:List Fact}{w:World}{s:Value}{l:List bB}{i:Nat}{x:bB}(h:St c w L R)(j:Nat)(hj:R[j]?=some (CP [s] l))(hi:l[i]?=some x):∃v0:Value,cD w (R4 s) (RW 1 i s) [v0]∧St c w L (R ++ [CP [v0] x.Rows]):=by
  obtain⟨S,hS,hk⟩:=h.aUM hj
  obtain⟨ec,h1,h2⟩:=aME hS hi
  obtain⟨v0,q,q0⟩:=aM9 h2
  rw [q] at h1
  exact⟨v0,h1,hk _ (by intro f hf;simp only [List.mem_cons,List.not_mem_nil,or_false] at hf;subst hf;exact q0)⟩
structure aA where
  Mem:Mem
  aC:aC
  aM:List bB
  mP:List Int
  deriving DecidableEq,Inhabited
instance:aL aA:=aL.via (fun d=>(d.Mem,d.aC,d.aM,d.mP))
instance:Fits aA:=Fits.via (fun d=>(d.Mem,d.aC,d.aM,d.mP))
structure bK where
  Kind:Int
  Cell:Int
  gP:Int
  dK:Int
  deriving DecidableEq,Inhabited
instance:aL bK:=aL.via (fun d=>(d.Kind,d.Cell,d.gP,d.dK))
instance:Fits bK:=Fits.via (fun d=>(d.Kind,d.Cell,d.gP,d.dK))
theorem aWT{S:dB}{w:World}{cs:List Value}{d:bK}(h:aL.rd S w cs d):cs=[.int .i64 (d.Kind),.int .i64 (d.Cell),.int .i64 (d.gP),.int .i64 (d.dK)]:=by
  obtain⟨c0,r0,e0,h0,n0⟩:=h
  have q0:c0=[_]:=h0
  obtain⟨c1,r1,e1,h1,n1⟩:=n0
  have q1:c1=[_]:=h1
  obtain⟨c2,r2,e2,h2,n2⟩:=n1
  have q2:c2=[_]:=h2
  have q3:r2=[_]:=n2
  exact by rw [e0,e1,e2,q0,q1,q2,q3];rfl
theorem aKU{S:dB}{w:World}(d:bK):aL.rd S w [.int .i64 (d.Kind),.int .i64 (d.Cell),.int .i64 (d.gP),.int .i64 (d.dK)] d:=⟨[.int .i64 (d.Kind)],[.int .i64 (d.Cell),.int .i64 (d.gP),.int .i64 (d.dK)],rfl,rfl,⟨[.int .i64 (d.Cell)],[.int .i64 (d.gP),.int .i64 (d.dK)],rfl,rfl,⟨[.int .i64 (d.gP)],[.int .i64 (d.dK)],rfl,rfl,rfl⟩⟩⟩
instance:Flat bK:=⟨fun h=>Flat.own_of (α:=Int×Int×Int×Int) h,fun h=>Flat.no (α:=Int×Int×Int×Int) h⟩
theorem a3Z(d:bK):OP [.int .i64 (d.Kind),.int .i64 (d.Cell),.int .i64 (d.gP),.int .i64 (d.dK)] d []:=(show OP (α:=Int×Int×Int×Int) _ (d.Kind,d.Cell,d.gP,d.dK) _ from (kO (c1:=[.int .i64 (d.Kind)]) (c2:=[.int .i64 (d.Cell),.int .i64 (d.gP),.int .i64 (d.dK)]) (A:=[]) (B:=[]) (gJ rfl) (kO (c1:=[.int .i64 (d.Cell)]) (c2:=[.int .i64 (d.gP),.int .i64 (d.dK)]) (A:=[]) (B:=[]) (gJ rfl) (kO (c1:=[.int .i64 (d.gP)]) (c2:=[.int .i64 (d.dK)]) (A:=[]) (B:=[]) (gJ rfl) (gJ rfl) rfl) rfl) rfl))
structure Sub where
  Kind:Int
  A:Int
  Pc:Int
  E:Int
  Row:Int
  B:Int
  H:Int
  Out:Int
  Code:Int
  cW:Bool
  deriving DecidableEq,Inhabited
instance:aL Sub:=aL.via (fun d=>(d.Kind,d.A,d.Pc,d.E,d.Row,d.B,d.H,d.Out,d.Code,d.cW))
instance:Fits Sub:=Fits.via (fun d=>(d.Kind,d.A,d.Pc,d.E,d.Row,d.B,d.H,d.Out,d.Code,d.cW))
theorem a30{S:dB}{w:World}{cs:List Value}{d:Sub}(h:aL.rd S w cs d):cs=[.int .i64 (d.Kind),.int .i64 (d.A),.int .i64 (d.Pc),.int .i64 (d.E),.int .i64 (d.Row),.int .i64 (d.B),.int .i64 (d.H),.int .i64 (d.Out),.int .i64 (d.Code),.bool (d.cW)]:=by
  obtain⟨c0,r0,e0,h0,n0⟩:=h
  have q0:c0=[_]:=h0
  obtain⟨c1,r1,e1,h1,n1⟩:=n0
  have q1:c1=[_]:=h1
  obtain⟨c2,r2,e2,h2,n2⟩:=n1
  have q2:c2=[_]:=h2
  obtain⟨c3,r3,e3,h3,n3⟩:=n2
  have q3:c3=[_]:=h3
  obtain⟨c4,r4,e4,h4,n4⟩:=n3
  have q4:c4=[_]:=h4
  obtain⟨c5,r5,e5,h5,n5⟩:=n4
  have q5:c5=[_]:=h5
  obtain⟨c6,r6,e6,h6,n6⟩:=n5
  have q6:c6=[_]:=h6
  obtain⟨c7,r7,e7,h7,n7⟩:=n6
  have q7:c7=[_]:=h7
  obtain⟨c8,r8,e8,h8,n8⟩:=n7
  have q8:c8=[_]:=h8
  have q9:r8=[_]:=n8
  exact by rw [e0,e1,e2,e3,e4,e5,e6,e7,e8,q0,q1,q2,q3,q4,q5,q6,q7,q8,q9];rfl
theorem aWU{S:dB}{w:World}(d:Sub):aL.rd S w [.int .i64 (d.Kind),.int .i64 (d.A),.int .i64 (d.Pc),.int .i64 (d.E),.int .i64 (d.Row),.int .i64 (d.B),.int .i64 (d.H),.int .i64 (d.Out),.int .i64 (d.Code),.bool (d.cW)] d:=⟨[.int .i64 (d.Kind)],[.int .i64 (d.A),.int .i64 (d.Pc),.int .i64 (d.E),.int .i64 (d.Row),.int .i64 (d.B),.int .i64 (d.H),.int .i64 (d.Out),.int .i64 (d.Code),.bool (d.cW)],rfl,rfl,⟨[.int .i64 (d.A)],[.int .i64 (d.Pc),.int .i64 (d.E),.int .i64 (d.Row),.int .i64 (d.B),.int .i64 (d.H),.int .i64 (d.Out),.int .i64 (d.Code),.bool (d.cW)],rfl,rfl,⟨[.int .i64 (d.Pc)],[.int .i64 (d.E),.int .i64 (d.Row),.int .i64 (d.B),.int .i64 (d.H),.int .i64 (d.Out),.int .i64 (d.Code),.bool (d.cW)],rfl,rfl,⟨[.int .i64 (d.E)],[.int .i64 (d.Row),.int .i64 (d.B),.int .i64 (d.H),.int .i64 (d.Out),.int .i64 (d.Code),.bool (d.cW)],rfl,rfl,⟨[.int .i64 (d.Row)],[.int .i64 (d.B),.int .i64 (d.H),.int .i64 (d.Out),.int .i64 (d.Code),.bool (d.cW)],rfl,rfl,⟨[.int .i64 (d.B)],[.int .i64 (d.H),.int .i64 (d.Out),.int .i64 (d.Code),.bool (d.cW)],rfl,rfl,⟨[.int .i64 (d.H)],[.int .i64 (d.Out),.int .i64 (d.Code),.bool (d.cW)],rfl,rfl,⟨[.int .i64 (d.Out)],[.int .i64 (d.Code),.bool (d.cW)],rfl,rfl,⟨[.int .i64 (d.Code)],[.bool (d.cW)],rfl,rfl,rfl⟩⟩⟩⟩⟩⟩⟩⟩⟩
instance:Flat Sub:=⟨fun h=>Flat.own_of (α:=Int×Int×Int×Int×Int×Int×Int×Int×Int×Bool) h,fun h=>Flat.no (α:=Int×Int×Int×Int×Int×Int×Int×Int×Int×Bool) h⟩
structure bD where
  cY:Bool
  Op:bK
  aI:Int
  Pc:Int
  Sub:Sub
  H:Int
  Old:Int
  dK:Int
  Code:Int
  deriving DecidableEq,Inhabited
instance:aL bD:=aL.via (fun d=>(d.cY,d.Op,d.aI,d.Pc,d.Sub,d.H,d.Old,d.dK,d.Code))
instance:Fits bD:=Fits.via (fun d=>(d.cY,d.Op,d.aI,d.Pc,d.Sub,d.H,d.Old,d.dK,d.Code))
theorem a31{S:dB}{w:World}{cs:List Value}{d:bD}(h:aL.rd S w cs d):cs=[.bool (d.cY),.int .i64 (d.Op.Kind),.int .i64 (d.Op.Cell),.int .i64 (d.Op.gP),.int .i64 (d.Op.dK),.int .i64 (d.aI),.int .i64 (d.Pc),.int .i64 (d.Sub.Kind),.int .i64 (d.Sub.A),.int .i64 (d.Sub.Pc),.int .i64 (d.Sub.E),.int .i64 (d.Sub.Row),.int .i64 (d.Sub.B),.int .i64 (d.Sub.H),.int .i64 (d.Sub.Out),.int .i64 (d.Sub.Code),.bool (d.Sub.cW),.int .i64 (d.H),.int .i64 (d.Old),.int .i64 (d.dK),.int .i64 (d.Code)]:=by
  obtain⟨c0,r0,e0,h0,n0⟩:=h
  have q0:c0=[_]:=h0
  obtain⟨c1,r1,e1,h1,n1⟩:=n0
  have q1:=aWT h1
  obtain⟨c2,r2,e2,h2,n2⟩:=n1
  have q2:c2=[_]:=h2
  obtain⟨c3,r3,e3,h3,n3⟩:=n2
  have q3:c3=[_]:=h3
  obtain⟨c4,r4,e4,h4,n4⟩:=n3
  have q4:=a30 h4
  obtain⟨c5,r5,e5,h5,n5⟩:=n4
  have q5:c5=[_]:=h5
  obtain⟨c6,r6,e6,h6,n6⟩:=n5
  have q6:c6=[_]:=h6
  obtain⟨c7,r7,e7,h7,n7⟩:=n6
  have q7:c7=[_]:=h7
  have q8:r7=[_]:=n7
  exact by rw [e0,e1,e2,e3,e4,e5,e6,e7,q0,q1,q2,q3,q4,q5,q6,q7,q8];rfl
theorem uQ{S:dB}{w:World}(d:bD):aL.rd S w [.bool (d.cY),.int .i64 (d.Op.Kind),.int .i64 (d.Op.Cell),.int .i64 (d.Op.gP),.int .i64 (d.Op.dK),.int .i64 (d.aI),.int .i64 (d.Pc),.int .i64 (d.Sub.Kind),.int .i64 (d.Sub.A),.int .i64 (d.Sub.Pc),.int .i64 (d.Sub.E),.int .i64 (d.Sub.Row),.int .i64 (d.Sub.B),.int .i64 (d.Sub.H),.int .i64 (d.Sub.Out),.int .i64 (d.Sub.Code),.bool (d.Sub.cW),.int .i64 (d.H),.int .i64 (d.Old),.int .i64 (d.dK),.int .i64 (d.Code)] d:=⟨[.bool (d.cY)],[.int .i64 (d.Op.Kind),.int .i64 (d.Op.Cell),.int .i64 (d.Op.gP),.int .i64 (d.Op.dK),.int .i64 (d.aI),.int .i64 (d.Pc),.int .i64 (d.Sub.Kind),.int .i64 (d.Sub.A),.int .i64 (d.Sub.Pc),.int .i64 (d.Sub.E),.int .i64 (d.Sub.Row),.int .i64 (d.Sub.B),.int .i64 (d.Sub.H),.int .i64 (d.Sub.Out),.int .i64 (d.Sub.Code),.bool (d.Sub.cW),.int .i64 (d.H),.int .i64 (d.Old),.int .i64 (d.dK),.int .i64 (d.Code)],rfl,rfl,⟨[.int .i64 (d.Op.Kind),.int .i64 (d.Op.Cell),.int .i64 (d.Op.gP),.int .i64 (d.Op.dK)],[.int .i64 (d.aI),.int .i64 (d.Pc),.int .i64 (d.Sub.Kind),.int .i64 (d.Sub.A),.int .i64 (d.Sub.Pc),.int .i64 (d.Sub.E),.int .i64 (d.Sub.Row),.int .i64 (d.Sub.B),.int .i64 (d.Sub.H),.int .i64 (d.Sub.Out),.int .i64 (d.Sub.Code),.bool (d.Sub.cW),.int .i64 (d.H),.int .i64 (d.Old),.int .i64 (d.dK),.int .i64 (d.Code)],rfl,(aKU _),⟨[.int .i64 (d.aI)],[.int .i64 (d.Pc),.int .i64 (d.Sub.Kind),.int .i64 (d.Sub.A),.int .i64 (d.Sub.Pc),.int .i64 (d.Sub.E),.int .i64 (d.Sub.Row),.int .i64 (d.Sub.B),.int .i64 (d.Sub.H),.int .i64 (d.Sub.Out),.int .i64 (d.Sub.Code),.bool (d.Sub.cW),.int .i64 (d.H),.int .i64 (d.Old),.int .i64 (d.dK),.int .i64 (d.Code)],rfl,rfl,⟨[.int .i64 (d.Pc)],[.int .i64 (d.Sub.Kind),.int .i64 (d.Sub.A),.int .i64 (d.Sub.Pc),.int .i64 (d.Sub.E),.int .i64 (d.Sub.Row),.int .i64 (d.Sub.B),.int .i64 (d.Sub.H),.int .i64 (d.Sub.Out),.int .i64 (d.Sub.Code),.bool (d.Sub.cW),.int .i64 (d.H),.int .i64 (d.Old),.int .i64 (d.dK),.int .i64 (d.Code)],rfl,rfl,⟨[.int .i64 (d.Sub.Kind),.int .i64 (d.Sub.A),.int .i64 (d.Sub.Pc),.int .i64 (d.Sub.E),.int .i64 (d.Sub.Row),.int .i64 (d.Sub.B),.int .i64 (d.Sub.H),.int .i64 (d.Sub.Out),.int .i64 (d.Sub.Code),.bool (d.Sub.cW)],[.int .i64 (d.H),.int .i64 (d.Old),.int .i64 (d.dK),.int .i64 (d.Code)],rfl,(aWU _),⟨[.int .i64 (d.H)],[.int .i64 (d.Old),.int .i64 (d.dK),.int .i64 (d.Code)],rfl,rfl,⟨[.int .i64 (d.Old)],[.int .i64 (d.dK),.int .i64 (d.Code)],rfl,rfl,⟨[.int .i64 (d.dK)],[.int .i64 (d.Code)],rfl,rfl,rfl⟩⟩⟩⟩⟩⟩⟩⟩
instance:Flat bD:=⟨fun h=>Flat.own_of (α:=Bool×bK×Int×Int×Sub×Int×Int×Int×Int) h,fun h=>Flat.no (α:=Bool×bK×Int×Int×Sub×Int×Int×Int×Int) h⟩
theorem a32(d:bD):OP [.bool (d.cY),.int .i64 (d.Op.Kind),.int .i64 (d.Op.Cell),.int .i64 (d.Op.gP),.int .i64 (d.Op.dK),.int .i64 (d.aI),.int .i64 (d.Pc),.int .i64 (d.Sub.Kind),.int .i64 (d.Sub.A),.int .i64 (d.Sub.Pc),.int .i64 (d.Sub.E),.int .i64 (d.Sub.Row),.int .i64 (d.Sub.B),.int .i64 (d.Sub.H),.int .i64 (d.Sub.Out),.int .i64 (d.Sub.Code),.bool (d.Sub.cW),.int .i64 (d.H),.int .i64 (d.Old),.int .i64 (d.dK),.int .i64 (d.Code)] d []:=(show OP (α:=Bool×bK×Int×Int×Sub×Int×Int×Int×Int) _ (d.cY,d.Op,d.aI,d.Pc,d.Sub,d.H,d.Old,d.dK,d.Code) _ from (kO (c1:=[.bool (d.cY)]) (c2:=[.int .i64 (d.Op.Kind),.int .i64 (d.Op.Cell),.int .i64 (d.Op.gP),.int .i64 (d.Op.dK),.int .i64 (d.aI),.int .i64 (d.Pc),.int .i64 (d.Sub.Kind),.int .i64 (d.Sub.A),.int .i64 (d.Sub.Pc),.int .i64 (d.Sub.E),.int .i64 (d.Sub.Row),.int .i64 (d.Sub.B),.int .i64 (d.Sub.H),.int .i64 (d.Sub.Out),.int .i64 (d.Sub.Code),.bool (d.Sub.cW),.int .i64 (d.H),.int .i64 (d.Old),.int .i64 (d.dK),.int .i64 (d.Code)]) (A:=[]) (B:=[]) (gJ rfl) (kO (c1:=[.int .i64 (d.Op.Kind),.int .i64 (d.Op.Cell),.int .i64 (d.Op.gP),.int .i64 (d.Op.dK)]) (c2:=[.int .i64 (d.aI),.int .i64 (d.Pc),.int .i64 (d.Sub.Kind),.int .i64 (d.Sub.A),.int .i64 (d.Sub.Pc),.int .i64 (d.Sub.E),.int .i64 (d.Sub.Row),.int .i64 (d.Sub.B),.int .i64 (d.Sub.H),.int .i64 (d.Sub.Out),.int .i64 (d.Sub.Code),.bool (d.Sub.cW),.int .i64 (d.H),.int .i64 (d.Old),.int .i64 (d.dK),.int .i64 (d.Code)]) (A:=[]) (B:=[]) (gJ (aKU _)) (kO (c1:=[.int .i64 (d.aI)]) (c2:=[.int .i64 (d.Pc),.int .i64 (d.Sub.Kind),.int .i64 (d.Sub.A),.int .i64 (d.Sub.Pc),.int .i64 (d.Sub.E),.int .i64 (d.Sub.Row),.int .i64 (d.Sub.B),.int .i64 (d.Sub.H),.int .i64 (d.Sub.Out),.int .i64 (d.Sub.Code),.bool (d.Sub.cW),.int .i64 (d.H),.int .i64 (d.Old),.int .i64 (d.dK),.int .i64 (d.Code)]) (A:=[]) (B:=[]) (gJ rfl) (kO (c1:=[.int .i64 (d.Pc)]) (c2:=[.int .i64 (d.Sub.Kind),.int .i64 (d.Sub.A),.int .i64 (d.Sub.Pc),.int .i64 (d.Sub.E),.int .i64 (d.Sub.Row),.int .i64 (d.Sub.B),.int .i64 (d.Sub.H),.int .i64 (d.Sub.Out),.int .i64 (d.Sub.Code),.bool (d.Sub.cW),.int .i64 (d.H),.int .i64 (d.Old),.int .i64 (d.dK),.int .i64 (d.Code)]) (A:=[]) (B:=[]) (gJ rfl) (kO (c1:=[.int .i64 (d.Sub.Kind),.int .i64 (d.Sub.A),.int .i64 (d.Sub.Pc),.int .i64 (d.Sub.E),.int .i64 (d.Sub.Row),.int .i64 (d.Sub.B),.int .i64 (d.Sub.H),.int .i64 (d.Sub.Out),.int .i64 (d.Sub.Code),.bool (d.Sub.cW)]) (c2:=[.int .i64 (d.H),.int .i64 (d.Old),.int .i64 (d.dK),.int .i64 (d.Code)]) (A:=[]) (B:=[]) (gJ (aWU _)) (kO (c1:=[.int .i64 (d.H)]) (c2:=[.int .i64 (d.Old),.int .i64 (d.dK),.int .i64 (d.Code)]) (A:=[]) (B:=[]) (gJ rfl) (kO (c1:=[.int .i64 (d.Old)]) (c2:=[.int .i64 (d.dK),.int .i64 (d.Code)]) (A:=[]) (B:=[]) (gJ rfl) (kO (c1:=[.int .i64 (d.dK)]) (c2:=[.int .i64 (d.Code)]) (A:=[]) (B:=[]) (gJ rfl) (gJ rfl) rfl) rfl) rfl) rfl) rfl) rfl) rfl) rfl))
structure Queue where
  fM:List bK
  deriving DecidableEq,Inhabited
instance:aL Queue:=aL.via (fun d=>(d.fM))
instance:Fits Queue:=Fits.via (fun d=>(d.fM))
theorem aWV{S:dB}{w:World}{cs:List Value}{d:Queue}(h:aL.rd S w cs d):∃v0:Value,cs=[v0]∧aL.rd S w [v0] d.fM:=by
  obtain⟨u0,q0⟩:=LR h
  rw [q0] at h
  exact⟨u0,q0,h⟩
theorem qS(d:Queue){v0:Value}:OP [v0] d [gO [v0] d.fM]:=(show OP (α:=(List bK)) _ (d.fM) _ from aO6)
structure Ev where
  Kind:Int
  LI:Int
  aI:Int
  Cell:Int
  Handle:Int
  dK:Int
  Code:Int
  deriving DecidableEq,Inhabited
instance:aL Ev:=aL.via (fun d=>(d.Kind,d.LI,d.aI,d.Cell,d.Handle,d.dK,d.Code))
instance:Fits Ev:=Fits.via (fun d=>(d.Kind,d.LI,d.aI,d.Cell,d.Handle,d.dK,d.Code))
theorem a59{S:dB}{w:World}{cs:List Value}{d:Ev}(h:aL.rd S w cs d):cs=[.int .i64 (d.Kind),.int .i64 (d.LI),.int .i64 (d.aI),.int .i64 (d.Cell),.int .i64 (d.Handle),.int .i64 (d.dK),.int .i64 (d.Code)]:=by
  obtain⟨c0,r0,e0,h0,n0⟩:=h
  have q0:c0=[_]:=h0
  obtain⟨c1,r1,e1,h1,n1⟩:=n0
  have q1:c1=[_]:=h1
  obtain⟨c2,r2,e2,h2,n2⟩:=n1
  have q2:c2=[_]:=h2
  obtain⟨c3,r3,e3,h3,n3⟩:=n2
  have q3:c3=[_]:=h3
  obtain⟨c4,r4,e4,h4,n4⟩:=n3
  have q4:c4=[_]:=h4
  obtain⟨c5,r5,e5,h5,n5⟩:=n4
  have q5:c5=[_]:=h5
  have q6:r5=[_]:=n5
  exact by rw [e0,e1,e2,e3,e4,e5,q0,q1,q2,q3,q4,q5,q6];rfl
instance:Flat Ev:=⟨fun h=>Flat.own_of (α:=Int×Int×Int×Int×Int×Int×Int) h,fun h=>Flat.no (α:=Int×Int×Int×Int×Int×Int×Int) h⟩
theorem a6A(d:Ev):OP [.int .i64 (d.Kind),.int .i64 (d.LI),.int .i64 (d.aI),.int .i64 (d.Cell),.int .i64 (d.Handle),.int .i64 (d.dK),.int .i64 (d.Code)] d []:=(show OP (α:=Int×Int×Int×Int×Int×Int×Int) _ (d.Kind,d.LI,d.aI,d.Cell,d.Handle,d.dK,d.Code) _ from (kO (c1:=[.int .i64 (d.Kind)]) (c2:=[.int .i64 (d.LI),.int .i64 (d.aI),.int .i64 (d.Cell),.int .i64 (d.Handle),.int .i64 (d.dK),.int .i64 (d.Code)]) (A:=[]) (B:=[]) (gJ rfl) (kO (c1:=[.int .i64 (d.LI)]) (c2:=[.int .i64 (d.aI),.int .i64 (d.Cell),.int .i64 (d.Handle),.int .i64 (d.dK),.int .i64 (d.Code)]) (A:=[]) (B:=[]) (gJ rfl) (kO (c1:=[.int .i64 (d.aI)]) (c2:=[.int .i64 (d.Cell),.int .i64 (d.Handle),.int .i64 (d.dK),.int .i64 (d.Code)]) (A:=[]) (B:=[]) (gJ rfl) (kO (c1:=[.int .i64 (d.Cell)]) (c2:=[.int .i64 (d.Handle),.int .i64 (d.dK),.int .i64 (d.Code)]) (A:=[]) (B:=[]) (gJ rfl) (kO (c1:=[.int .i64 (d.Handle)]) (c2:=[.int .i64 (d.dK),.int .i64 (d.Code)]) (A:=[]) (B:=[]) (gJ rfl) (kO (c1:=[.int .i64 (d.dK)]) (c2:=[.int .i64 (d.Code)]) (A:=[]) (B:=[]) (gJ rfl) (gJ rfl) rfl) rfl) rfl) rfl) rfl) rfl))
structure aB where
  aA:aA
  Cells:List Int
  aT:List bD
  aZ:List Queue
  Log:List Ev
  aI:Int
  deriving DecidableEq,Inhabited
instance:aL aB:=aL.via (fun d=>(d.aA,d.Cells,d.aT,d.aZ,d.Log,d.aI))
instance:Fits aB:=Fits.via (fun d=>(d.aA,d.Cells,d.aT,d.aZ,d.Log,d.aI))
structure Span where
  aWW:Int
  To:Int
  deriving DecidableEq,Inhabited
instance:aL Span:=aL.via (fun d=>(d.aWW,d.To))
instance:Fits Span:=Fits.via (fun d=>(d.aWW,d.To))
instance:Flat Span:=⟨fun h=>Flat.own_of (α:=Int×Int) h,fun h=>Flat.no (α:=Int×Int) h⟩
structure eA where
  b:List UInt8
  i:Int
  h:Int
  deriving DecidableEq,Inhabited
instance:aL eA:=aL.via (fun d=>(d.b,d.i,d.h))
instance:Fits eA:=Fits.via (fun d=>(d.b,d.i,d.h))
structure Reader where
  left:E2
  bad:Bool
  deriving DecidableEq,Inhabited
instance:aL Reader:=aL.via (fun d=>(d.left,d.bad))
instance:Fits Reader:=Fits.via (fun d=>(d.left,d.bad))
instance:Flat Reader:=⟨fun h=>Flat.own_of (α:=E2×Bool) h,fun h=>Flat.no (α:=E2×Bool) h⟩
structure zD where
  aZ:List Queue
  jL:List Int
  deriving DecidableEq,Inhabited
instance:aL zD:=aL.via (fun d=>(d.aZ,d.jL))
instance:Fits zD:=Fits.via (fun d=>(d.aZ,d.jL))
end Go.Gv
end
noncomputable section
namespace Go.Gv
noncomputable section
def vS(code:List UInt8):Option Bool:=
  some (decide (1048576 < (code.length:Int)))
def nN(code:List UInt8)(i:Int):Option Int:=
  (if decide (i < (code.length:Int)) then (idx code i).bind fun x1=>some (x1.toNat:Int) else some (Int.tmod (aY ((aY (i * 37))+(aY ((code.length:Int) * 11)))) 256))
def aHN(x5:List Ev):Option (List Ev):=
  some x5
def FX(x4:Int)(x6:List Ev):Option (Step ((List Ev)×Int) (List Ev)):=
  some (.next (x6,aY (x4+1)))
def zO(s:aB):((List Ev)×Int)→Option (Step ((List Ev)×Int) (List Ev))
  | (x3,x4)=>(if decide (x4 < (s.Log.length:Int)) then (idx s.Log x4).bind fun x7=>(if x7.Kind == 4 then need (x3.length+([x7]).length≤1073741824) (FX x4 (x3++([x7]))) else FX x4 x3) else some (.stop (x3)))
def aHO:(List Ev)→Option (List Ev)
  | x5=>aHN x5
def vT(s:aB):Option (List Ev):=
  (loop (zO s) (([]:List Ev),0)).bind (aHO)
def HR(s:List bK):Option (List bK):=
  need (([]:List bK).length+s.length≤1073741824) (some (([]:List bK)++s))
def ZB(x5:List Queue):Option (List Queue):=
  some x5
def FC(todo:List Queue):((List Queue)×Int)→Option (Step ((List Queue)×Int) (List Queue))
  | (x3,x4)=>(if decide (x4 < (todo.length:Int)) then (idx todo x4).bind fun x6=>(HR x6.fM).bind fun x7=>need (x3.length+([(⟨x7⟩:Queue)]).length≤1073741824) (some (.next (x3++([(⟨x7⟩:Queue)]),aY (x4+1)))) else some (.stop (x3)))
def ZC:(List Queue)→Option (List Queue)
  | x5=>ZB x5
def zP(todo:List Queue):Option (List Queue):=
  (loop (FC todo) (([]:List Queue),0)).bind (ZC)
def fV(s:List Int):Option (List Int):=
  need (([]:List Int).length+s.length≤1073741824) (some (([]:List Int)++s))
def uC(h:aE):Option aE:=
  (fV h.Bytes).bind fun x1=>(fV h.Class).bind fun x2=>some (⟨x1,x2⟩:aE)
def XH(x5 x10:List aR):Option aD:=
  some (⟨x5,x10⟩:aD)
def CU(x8:Int)(x12:List aR):Option (Step (Int×(List aR)) (List aR)):=
  some (.next (aY (x8+1),x12))
def CV(l:aD):(Int×(List aR))→Option (Step (Int×(List aR)) (List aR))
  | (x8,x9)=>(if decide (x8 < (l.cT.length:Int)) then (idx l.cT x8).bind fun x11=>(fV x11.aS).bind fun x13=>need (x9.length+([(⟨x13⟩:aR)]).length≤1073741824)<|CU x8 (x9++([(⟨x13⟩:aR)])) else some (.stop (x9)))
def XI(x5:List aR):(List aR)→Option aD
  | x10=>XH x5 x10
def LV(l:aD)(x5:List aR):Option aD:=
  (loop (CV l) (0,[])).bind (XI x5)
def CX(x3:Int)(x15:List aR):Option (Step (Int×(List aR)) (List aR)):=
  some (.next (aY (x3+1),x15))
def CY(l:aD):(Int×(List aR))→Option (Step (Int×(List aR)) (List aR))
  | (x3,x4)=>(if decide (x3 < (l.Global.length:Int)) then (idx l.Global x3).bind fun x14=>(fV x14.aS).bind fun x16=>need (x4.length+([(⟨x16⟩:aR)]).length≤1073741824)<|CX x3 (x4++([(⟨x16⟩:aR)])) else some (.stop (x4)))
def LW(l:aD):(List aR)→Option aD
  | x5=>LV l x5
def iX(l:aD):Option aD:=
  (loop (CY l) (0,[])).bind (LW l)
def CZ(m:Mem):Option Mem:=
  (uC m.aE).bind fun x1=>(iX m.aD).bind fun x2=>some (⟨x1,x2⟩:Mem)
def xJ(s:List qA):Option (List qA):=
  need (([]:List qA).length+s.length≤1073741824) (some (([]:List qA)++s))
def k9(c:aC):Option aC:=
  (xJ c.cK).bind fun x1=>some (⟨c.aJ,x1⟩:aC)
def vB(s:List dO):Option (List dO):=
  need (([]:List dO).length+s.length≤1073741824) (some (([]:List dO)++s))
def XJ(x5:List bB):Option (List bB):=
  some x5
def C0(l:List bB):((List bB)×Int)→Option (Step ((List bB)×Int) (List bB))
  | (x3,x4)=>(if decide (x4 < (l.length:Int)) then (idx l x4).bind fun x6=>(vB x6.Rows).bind fun x7=>need (x3.length+([(⟨x7⟩:bB)]).length≤1073741824) (some (.next (x3++([(⟨x7⟩:bB)]),aY (x4+1)))) else some (.stop (x3)))
def XL:(List bB)→Option (List bB)
  | x5=>XJ x5
def lA(l:List bB):Option (List bB):=
  (loop (C0 l) (([]:List bB),0)).bind (XL)
def FY(b:aA):Option aA:=
  (CZ b.Mem).bind fun x1=>(k9 b.aC).bind fun x2=>(lA b.aM).bind fun x3=>(fV b.mP).bind fun x4=>some (⟨x1,x2,x3,x4⟩:aA)
def FD(s:List bD):Option (List bD):=
  need (([]:List bD).length+s.length≤1073741824) (some (([]:List bD)++s))
def HT(s:List Ev):Option (List Ev):=
  need (([]:List Ev).length+s.length≤1073741824) (some (([]:List Ev)++s))
def qT(s:aB):Option aB:=
  (FY s.aA).bind fun x1=>(fV s.Cells).bind fun x2=>(FD s.aT).bind fun x3=>(zP s.aZ).bind fun x4=>(HT s.Log).bind fun x5=>some (⟨x1,x2,x3,x4,x5,s.aI⟩:aB)
def yX:Option Int:=
  some (-1)
def kG(s:List Queue)(f:(Queue→Option Bool)):Int→Option (Step Int (Out Unit Int))
  | x2=>(if decide (x2 < (s.length:Int)) then (idx s x2).bind fun x3=>(f x3).bind fun x4=>(if x4 then some (.stop (Out.ret x2)) else some (.next (aY (x2+1)))) else some (.stop (Out.brk ())))
def nV:(Out Unit Int)→Option Int
  | .brk ()=>yX
  | .ret r=>some r
def rX(s:List Queue)(f:(Queue→Option Bool)):Option Int:=
  (loop (kG s f) 0).bind (nV)
def iK(s:List Queue)(f:(Queue→Option Bool)):Option Bool:=
  (rX s f).bind fun x1=>some (decide (0≤x1))
def C1:Option Int:=
  some (-1)
def mG(s:List bK)(f:(bK→Option Bool)):Int→Option (Step Int (Out Unit Int))
  | x2=>(if decide (x2 < (s.length:Int)) then (idx s x2).bind fun x3=>(f x3).bind fun x4=>(if x4 then some (.stop (Out.ret x2)) else some (.next (aY (x2+1)))) else some (.stop (Out.brk ())))
def rY:(Out Unit Int)→Option Int
  | .brk ()=>C1
  | .ret r=>some r
def zE(s:List bK)(f:(bK→Option Bool)):Option Int:=
  (loop (mG s f) 0).bind (rY)
def mH(s:List bK)(f:(bK→Option Bool)):Option Bool:=
  (zE s f).bind fun x1=>some (decide (0≤x1))
def qU(x1:Bool):Option Bool:=
  some x1
def cS(n low high:Int):Option Bool:=
  (if decide (low≤n) then qU (decide (n≤high)) else qU false)
def IK(x4:Bool):Option Bool:=
  some x4
def IL(x7:Bool):Option Bool:=
  some x7
def C2(o_:bK)(x3:Bool):Option Bool:=
  (if x3 then some false else (if o_.Kind == 1 then (cS o_.gP 0 100).bind fun x5=>(if x5 then (cS o_.dK 0 65535).bind fun x6=>IK x6 else IK false) else (if o_.gP == 0 then IL (o_.dK == 0) else IL false)))
def o8(o_:bK)(x1:Bool):Option Bool:=
  (cS o_.Kind 1 7).bind fun x2=>(if !x2 then some false else (if x1 then (cS o_.Cell 0 1).bind fun x8=>(if !x8 then C2 o_ true else C2 o_ false) else C2 o_ (o_.Cell != 0)))
def JU(o_:bK):Option Bool:=
  (if o_.Kind == 1 then o8 o_ true else (if o_.Kind == 2 then o8 o_ true else (if o_.Kind == 3 then o8 o_ true else o8 o_ (o_.Kind == 7))))
def A2(o_:bK):Option Bool:=
  (JU o_).bind fun x1=>some (!x1)
def xK(x1:Bool):Option Bool:=
  some x1
def FZ(q:Queue):Option Bool:=
  (if decide (12 < (q.fM.length:Int)) then xK true else (mH q.fM (fun y0=>A2 y0)).bind fun x2=>xK x2)
def C3(x1:Bool):Option Bool:=
  some x1
def G6(todo:List Queue):Option Bool:=
  (if (todo.length:Int) == 3 then (iK todo (fun y0=>FZ y0)).bind fun x2=>C3 (!x2) else C3 false)
def CD:Option Int:=
  some (-1)
def jF(s:List Int)(f:(Int→Option Bool)):Int→Option (Step Int (Out Unit Int))
  | x2=>(if decide (x2 < (s.length:Int)) then (idx s x2).bind fun x3=>(f x3).bind fun x4=>(if x4 then some (.stop (Out.ret x2)) else some (.next (aY (x2+1)))) else some (.stop (Out.brk ())))
def qV:(Out Unit Int)→Option Int
  | .brk ()=>CD
  | .ret r=>some r
def vU(s:List Int)(f:(Int→Option Bool)):Option Int:=
  (loop (jF s f) 0).bind (qV)
def eR(s:List Int)(f:(Int→Option Bool)):Option Bool:=
  (vU s f).bind fun x1=>some (decide (0≤x1))
def SH(x:Int):Option Bool:=
  (cS x 0 255).bind fun x1=>some x1
def C4(x:Int):Option Bool:=
  (SH x).bind fun x1=>some (!x1)
def A3(x1:Bool):Option Bool:=
  some x1
def IM(b:List Int):Option Bool:=
  (if decide ((b.length:Int)≤1000) then (eR b (fun y0=>C4 y0)).bind fun x2=>A3 (!x2) else A3 false)
def F5(c:Int):Option Bool:=
  (cS c (-1) 2).bind fun x1=>some (!x1)
def qW(x1:Bool):Option Bool:=
  some x1
def G7(h:aE):Option Bool:=
  (if (h.Bytes.length:Int) == 384 then (IM h.Bytes).bind fun x2=>(if x2 then (if (h.Class.length:Int) == 6 then (eR h.Class (fun y0=>F5 y0)).bind fun x3=>qW (!x3) else qW false) else qW false) else qW false)
def aAS(x5:Int):Option Int:=
  some x5
def tG(b:List Int)(at_ width:Int):(Int×Int)→Option (Step (Int×Int) Int)
  | (x3,x4)=>(if decide (x4 < (((b.take ((aY (at_+width)).toNat)).drop at_.toNat).length:Int)) then (idx ((b.take ((aY (at_+width)).toNat)).drop at_.toNat) x4).bind fun x6=>some (.next (aY ((aY (256 * x3))+x6),aY (x4+1))) else some (.stop (x3)))
def aAT:Int→Option Int
  | x5=>aAS x5
def mI(b:List Int)(at_ width:Int):Option Int:=
  need (0≤(at_:Int)∧(at_:Int)≤(aY (at_+width):Int)∧(aY (at_+width):Int)≤(b.length:Int)) ((loop (tG b at_ width) (0,0)).bind (aAT))
def F6(x:Int):Option Bool:=
  some (x != 0)
def G8(b:List Int):Option Bool:=
  (eR b (fun y0=>F6 y0)).bind fun x1=>some (!x1)
def kP(c:Int):Option Bool:=
  (cS c 0 2).bind fun x1=>some x1
def CE(c:Int):Option Int:=
  (kP c).bind fun x1=>(if !x1 then some 0 else (idx ([8,16,40]:List Int) c).bind fun x2=>some x2)
def uD(c:Int):Option Int:=
  (kP c).bind fun x1=>(if !x1 then some 0 else (CE c).bind fun x2=>some (aY (4+x2)))
def o9(c:Int):Option Int:=
  (kP c).bind fun x1=>(if !x1 then some 0 else (uD c).bind fun x2=>need (x2≠0) (some (aY (Int.tdiv 56 x2))))
def aEL:Option Bool:=
  some true
def qX(h:aE)(page x1 x4:Int):Int→Option (Step Int (Out Unit Bool))
  | x6=>(if decide (x6 < x4) then (uD x1).bind fun x7=>(mI ((h.Bytes.take ((aY ((aY (page+1)) * 64)).toNat)).drop ((aY (page * 64)).toNat)) (aY (8+(aY (x6 * x7)))) 4).bind fun x8=>(cS x8 1 7).bind fun x9=>(if !x9 then some (.stop (Out.ret false)) else some (.next (aY (x6+1)))) else some (.stop (Out.brk ())))
def aEM:(Out Unit Bool)→Option Bool
  | .brk ()=>aEL
  | .ret r=>some r
def jT(h:aE)(page x1:Int)(x3:Bool):Option Bool:=
  (if x3 then some false else (o9 x1).bind fun x4=>(loop (qX h page x1 x4) 0).bind (aEM))
def LX(h:aE)(page:Int):Option Bool:=
  (idx h.Class page).bind fun x1=>need (0≤(aY (page * 64):Int)∧(aY (page * 64):Int)≤(aY ((aY (page+1)) * 64):Int)∧(aY ((aY (page+1)) * 64):Int)≤(h.Bytes.length:Int)) ((if decide (x1 < 0) then (G8 ((h.Bytes.take ((aY ((aY (page+1)) * 64)).toNat)).drop ((aY (page * 64)).toNat))).bind fun x2=>some x2 else (idx ((h.Bytes.take ((aY ((aY (page+1)) * 64)).toNat)).drop ((aY (page * 64)).toNat)) 0).bind fun x10=>(if x10 != 171 then jT h page x1 true else (idx ((h.Bytes.take ((aY ((aY (page+1)) * 64)).toNat)).drop ((aY (page * 64)).toNat)) 1).bind fun x11=>(if x11 != x1 then jT h page x1 true else (idx ((h.Bytes.take ((aY ((aY (page+1)) * 64)).toNat)).drop ((aY (page * 64)).toNat)) 2).bind fun x12=>(o9 x1).bind fun x13=>(if x12 != x13 then jT h page x1 true else need (0≤(3:Int)∧(3:Int)≤(8:Int)∧(8:Int)≤(((h.Bytes.take ((aY ((aY (page+1)) * 64)).toNat)).drop ((aY (page * 64)).toNat)).length:Int)) ((G8 ((((h.Bytes.take ((aY ((aY (page+1)) * 64)).toNat)).drop ((aY (page * 64)).toNat)).take ((8:Int).toNat)).drop ((3:Int).toNat))).bind fun x14=>jT h page x1 (!x14)))))))
def aEN:Option Bool:=
  some true
def vV(h:aE):Int→Option (Step Int (Out Unit Bool))
  | x3=>(if decide (x3 < 6) then (LX h x3).bind fun x4=>(if !x4 then some (.stop (Out.ret false)) else some (.next (aY (x3+1)))) else some (.stop (Out.brk ())))
def aEO:(Out Unit Bool)→Option Bool
  | .brk ()=>aEN
  | .ret r=>some r
def G9(h:aE):Option Bool:=
  (G7 h).bind fun x1=>(if !x1 then some false else (loop (vV h) 0).bind (aEO))
def mU(slot:Int):Option Bool:=
  (cS slot 0 23).bind fun x1=>some x1
def rZ(x10:List Raw):Option (List Raw):=
  some x10
def iG(slices:List (List Raw)):((List Raw)×Int)→Option (Step ((List Raw)×Int) (List Raw))
  | (x8,x9)=>(if decide (x9 < (slices.length:Int)) then (idx slices x9).bind fun x11=>need (x8.length+x11.length≤1073741824) (some (.next (x8++x11,aY (x9+1)))) else some (.stop (x8)))
def PN:(List Raw)→Option (List Raw)
  | x10=>rZ x10
def mJ(slices:List (List Raw))(x5:Int):Option (List Raw):=
  need (0≤x5∧x5≤1073741824) ((loop (iG slices) ([],0)).bind (PN))
def gG(slices:List (List Raw)):(Int×Int)→Option (Step (Int×Int) Int)
  | (x3,x4)=>(if decide (x4 < (slices.length:Int)) then (idx slices x4).bind fun x12=>(if decide ((aY (x3+(x12.length:Int))) < 0) then none else some (.next (aY (x3+(x12.length:Int)),aY (x4+1)))) else some (.stop (x3)))
def C5(slices:List (List Raw)):Int→Option (List Raw)
  | x5=>mJ slices x5
def qB(slices:List (List Raw)):Option (List Raw):=
  (loop (gG slices) (0,0)).bind (C5 slices)
theorem LH{u1 u2:List Raw}(h:u1.length+u2.length≤1073741824):loop (gG [u1,u2]) (0,0)=some ((u1.length+u2.length:Nat):Int):=by
  have e1:aY (u1.length:Int)=u1.length:=J2 (by omega)
  have e2:aY ((u1.length:Int)+(u2.length:Int))=((u1.length+u2.length:Nat):Int):=by rw [J2 (by omega)];rfl
  have e3:aY (0+1)=1:=J2 (by omega)
  have e4:aY 2=2:=J2 (by omega)
  have n1:¬(u1.length:Int) < 0:=by omega
  have n2:¬((u1.length+u2.length:Nat):Int) < 0:=by omega
  rw [bV (s':=((u1.length:Int),1)) ?_,bV (s':=(((u1.length+u2.length:Nat):Int),2)) ?_,bU (r:=((u1.length+u2.length:Nat):Int)) ?_]
  · simp [gG]
  · simp [gG,idx,e2,e4]
    omega
  · simp [gG,idx,e1,n1]
    exact e3
theorem OH{u1 u2:List Raw}{n1 n2:Nat}(hl:u1.length=n1∧u2.length=n2)(h:n1+n2≤1073741824):qB [u1,u2]=some (u1++u2):=by
  obtain⟨rfl,rfl⟩:=hl
  have e3:aY (0+1)=1:=J2 (by omega)
  have e4:aY 2=2:=J2 (by omega)
  unfold qB
  rw [LH h]
  simp only [aG,C5,mJ]
  rw [aQ (by omega),bV (s':=(u1,1)) ?_,bV (s':=(u1++u2,2)) ?_,bU (r:=u1++u2) ?_]
  · rfl
  · simp [iG]
  · simp [iG,idx,e4,aQ h]
  · have h1:u1.length≤1073741824:=by omega
    simp [iG,idx,aQ h1]
    exact e3
def HU:Option Bool:=
  some true
def A4(x4:Int)(x12:List Bool):Option (Step (Int×(List Bool)) (Out Unit Bool)):=
  some (.next (aY (x4+1),x12))
def oA(x10:Int)(x11:List Bool)(x13:Int)(x14:Bool):Option (Step (Int×(List Bool)) (Out (List Bool) Bool)):=
  (if x14 then some (.stop (Out.ret false)) else need (0≤(x13:Int)∧(x13:Int) < 24) ((idx (x11:List Bool) x13).bind fun x15=>some (.next (aY (x10+1),x11.set (x13.toNat) true))))
def lU(x6:aR):(Int×(List Bool))→Option (Step (Int×(List Bool)) (Out (List Bool) Bool))
  | (x10,x11)=>(if decide (x10 < (x6.aS.length:Int)) then (idx x6.aS x10).bind fun x13=>(mU x13).bind fun x16=>(if !x16 then oA x10 x11 x13 true else need (0≤(x13:Int)∧(x13:Int) < 24) ((idx (x11:List Bool) x13).bind fun x17=>oA x10 x11 x13 x17)) else some (.stop (Out.brk x11)))
def QY(x4:Int):(Out (List Bool) Bool)→Option (Step (Int×(List Bool)) (Out Unit Bool))
  | .brk x12=>A4 x4 x12
  | .ret r=>some (.stop (Out.ret r))
def lV(x4:Int)(x5:List Bool)(x6:aR)(x7:Bool):Option (Step (Int×(List Bool)) (Out Unit Bool)):=
  (if x7 then some (.stop (Out.ret false)) else (loop (lU x6) (0,x5)).bind (QY x4))
def lW(l:aD):(Int×(List Bool))→Option (Step (Int×(List Bool)) (Out Unit Bool))
  | (x4,x5)=>(if decide (x4 < ((l.cT++l.Global).length:Int)) then (idx (l.cT++l.Global) x4).bind fun x6=>(if decide (x4 < (l.cT.length:Int)) then lV x4 x5 x6 (decide (2 < (x6.aS.length:Int))) else lV x4 x5 x6 false) else some (.stop (Out.brk ())))
def aAU:(Out Unit Bool)→Option Bool
  | .brk ()=>HU
  | .ret r=>some r
def tH(l:aD)(x1:Bool):Option Bool:=
  (if x1 then some false else need (l.cT.length+l.Global.length≤1073741824) ((loop (lW l) (0,[false,false,false,false,false,false,false,false,false,false,false,false,false,false,false,false,false,false,false,false,false,false,false,false])).bind (aAU)))
def kQ(l:aD):Option Bool:=
  (if (l.Global.length:Int) != 3 then tH l true else tH l ((l.cT.length:Int) != 9))
def zQ(slot c:Int)(x1:Bool):Option Int:=
  (if x1 then some (-1) else (uD c).bind fun x2=>some (aY ((aY ((aY ((aY (Int.tdiv slot 4)) * 64))+8))+(aY ((Int.tmod slot 4) * x2)))))
def vW(slot c:Int):Option Int:=
  (mU slot).bind fun x3=>(if !x3 then zQ slot c true else (kP c).bind fun x4=>(if !x4 then zQ slot c true else (o9 c).bind fun x5=>zQ slot c (decide (x5≤(Int.tmod slot 4)))))
def A5(h:aE)(slot:Int)(x1:Bool):Option Int:=
  (if x1 then some (-1) else (idx h.Class (aY (Int.tdiv slot 4))).bind fun x2=>some x2)
def pA(h:aE)(slot:Int):Option Int:=
  (mU slot).bind fun x3=>(if !x3 then A5 h slot true else (idx h.Class (aY (Int.tdiv slot 4))).bind fun x4=>(vW slot x4).bind fun x5=>A5 h slot (decide (x5 < 0)))
def r9(h:aE)(slot:Int):Option Int:=
  (G7 h).bind fun x1=>(if !x1 then some (-1) else (pA h slot).bind fun x2=>some x2)
def BV(h:aE)(slot:Int):Option Int:=
  (r9 h slot).bind fun x1=>(if decide (x1 < 0) then some 0 else (vW slot x1).bind fun x2=>(mI h.Bytes x2 4).bind fun x3=>some x3)
def ZD:Option Bool:=
  some true
def xL(x2:Int)(x4:Bool):Option (Step Int (Out Unit Bool)):=
  (if x4 then some (.stop (Out.ret false)) else some (.next (aY (x2+1))))
def m3(h:aE)(s:aR)(c:Int):Int→Option (Step Int (Out Unit Bool))
  | x2=>(if decide (x2 < (s.aS.length:Int)) then (idx s.aS x2).bind fun x3=>(pA h x3).bind fun x5=>(if x5 != c then xL x2 true else (BV h x3).bind fun x6=>xL x2 (decide (6 < x6))) else some (.stop (Out.brk ())))
def ZE:(Out Unit Bool)→Option Bool
  | .brk ()=>ZD
  | .ret r=>some r
def zR(h:aE)(s:aR)(c:Int):Option Bool:=
  (loop (m3 h s c) 0).bind (ZE)
def aHP:Option Bool:=
  some true
def uE(m:Mem):Int→Option (Step Int (Out Unit Bool))
  | x5=>(if decide (x5 < (m.aD.cT.length:Int)) then (idx m.aD.cT x5).bind fun x6=>(zR m.aE x6 (Int.tmod x5 3)).bind fun x7=>(if !x7 then some (.stop (Out.ret false)) else some (.next (aY (x5+1)))) else some (.stop (Out.brk ())))
def aHQ:(Out Unit Bool)→Option Bool
  | .brk ()=>aHP
  | .ret r=>some r
def VB(m:Mem):Option Bool:=
  (loop (uE m) 0).bind (aHQ)
def uF(m:Mem):Int→Option (Step Int (Out Unit Bool))
  | x3=>(if decide (x3 < (m.aD.Global.length:Int)) then (idx m.aD.Global x3).bind fun x8=>(zR m.aE x8 x3).bind fun x9=>(if !x9 then some (.stop (Out.ret false)) else some (.next (aY (x3+1)))) else some (.stop (Out.brk ())))
def VC(m:Mem):(Out Unit Bool)→Option Bool
  | .brk ()=>VB m
  | .ret r=>some r
def F7(m:Mem)(x1:Bool):Option Bool:=
  (if x1 then some false else (loop (uF m) 0).bind (VC m))
def J5(m:Mem):Option Bool:=
  (G9 m.aE).bind fun x10=>(if !x10 then F7 m true else (kQ m.aD).bind fun x11=>F7 m (!x11))
def CF:Option Int:=
  some (-1)
def jG(s:List qA)(f:(qA→Option Bool)):Int→Option (Step Int (Out Unit Int))
  | x2=>(if decide (x2 < (s.length:Int)) then (idx s x2).bind fun x3=>(f x3).bind fun x4=>(if x4 then some (.stop (Out.ret x2)) else some (.next (aY (x2+1)))) else some (.stop (Out.brk ())))
def qY:(Out Unit Int)→Option Int
  | .brk ()=>CF
  | .ret r=>some r
def vX(s:List qA)(f:(qA→Option Bool)):Option Int:=
  (loop (jG s f) 0).bind (qY)
def lK(s:List qA)(f:(qA→Option Bool)):Option Bool:=
  (vX s f).bind fun x1=>some (decide (0≤x1))
def lL(x1:Bool):Option Bool:=
  some x1
def vY(p:qA)(k0:aC):Option Bool:=
  (cS p.aJ 0 k0.aJ).bind fun x2=>(if !x2 then lL true else (cS p.Seen 0 2).bind fun x3=>(if !x3 then lL true else (if !p.On then lL (!(decide (p=(⟨false,0,false,0⟩:qA)))) else lL false)))
def tI(x1:Bool):Option Bool:=
  some x1
def pB(c:aC):Option Bool:=
  (cS c.aJ 0 100000).bind fun x2=>(if x2 then (if (c.cK.length:Int) == 3 then (lK c.cK (fun y0=>vY y0 c)).bind fun x3=>tI (!x3) else tI false) else tI false)
def m4(x1:Bool):Option Bool:=
  some x1
def iB(h:Int):Option Bool:=
  (cS h 32 223).bind fun x2=>(if x2 then m4 (decide ((Int.tmod h 32) < 24)) else m4 false)
def C6(x5:Int):Option Int:=
  some x5
def jU(l:List bB):(Int×Int)→Option (Step (Int×Int) Int)
  | (x3,x4)=>(if decide (x4 < (l.length:Int)) then (idx l x4).bind fun x6=>some (.next (aY (x3+(x6.Rows.length:Int)),aY (x4+1))) else some (.stop (x3)))
def XM:Int→Option Int
  | x5=>C6 x5
def vZ(l:List bB):Option Int:=
  (loop (jU l) (0,0)).bind (XM)
def A6(l:List bB):Option Bool:=
  (vZ l).bind fun x5=>some (decide (x5≤24))
def A7(x3:Int)(x11:List Bool):Option (Step (Int×(List Bool)) (Out Unit Bool)):=
  some (.next (aY (x3+1),x11))
def j8(x9:Int)(x10:List Bool)(x12:dO)(x13:Bool):Option (Step (Int×(List Bool)) (Out (List Bool) Bool)):=
  (if x13 then some (.stop (Out.ret false)) else need (0≤(Int.tmod x12.Handle 32:Int)∧(Int.tmod x12.Handle 32:Int) < 24) ((idx (x10:List Bool) (Int.tmod x12.Handle 32)).bind fun x14=>some (.next (aY (x9+1),x10.set ((Int.tmod x12.Handle 32).toNat) true))))
def lX(x6:bB):(Int×(List Bool))→Option (Step (Int×(List Bool)) (Out (List Bool) Bool))
  | (x9,x10)=>(if decide (x9 < (x6.Rows.length:Int)) then (idx x6.Rows x9).bind fun x12=>(iB x12.Handle).bind fun x15=>(if !x15 then j8 x9 x10 x12 true else (cS x12.aJ 0 100000).bind fun x16=>(if !x16 then j8 x9 x10 x12 true else need (0≤(Int.tmod x12.Handle 32:Int)∧(Int.tmod x12.Handle 32:Int) < 24) ((idx (x10:List Bool) (Int.tmod x12.Handle 32)).bind fun x17=>j8 x9 x10 x12 x17))) else some (.stop (Out.brk x10)))
def QZ(x3:Int):(Out (List Bool) Bool)→Option (Step (Int×(List Bool)) (Out Unit Bool))
  | .brk x11=>A7 x3 x11
  | .ret r=>some (.stop (Out.ret r))
def lY(l:List bB):(Int×(List Bool))→Option (Step (Int×(List Bool)) (Out Unit Bool))
  | (x3,x4)=>(if decide (x3 < (l.length:Int)) then (idx l x3).bind fun x6=>(loop (lX x6) (0,x4)).bind (QZ x3) else some (.stop (Out.brk ())))
def Q0(l:List bB):(Out Unit Bool)→Option Bool
  | .brk ()=>A6 l
  | .ret r=>some r
def mK(l:List bB):Option Bool:=
  (if (l.length:Int) != 3 then some false else (loop (lY l) (0,[false,false,false,false,false,false,false,false,false,false,false,false,false,false,false,false,false,false,false,false,false,false,false,false])).bind (Q0 l))
def v5(x1:Bool):Option Bool:=
  some x1
def rU(h:Int):Option Bool:=
  (if h == 0 then v5 true else (iB h).bind fun x2=>v5 x2)
def IN(h:Int):Option Bool:=
  (rU h).bind fun x1=>some (!x1)
def F8(x1:Bool):Option Bool:=
  some x1
def FE(z:List Int):Option Bool:=
  (if (z.length:Int) == 3 then (eR z (fun y0=>IN y0)).bind fun x2=>F8 (!x2) else F8 false)
def yY:Option Int:=
  some (-1)
def kH(s:List bB)(f:(bB→Option Bool)):Int→Option (Step Int (Out Unit Int))
  | x2=>(if decide (x2 < (s.length:Int)) then (idx s x2).bind fun x3=>(f x3).bind fun x4=>(if x4 then some (.stop (Out.ret x2)) else some (.next (aY (x2+1)))) else some (.stop (Out.brk ())))
def nW:(Out Unit Int)→Option Int
  | .brk ()=>yY
  | .ret r=>some r
def sA(s:List bB)(f:(bB→Option Bool)):Option Int:=
  (loop (kH s f) 0).bind (nW)
def iL(s:List bB)(f:(bB→Option Bool)):Option Bool:=
  (sA s f).bind fun x1=>some (decide (0≤x1))
def zT:Option Int:=
  some (-1)
def kR(s:List dO)(f:(dO→Option Bool)):Int→Option (Step Int (Out Unit Int))
  | x2=>(if decide (x2 < (s.length:Int)) then (idx s x2).bind fun x3=>(f x3).bind fun x4=>(if x4 then some (.stop (Out.ret x2)) else some (.next (aY (x2+1)))) else some (.stop (Out.brk ())))
def pT:(Out Unit Int)→Option Int
  | .brk ()=>zT
  | .ret r=>some r
def uR(s:List dO)(f:(dO→Option Bool)):Option Int:=
  (loop (kR s f) 0).bind (pT)
def iY(s:List dO)(f:(dO→Option Bool)):Option Bool:=
  (uR s f).bind fun x1=>some (decide (0≤x1))
def ID:Option Int:=
  some (-1)
def eY(s:List Int)(v:Int):Int→Option (Step Int (Out Unit Int))
  | x2=>(if decide (x2 < (s.length:Int)) then (idx s x2).bind fun x3=>(if v == x3 then some (.stop (Out.ret x2)) else some (.next (aY (x2+1)))) else some (.stop (Out.brk ())))
def qD:(Out Unit Int)→Option Int
  | .brk ()=>ID
  | .ret r=>some r
def m5(s:List Int)(v:Int):Option Int:=
  (loop (eY s v) 0).bind (qD)
def qE(s:List Int)(v:Int):Option Bool:=
  (m5 s v).bind fun x1=>some (decide (0≤x1))
def pU(s:aR)(k0:Int):Option Bool:=
  (qE s.aS k0).bind fun x1=>some x1
def yZ:Option Int:=
  some (-1)
def kI(s:List aR)(f:(aR→Option Bool)):Int→Option (Step Int (Out Unit Int))
  | x2=>(if decide (x2 < (s.length:Int)) then (idx s x2).bind fun x3=>(f x3).bind fun x4=>(if x4 then some (.stop (Out.ret x2)) else some (.next (aY (x2+1)))) else some (.stop (Out.brk ())))
def nX:(Out Unit Int)→Option Int
  | .brk ()=>yZ
  | .ret r=>some r
def sB(s:List aR)(f:(aR→Option Bool)):Option Int:=
  (loop (kI s f) 0).bind (nX)
def iM(s:List aR)(f:(aR→Option Bool)):Option Bool:=
  (sB s f).bind fun x1=>some (decide (0≤x1))
def C7(x1:Bool):Option Bool:=
  some x1
def HA(l:aD)(slot:Int):Option Bool:=
  (iM l.Global (fun y0=>pU y0 slot)).bind fun x2=>(if x2 then C7 true else (iM l.cT (fun y0=>pU y0 slot)).bind fun x3=>C7 x3)
def IP(m:Mem)(slot:Int):Option Int:=
  (pA m.aE slot).bind fun x1=>(if decide (x1 < 0) then some 0 else (HA m.aD slot).bind fun x2=>(if x2 then some 1 else (BV m.aE slot).bind fun x3=>(if decide (6 < x3) then some 2 else some 3)))
def v7(x1:Bool):Option Bool:=
  some x1
def CG(m:Mem)(h:Int):Option Bool:=
  (iB h).bind fun x2=>(if x2 then (IP m (Int.tmod h 32)).bind fun x3=>(if x3 == 3 then (BV m.aE (Int.tmod h 32)).bind fun x4=>v7 (x4 == (aY (Int.tdiv h 32))) else v7 false) else v7 false)
def sC(x1:Bool):Option Bool:=
  some x1
def A8(r_:dO)(k0:aA):Option Bool:=
  (CG k0.Mem r_.Handle).bind fun x2=>(if !x2 then sC true else sC (decide (k0.aC.aJ < r_.aJ)))
def F9(l:bB)(k0:aA):Option Bool:=
  (iY l.Rows (fun y0=>A8 y0 k0)).bind fun x1=>some x1
def qZ(b:aA)(x1:Bool):Option Bool:=
  (if x1 then some false else (iL b.aM (fun y0=>F9 y0 b)).bind fun x2=>some (!x2))
def LY(b:aA):Option Bool:=
  (J5 b.Mem).bind fun x3=>(if !x3 then qZ b true else (pB b.aC).bind fun x4=>(if !x4 then qZ b true else (mK b.aM).bind fun x5=>(if !x5 then qZ b true else (FE b.mP).bind fun x6=>qZ b (!x6))))
def v8(h:Int):Option Bool:=
  (rU h).bind fun x1=>some (!x1)
def CH:Option Int:=
  some (-1)
def lM(s:List bD)(f:(bD→Option Bool)):Int→Option (Step Int (Out Unit Int))
  | x2=>(if decide (x2 < (s.length:Int)) then (idx s x2).bind fun x3=>(f x3).bind fun x4=>(if x4 then some (.stop (Out.ret x2)) else some (.next (aY (x2+1)))) else some (.stop (Out.brk ())))
def rA:(Out Unit Int)→Option Int
  | .brk ()=>CH
  | .ret r=>some r
def v9(s:List bD)(f:(bD→Option Bool)):Option Int:=
  (loop (lM s f) 0).bind (rA)
def jH(s:List bD)(f:(bD→Option Bool)):Option Bool:=
  (v9 s f).bind fun x1=>some (decide (0≤x1))
def zU(x1:Bool):Option Bool:=
  some x1
def PO(j:bD):Option Bool:=
  (if !j.cY then some (decide (j=(⟨false,(⟨0,0,0,0⟩:bK),0,0,(⟨0,0,0,0,0,0,0,0,0,false⟩:Sub),0,0,0,0⟩:bD))) else (JU j.Op).bind fun x2=>(if x2 then (rU j.H).bind fun x3=>(if x3 then (rU j.Old).bind fun x4=>zU x4 else zU false) else zU false))
def C8(j:bD):Option Bool:=
  (PO j).bind fun x1=>some (!x1)
def i6(x1:Bool):Option Bool:=
  some x1
def pC(s:aB):Option Bool:=
  (LY s.aA).bind fun x2=>(if x2 then (if (s.Cells.length:Int) == 2 then (if (s.aT.length:Int) == 3 then (G6 s.aZ).bind fun x3=>(if x3 then (cS s.aI 0 1000000).bind fun x4=>(if x4 then (eR s.Cells (fun y0=>v8 y0)).bind fun x5=>(if !x5 then (jH s.aT (fun y0=>C8 y0)).bind fun x6=>i6 (!x6) else i6 false) else i6 false) else i6 false) else i6 false) else i6 false) else i6 false)
def SI(j:bD):Option Bool:=
  some j.cY
def SJ(q:Queue):Option Bool:=
  some (decide (0 < (q.fM.length:Int)))
def IQ(x1:Bool):Option Bool:=
  some x1
def OI(s:aB):Option Bool:=
  (jH s.aT (fun y0=>SI y0)).bind fun x2=>(if !x2 then (iK s.aZ (fun y0=>SJ y0)).bind fun x3=>IQ (!x3) else IQ false)
def j9(kind a_:Int):Option Sub:=
  some (⟨kind,a_,0,0,0,0,0,0,0,false⟩:Sub)
def dY(s:aB)(kind w_ handle val code:Int)(x1:bD):Option aB:=
  some ({s with Log:=s.Log++([(⟨kind,w_,x1.aI,x1.Op.Cell,handle,val,code⟩:Ev)])}:aB)
def dP(s:aB)(kind w_ handle val code:Int):Option aB:=
  (idx s.aT w_).bind fun x1=>need (s.Log.length+([(⟨kind,w_,x1.aI,x1.Op.Cell,handle,val,code⟩:Ev)]).length≤1073741824)<|dY s kind w_ handle val code x1
def xM(s:List bK)(i j:Int):Option (List bK):=
  need (0≤(i:Int)∧(i:Int)≤(j:Int)∧(j:Int)≤((s.length:Int):Int)∧((s.length:Int):Int)≤(s.length:Int)) ((if i == j then some s else need (0≤(i:Int)∧(i:Int)≤(s.length:Int)) (need (0≤(j:Int)∧(j:Int)≤(s.length:Int)) (need (i.toNat≤j.toNat) (need (0≤(((((dQ s i.toNat (s.drop j.toNat)).take (i.toNat+(s.length - j.toNat))).drop 0).length:Int):Int)∧(((((dQ s i.toNat (s.drop j.toNat)).take (i.toNat+(s.length - j.toNat))).drop 0).length:Int):Int)≤((s.length:Int):Int)∧((s.length:Int):Int)≤((dQ s i.toNat (s.drop j.toNat)).length:Int)) (some (((dQ s i.toNat (s.drop j.toNat)).take (i.toNat+(s.length - j.toNat))).drop 0)))))))
def bT(j:bD)(code:Int):Option bD:=
  some ({j with Pc:=9,Code:=code}:bD)
def eB(s:aB)(w_:Int)(x4:(List bK))(x5:bD):Option aB:=
  (idx s.aT w_).bind fun x6=>(dP ({s with aT:=s.aT.set w_.toNat x5,aZ:=s.aZ.set w_.toNat (⟨x4⟩:Queue),aI:=aY (s.aI+1)}:aB) 1 w_ 0 0 0).bind fun x7=>some x7
def j4(s:aB)(w_:Int)(x3:bK)(x4:(List bK))(x9:Bool):Option aB:=
  (if x9 then (j9 5 0).bind fun x10=>(idx s.aA.aC.cK w_).bind fun x11=>(if x11.On then (bT (⟨true,x3,aY (s.aI+1),0,x10,0,0,0,0⟩:bD) 1).bind fun x12=>eB s w_ x4 x12 else eB s w_ x4 (⟨true,x3,aY (s.aI+1),0,x10,0,0,0,0⟩:bD)) else (if x3.Kind == 4 then (j9 3 0).bind fun x13=>eB s w_ x4 (⟨true,x3,aY (s.aI+1),0,x13,0,0,0,0⟩:bD) else eB s w_ x4 (⟨true,x3,aY (s.aI+1),0,(⟨0,0,0,0,0,0,0,0,0,false⟩:Sub),0,0,0,0⟩:bD)))
def qF(s:aB)(w_:Int)(x1:Bool):Option aB:=
  (if x1 then some s else (idx s.aZ w_).bind fun x2=>(idx x2.fM 0).bind fun x3=>(xM x2.fM 0 1).bind fun x4=>(if x3.Kind == 1 then (j9 1 x3.gP).bind fun x8=>eB s w_ x4 (⟨true,x3,aY (s.aI+1),0,x8,0,0,0,0⟩:bD) else (if x3.Kind == 2 then j4 s w_ x3 x4 true else j4 s w_ x3 x4 (x3.Kind == 5))))
def xN(s:aB)(w_:Int):Option aB:=
  (idx s.aZ w_).bind fun x14=>(if (x14.fM.length:Int) == 0 then qF s w_ true else qF s w_ (s.aI == 1000000))
def bM(s:Sub)(code:Int):Option Sub:=
  some ({s with Code:=code,cW:=true}:Sub)
def aAV:Option Int:=
  some (-1)
def A9(x2:Int)(x3:Bool):Option (Step Int (Out Unit Int)):=
  (if x3 then some (.stop (Out.ret x2)) else some (.next (aY (x2+1))))
def kA(size:Int):Int→Option (Step Int (Out Unit Int))
  | x2=>(if decide (x2 < 3) then (if decide (1≤size) then (CE x2).bind fun x4=>A9 x2 (decide (size≤x4)) else A9 x2 false) else some (.stop (Out.brk ())))
def aAW:(Out Unit Int)→Option Int
  | .brk ()=>aAV
  | .ret r=>some r
def IS(size:Int):Option Int:=
  (loop (kA size) 0).bind (aAW)
def fF(w_:Int):Option Bool:=
  (cS w_ 0 2).bind fun x1=>some x1
def GA(w_ c:Int)(x1:Bool):Option Int:=
  (if x1 then some (-1) else some (aY ((aY (w_ * 3))+c)))
def J6(w_ c:Int):Option Int:=
  (fF w_).bind fun x2=>(if !x2 then GA w_ c true else (kP c).bind fun x3=>GA w_ c (!x3))
def wA(s:aR):Option (Int×aR):=
  (if decide ((aY ((s.aS.length:Int) - 1)) < 0) then some ((-1),s) else (idx s.aS (aY ((s.aS.length:Int) - 1))).bind fun x1=>need (0≤(aY ((s.aS.length:Int) - 1):Int)∧(aY ((s.aS.length:Int) - 1):Int)≤(aY ((s.aS.length:Int) - 1):Int)∧(aY ((s.aS.length:Int) - 1):Int)≤(s.aS.length:Int)) (some (x1,(⟨(s.aS.take ((aY ((s.aS.length:Int) - 1)).toNat)).drop 0⟩:aR))))
def BA(x1:aD)(x2:Int)(x3:Bool):Option (aD×Int):=
  (if x3 then some (x1,(-1)) else (idx x1.cT x2).bind fun x4=>(wA x4).bind fun x5=>some ((⟨x1.Global,x1.cT.set x2.toNat x5.2⟩:aD),x5.1))
def IT(l:aD)(w_ c:Int):Option (aD×Int):=
  (iX l).bind fun x1=>(J6 w_ c).bind fun x2=>(kQ l).bind fun x6=>(if !x6 then BA x1 x2 true else BA x1 x2 (decide (x2 < 0)))
def sD(c:Int)(x1:aD)(x2:Bool):Option (aD×Int):=
  (if x2 then some (x1,(-1)) else (idx x1.Global c).bind fun x3=>(wA x3).bind fun x4=>some ((⟨x1.Global.set c.toNat x4.2,x1.cT⟩:aD),x4.1))
def BC(l:aD)(c:Int):Option (aD×Int):=
  (iX l).bind fun x1=>(kQ l).bind fun x5=>(if !x5 then sD c x1 true else (kP c).bind fun x6=>sD c x1 (!x6))
def kS(width:Int):Option Bool:=
  (cS width 1 7).bind fun x1=>some x1
def aHR(x8:List UInt8):Option (List UInt8):=
  some x8
def GB:(Int×(List UInt8)×Int)→Option (Step (Int×(List UInt8)×Int) (List UInt8))
  | (x5,x6,x7)=>(if decide (0≤x7) then (idx x6 x7).bind fun x9=>some (.next (vQ .i64 x5 8,x6.set x7.toNat (u8 x5),aY (x7 - 1))) else some (.stop (x6)))
def aHS:(List UInt8)→Option (List UInt8)
  | x8=>aHR x8
def zV(n width:Int)(x1:Bool):Option (List UInt8):=
  (if x1 then some ([]) else need (0≤(width:Int)∧(width:Int)≤4294967296) ((loop (GB) (n,List.replicate (width.toNat) 0,aY (width - 1))).bind (aHS)))
def BW(n width:Int):Option (List UInt8):=
  (kS width).bind fun x10=>(if !x10 then zV n width true else (if decide (n < 0) then zV n width true else need (0≤(IntKind.u64.wrap (aY (8 * width)):Int)) (zV n width (decide ((aI6 .i64 1 (IntKind.u64.wrap (aY (8 * width))))≤n)))))
def SK(b x5:List Int):Option (List Int):=
  need (x5.length=b.length) (some x5)
def C9(b:List Int)(at_:Int)(text:List UInt8):((List Int)×Int)→Option (Step ((List Int)×Int) (List Int))
  | (x3,x4)=>need (x3.length=b.length) ((if decide (x4 < (text.length:Int)) then (idx text x4).bind fun x6=>(idx x3 (aY (at_+x4))).bind fun x7=>some (.next (x3.set ((aY (at_+x4)).toNat) (x6.toNat:Int),aY (x4+1))) else some (.stop (x3))))
def SL(b:List Int):(List Int)→Option (List Int)
  | x5=>SK b x5
def wB(b:List Int)(at_:Int)(text:List UInt8):Option (List Int):=
  (loop (C9 b at_ text) (b,0)).bind (SL b)
def DA(page index:Int)(x1:Bool):Option Int:=
  (if x1 then some (-1) else some (aY ((aY (page * 4))+index)))
def LZ(page index:Int):Option Int:=
  (cS page 0 5).bind fun x2=>(if !x2 then DA page index true else (cS index 0 3).bind fun x3=>DA page index (!x3))
def aHT(c:Int)(x1:aE)(x2:Int)(x13 x14:List Int):Option (aE×(List Int)):=
  some ((⟨x14,x1.Class.set x2.toNat c⟩:aE),x13)
def MU(x10:List Int)(x11 x15:Int)(x16:List Int):Option (Step ((List Int)×Int×(List Int)) ((List Int)×(List Int))):=
  need (x10.length+([x15]).length≤1073741824) (some (.next (x10++([x15]),aY (x11+1),x16)))
def GC(c x2 x6:Int):((List Int)×Int×(List Int))→Option (Step ((List Int)×Int×(List Int)) ((List Int)×(List Int)))
  | (x10,x11,x12)=>(if decide (x11 < x6) then (LZ x2 x11).bind fun x15=>(vW x15 c).bind fun x17=>(BW 1 4).bind fun x18=>(wB x12 x17 x18).bind fun x19=>MU x10 x11 x15 x19 else some (.stop ((x10,x12))))
def aHU(c:Int)(x1:aE)(x2:Int):((List Int)×(List Int))→Option (aE×(List Int))
  | (x13,x14)=>aHT c x1 x2 x13 x14
def MV(c:Int)(x1:aE)(x2:Int)(x5:List Int):Option (aE×(List Int)):=
  (o9 c).bind fun x6=>(loop (GC c x2 x6) (([]:List Int),0,x5)).bind (aHU c x1 x2)
def zW(c:Int)(x1:aE)(x2:Int)(x3:Bool):Option (aE×(List Int)):=
  (if x3 then some (x1,([]:List Int)) else (idx x1.Class x2).bind fun x4=>need (0≤(aY (x2 * 64):Int)∧(aY (x2 * 64):Int)≤(x1.Bytes.length:Int))<|(o9 c).bind fun x20=>MV c x1 x2 (dQ x1.Bytes ((aY (x2 * 64)).toNat) ([171,c,x20]:List Int)))
def FF(h:aE)(c:Int):Option (aE×(List Int)):=
  (uC h).bind fun x1=>(m5 h.Class (-1)).bind fun x2=>(G9 h).bind fun x21=>(if !x21 then zW c x1 x2 true else (kP c).bind fun x22=>(if !x22 then zW c x1 x2 true else zW c x1 x2 (decide (x2 < 0))))
def HV(x4:Int)(x5:Mem):Option (Mem×Int):=
  some (x5,x4)
def HW(c:Int)(x1:aE×(List Int))(x2:Mem):Option (Mem×Int):=
  (if (x1.2.length:Int) == 0 then some (x2,(-1)) else (idx x2.aD.Global c).bind fun x3=>need (0≤(1:Int)∧(1:Int)≤(x1.2.length:Int)) (need (x3.aS.length+((x1.2.take x1.2.length).drop ((1:Int).toNat)).length≤1073741824) ((idx x1.2 0).bind fun x6=>HV x6 (⟨x2.aE,(⟨x2.aD.Global.set c.toNat (⟨x3.aS++((x1.2.take x1.2.length).drop ((1:Int).toNat))⟩:aR),x2.aD.cT⟩:aD)⟩:Mem))))
def IU(m:Mem)(c:Int):Option (Mem×Int):=
  (FF m.aE c).bind fun x1=>(iX m.aD).bind fun x7=>HW c x1 (⟨x1.1,x7⟩:Mem)
def xO(slot gen:Int)(x1:Bool):Option Int:=
  (if x1 then some 0 else some (aY ((aY (gen * 32))+slot)))
def MW(slot gen:Int):Option Int:=
  (mU slot).bind fun x2=>(if !x2 then xO slot gen true else (cS gen 1 6).bind fun x3=>xO slot gen (!x3))
def GD(m:Mem)(slot:Int):Option Int:=
  (BV m.aE slot).bind fun x1=>(MW slot x1).bind fun x2=>some x2
def iU(s:Sub)(x3:Int)(x4:aA):Option (Sub×aA):=
  (if decide (0≤x3) then (GD x4.Mem x3).bind fun x5=>(bM ({s with Out:=x5}:Sub) 0).bind fun x6=>some (x6,x4) else (if s.Pc == 3 then (bM s 3).bind fun x7=>some (x7,x4) else some (({s with Pc:=aY (s.Pc+1)}:Sub),x4)))
def nO(s:Sub)(b:aA)(x1:Int)(x9:Bool):Option (Sub×aA):=
  (if x9 then (BC b.Mem.aD x1).bind fun x10=>iU s x10.2 ({b with Mem:=(⟨b.Mem.aE,x10.1⟩:Mem)}:aA) else (if s.Pc == 2 then (IU b.Mem x1).bind fun x11=>iU s x11.2 ({b with Mem:=x11.1}:aA) else (bM s 1).bind fun x12=>some (x12,b)))
def sG(s:Sub)(b:aA)(w_:Int):Option (Sub×aA):=
  (IS s.A).bind fun x1=>(if decide (x1 < 0) then (bM s 2).bind fun x2=>some (x2,b) else (if s.Pc == 0 then (IT b.Mem.aD w_ x1).bind fun x8=>iU s x8.2 ({b with Mem:=(⟨b.Mem.aE,x8.1⟩:Mem)}:aA) else (if s.Pc == 1 then nO s b x1 true else nO s b x1 (s.Pc == 3))))
def qG(x1:Bool):Option Bool:=
  some x1
def rB(r_:dO)(k0:Int):Option Bool:=
  (iB r_.Handle).bind fun x2=>(if x2 then qG ((Int.tmod r_.Handle 32) == k0) else qG false)
def DB(own:bB)(k0:Int):Option Bool:=
  (iY own.Rows (fun y0=>rB y0 k0)).bind fun x1=>some x1
def IV(l:List bB)(slot:Int):Option Bool:=
  (iL l (fun y0=>DB y0 slot)).bind fun x1=>some x1
def xQ(l:List bB)(w_ h e_:Int)(x1:Bool):Option ((List bB)×Bool):=
  (if x1 then (lA l).bind fun x2=>some (x2,false) else (lA l).bind fun x3=>(idx x3 w_).bind fun x4=>need (x4.Rows.length+([(⟨h,e_⟩:dO)]).length≤1073741824) ((mK (x3.set w_.toNat (⟨x4.Rows++([(⟨h,e_⟩:dO)])⟩:bB))).bind fun x5=>(if !x5 then (lA l).bind fun x6=>some (x6,false) else some (x3.set w_.toNat (⟨x4.Rows++([(⟨h,e_⟩:dO)])⟩:bB),true))))
def GF(l:List bB)(w_ h e_:Int):Option ((List bB)×Bool):=
  (mK l).bind fun x7=>(if !x7 then xQ l w_ h e_ true else (fF w_).bind fun x8=>xQ l w_ h e_ (!x8))
def mL(s:Sub)(b:aA)(w_:Int)(x3:Bool):Option (Sub×aA):=
  (if x3 then (bM s 4).bind fun x4=>some (x4,b) else (GF b.aM w_ s.A s.E).bind fun x5=>(bM s 0).bind fun x6=>some (x6,({b with aM:=x5.1}:aA)))
def mM(s:Sub)(b:aA)(w_:Int)(x1:Bool):Option (Sub×aA):=
  (if x1 then (bM s 1).bind fun x2=>some (x2,b) else (CG b.Mem s.A).bind fun x7=>(if !x7 then mL s b w_ true else (IV b.aM (Int.tmod s.A 32)).bind fun x8=>mL s b w_ x8))
def qH(s:Sub)(b:aA)(w_:Int):Option (Sub×aA):=
  (if s.Pc == 0 then some (({s with Pc:=1,E:=b.aC.aJ}:Sub),b) else (if s.Pc != 1 then mM s b w_ true else (cS s.E 0 b.aC.aJ).bind fun x9=>mM s b w_ (!x9)))
def rC(w_:Int)(x1:aC)(x4:Bool):Option (aC×Bool):=
  (if x4 then some (x1,true) else (idx x1.cK w_).bind fun x5=>(if decide (x5.Seen < 2) then some ((⟨x1.aJ,x1.cK.set w_.toNat ({x5 with Seen:=aY (x5.Seen+1)}:qA)⟩:aC),false) else some ((⟨x1.aJ,x1.cK.set w_.toNat ({x5 with dJ:=true,Seen:=0}:qA)⟩:aC),true)))
def DC(w_ e_:Int)(x1:aC)(x2:Bool):Option (aC×Bool):=
  (if x2 then some (x1,false) else (idx x1.cK w_).bind fun x3=>(if !x3.On then rC w_ x1 true else (if x3.dJ then rC w_ x1 true else rC w_ x1 (x3.aJ == e_))))
def L4(c:aC)(w_ e_:Int):Option (aC×Bool):=
  (k9 c).bind fun x1=>(pB c).bind fun x6=>(if !x6 then DC w_ e_ x1 true else (fF w_).bind fun x7=>DC w_ e_ x1 (!x7))
def DD(x1:aC)(x2:Bool):Option (aC×Bool):=
  (if x2 then some (x1,false) else some ((⟨aY (x1.aJ+1),x1.cK⟩:aC),true))
def UR(c:aC)(e_:Int):Option (aC×Bool):=
  (k9 c).bind fun x1=>(pB c).bind fun x3=>(if !x3 then DD x1 true else (if c.aJ != e_ then DD x1 true else DD x1 (c.aJ == 100000)))
def lN(s:Sub)(b:aA)(x4:aC×Bool)(x5:Int):Option (Sub×aA):=
  (bM ({s with Out:=x5}:Sub) 0).bind fun x6=>some (x6,({b with aC:=x4.1}:aA))
def lO(s:Sub)(b:aA)(x1:Bool):Option (Sub×aA):=
  (if x1 then (L4 b.aC s.B s.E).bind fun x2=>(if !x2.2 then (bM s 8).bind fun x3=>some (x3,({b with aC:=x2.1}:aA)) else (if (aY (s.B+1)) == 3 then some (({s with Pc:=2,B:=aY (s.B+1)}:Sub),({b with aC:=x2.1}:aA)) else some (({s with B:=aY (s.B+1)}:Sub),({b with aC:=x2.1}:aA)))) else (if s.Pc == 2 then (UR b.aC s.E).bind fun x4=>(if x4.2 then lN s b x4 1 else lN s b x4 s.Out) else (bM s 1).bind fun x7=>some (x7,b)))
def pD(s:Sub)(b:aA):Option (Sub×aA):=
  (if s.Pc == 0 then some (({s with Pc:=1,E:=b.aC.aJ,B:=0}:Sub),b) else (if s.Pc == 1 then (fF s.B).bind fun x8=>lO s b x8 else lO s b false))
def DE(x1:Bool):Option Bool:=
  some x1
def HB(l:List bB)(w_ i:Int):Option Bool:=
  (fF w_).bind fun x2=>(if x2 then (idx l w_).bind fun x3=>(cS i 0 (aY ((x3.Rows.length:Int) - 1))).bind fun x4=>DE x4 else DE false)
def IW(x1:Bool):Option Bool:=
  some x1
def OJ(r_:dO)(e_:Int):Option Bool:=
  (if decide (2≤e_) then IW (decide (r_.aJ≤(aY (e_ - 2)))) else IW false)
def HC(s:Sub)(b:aA):Option (Sub×aA):=
  (bM s 0).bind fun x3=>some (x3,b)
def fD(s:Sub)(b:aA)(w_:Int):Int→Option (Step Int (Out Unit (Sub×aA)))
  | x2=>(idx b.aM w_).bind fun x4=>(if decide (x2 < (x4.Rows.length:Int)) then (idx x4.Rows x2).bind fun x5=>(OJ x5 s.E).bind fun x6=>(if x6 then some (.stop (Out.ret (({s with Pc:=2,Row:=x2,B:=0,H:=x5.Handle}:Sub),b))) else some (.next (aY (x2+1)))) else some (.stop (Out.brk ())))
def SM(s:Sub)(b:aA):(Out Unit (Sub×aA))→Option (Sub×aA)
  | .brk ()=>HC s b
  | .ret r=>some r
def pE(s:Sub)(b:aA)(w_:Int):Option (Sub×aA):=
  (loop (fD s b w_) (if s.Row < 0 then 0 else s.Row)).bind (SM s b)
def BX(s:List dO)(i j:Int):Option (List dO):=
  need (0≤(i:Int)∧(i:Int)≤(j:Int)∧(j:Int)≤((s.length:Int):Int)∧((s.length:Int):Int)≤(s.length:Int)) ((if i == j then some s else need (0≤(i:Int)∧(i:Int)≤(s.length:Int)) (need (0≤(j:Int)∧(j:Int)≤(s.length:Int)) (need (i.toNat≤j.toNat) (need (0≤(((((dQ s i.toNat (s.drop j.toNat)).take (i.toNat+(s.length - j.toNat))).drop 0).length:Int):Int)∧(((((dQ s i.toNat (s.drop j.toNat)).take (i.toNat+(s.length - j.toNat))).drop 0).length:Int):Int)≤((s.length:Int):Int)∧((s.length:Int):Int)≤((dQ s i.toNat (s.drop j.toNat)).length:Int)) (some (((dQ s i.toNat (s.drop j.toNat)).take (i.toNat+(s.length - j.toNat))).drop 0)))))))
def BD(w_ i:Int)(x1:(List bB))(x2:Bool):Option ((List bB)×Bool):=
  (if x2 then some (x1,false) else (idx x1 w_).bind fun x3=>(BX x3.Rows i (aY (i+1))).bind fun x4=>some (x1.set w_.toNat (⟨x4⟩:bB),true))
def IX(l:List bB)(w_ i:Int):Option ((List bB)×Bool):=
  (lA l).bind fun x1=>(mK l).bind fun x5=>(if !x5 then BD w_ i x1 true else (HB l w_ i).bind fun x6=>BD w_ i x1 (!x6))
def J7(x3 x5:List Int):Option (aE×Bool):=
  some ((⟨x5,x3⟩:aE),true)
def DF(slot gen x1:Int)(x2 x3:List Int)(x4:Bool):Option (aE×Bool):=
  (if x4 then some ((⟨x2,x3⟩:aE),false) else (vW slot x1).bind fun x6=>(BW gen 4).bind fun x7=>(wB x2 x6 x7).bind fun x8=>J7 x3 x8)
def J8(slot gen x1:Int)(x2 x3:List Int):Option (aE×Bool):=
  (if decide (x1 < 0) then DF slot gen x1 x2 x3 true else (cS gen 1 7).bind fun x9=>DF slot gen x1 x2 x3 (!x9))
def SN(h:aE)(slot gen:Int):Option (aE×Bool):=
  (uC h).bind fun x10=>(r9 h slot).bind fun x11=>J8 slot gen x11 x10.Bytes x10.Class
def xR(c slot:Int)(x1:aD)(x2:Int)(x3:Bool):Option (aD×Bool):=
  (if x3 then some (x1,false) else (idx x1.cT x2).bind fun x4=>(if decide (2≤(x4.aS.length:Int)) then (idx x1.Global c).bind fun x5=>need (x5.aS.length+([slot]).length≤1073741824) (some ((⟨x1.Global.set c.toNat (⟨x5.aS++([slot])⟩:aR),x1.cT⟩:aD),true)) else need (x4.aS.length+([slot]).length≤1073741824) (some ((⟨x1.Global,x1.cT.set x2.toNat (⟨x4.aS++([slot])⟩:aR)⟩:aD),true))))
def ZF(l:aD)(w_ c slot:Int):Option (aD×Bool):=
  (iX l).bind fun x1=>(J6 w_ c).bind fun x2=>(kQ l).bind fun x6=>(if !x6 then xR c slot x1 x2 true else (if decide (x2 < 0) then xR c slot x1 x2 true else (mU slot).bind fun x7=>(if !x7 then xR c slot x1 x2 true else (HA l slot).bind fun x8=>xR c slot x1 x2 x8)))
def MX(x3:Mem):Option Mem:=
  some x3
def MY(m:Mem)(w_ h:Int)(x2:Mem):Option Mem:=
  (if decide ((aY ((aY (Int.tdiv h 32))+1))≤6) then (pA m.aE (Int.tmod h 32)).bind fun x4=>(ZF m.aD w_ x4 (Int.tmod h 32)).bind fun x5=>MX (⟨x2.aE,x5.1⟩:Mem) else MX x2)
def PQ(m:Mem)(w_ h:Int):Option Mem:=
  (SN m.aE (Int.tmod h 32) (aY ((aY (Int.tdiv h 32))+1))).bind fun x1=>(iX m.aD).bind fun x6=>MY m w_ h (⟨x1.1,x6⟩:Mem)
def dX(s:Sub)(b:aA)(w_:Int)(x5:Bool):Option (Sub×aA):=
  (if x5 then (IX b.aM w_ s.Row).bind fun x6=>(PQ b.Mem w_ s.H).bind fun x7=>some (({s with Pc:=1,Out:=aY (s.Out+1)}:Sub),({b with Mem:=x7,aM:=x6.1}:aA)) else (bM s 1).bind fun x8=>some (x8,b))
def eU(s:Sub)(b:aA)(w_:Int)(x1 x3:Bool):Option (Sub×aA):=
  (if x3 then (idx b.mP s.B).bind fun x4=>(if x4 == s.H then some (({s with Pc:=1,Row:=aY (s.Row+1)}:Sub),b) else (if (aY (s.B+1)) == 3 then some (({s with Pc:=3,B:=aY (s.B+1)}:Sub),b) else some (({s with B:=aY (s.B+1)}:Sub),b))) else (if s.Pc == 3 then (if x1 then (idx b.aM w_).bind fun x9=>(idx x9.Rows s.Row).bind fun x10=>(OJ x10 s.E).bind fun x11=>dX s b w_ x11 else dX s b w_ false) else dX s b w_ false))
def fW(s:Sub)(b:aA)(w_:Int)(x1:Bool):Option (Sub×aA):=
  (if s.Pc == 0 then some (({s with Pc:=1,E:=b.aC.aJ,Row:=0}:Sub),b) else (if s.Pc == 1 then (pE s b w_).bind fun x2=>some (x2.1,x2.2) else (if s.Pc == 2 then (fF s.B).bind fun x12=>(if x12 then eU s b w_ x1 x1 else eU s b w_ x1 false) else eU s b w_ x1 false)))
def pG(s:Sub)(b:aA)(w_:Int):Option (Sub×aA):=
  (HB b.aM w_ s.Row).bind fun x13=>(if x13 then (idx b.aM w_).bind fun x14=>(idx x14.Rows s.Row).bind fun x15=>fW s b w_ (x15.Handle == s.H) else fW s b w_ false)
def zX(w_ e_:Int)(x1:aC)(x2:Bool):Option (aC×Bool):=
  (if x2 then some (x1,false) else (idx x1.cK w_).bind fun x3=>some ((⟨x1.aJ,x1.cK.set w_.toNat (⟨true,e_,false,0⟩:qA)⟩:aC),true))
def PR(c:aC)(w_ e_:Int):Option (aC×Bool):=
  (k9 c).bind fun x1=>(pB c).bind fun x4=>(if !x4 then zX w_ e_ x1 true else (fF w_).bind fun x5=>(if !x5 then zX w_ e_ x1 true else (cS e_ 0 c.aJ).bind fun x6=>zX w_ e_ x1 (!x6)))
def zF(s:Sub)(b:aA)(x1:Bool)(x2:Int)(x3:List qA):Option (Sub×aA):=
  (if !x1 then (bM s 1).bind fun x4=>some (x4,b) else some (({s with Pc:=2}:Sub),({b with aC:=(⟨x2,x3⟩:aC)}:aA)))
def xS(s:Sub)(b:aA)(w_:Int):Option (Sub×aA):=
  (if s.Pc == 0 then some (({s with Pc:=1,E:=b.aC.aJ}:Sub),b) else (if s.Pc == 1 then (PR b.aC w_ s.E).bind fun x5=>zF s b x5.2 x5.1.aJ x5.1.cK else (if s.Pc == 2 then (if b.aC.aJ == s.E then (bM s 0).bind fun x6=>some (x6,b) else some (({s with Pc:=0}:Sub),b)) else (bM s 1).bind fun x7=>some (x7,b))))
def kT(s:Sub)(b:aA)(w_:Int):Option (Sub×aA):=
  (if s.cW then some (s,b) else (if s.Kind == 1 then (sG s b w_).bind fun x1=>some (x1.1,x1.2) else (if s.Kind == 2 then (qH s b w_).bind fun x2=>some (x2.1,x2.2) else (if s.Kind == 3 then (pD s b).bind fun x3=>some (x3.1,x3.2) else (if s.Kind == 4 then (pG s b w_).bind fun x4=>some (x4.1,x4.2) else (if s.Kind == 5 then (xS s b w_).bind fun x5=>some (x5.1,x5.2) else (bM s 1).bind fun x6=>some (x6,b)))))))
def dU(j:bD)(pc:Int):Option bD:=
  some ({j with Pc:=pc,Code:=0}:bD)
def IY(slot c:Int):Option Int:=
  (vW slot c).bind fun x1=>(if decide (x1 < 0) then some (-1) else some (aY (x1+4)))
def PT(slot c:Int):Option Span:=
  (IY slot c).bind fun x1=>(if decide (x1 < 0) then some (⟨0,0⟩:Span) else (CE c).bind fun x2=>some (⟨x1,aY (x1+x2)⟩:Span))
def xU(h:aE)(slot at_ width:Int):Option Int:=
  (pA h slot).bind fun x1=>(PT slot x1).bind fun x2=>(cS at_ 0 (aY ((aY (x2.To - x2.aWW)) - width))).bind fun x3=>(if !x3 then some (-1) else some (aY (x2.aWW+at_)))
def DG(m:Mem)(h at_ width:Int)(x1:Bool):Option (Int×Int):=
  (if x1 then some (0,1) else (CG m h).bind fun x2=>(if !x2 then some (0,4) else (xU m.aE (Int.tmod h 32) at_ width).bind fun x3=>(if decide (x3 < 0) then some (0,2) else (mI m.aE.Bytes x3 width).bind fun x4=>some (x4,0))))
def SO(m:Mem)(h at_ width:Int):Option (Int×Int):=
  (J5 m).bind fun x5=>(if !x5 then DG m h at_ width true else (kS width).bind fun x6=>DG m h at_ width (!x6))
def Q1(x4:Mem):Option (Mem×Int):=
  some (x4,0)
def IZ(m:Mem)(h at_ width n:Int):Option (Mem×Int):=
  (CZ m).bind fun x1=>(BW n width).bind fun x2=>(SO m h at_ width).bind fun x3=>(if x3.2 != 0 then some (x1,x3.2) else (if x2 == ([]) then some (x1,1) else (xU m.aE (Int.tmod h 32) at_ width).bind fun x5=>(wB x1.aE.Bytes x5 x2).bind fun x6=>Q1 (⟨(⟨x6,x1.aE.Class⟩:aE),x1.aD⟩:Mem)))
def DH(s:aB)(w_ x7:Int)(x8:Mem):Option aB:=
  (if x7 != 0 then (idx s.aT w_).bind fun x9=>(bT x9 x7).bind fun x10=>some ({s with aT:=s.aT.set w_.toNat x10}:aB) else (idx s.aT w_).bind fun x11=>(dU x11 2).bind fun x12=>some ({s with aA:=(⟨x8,s.aA.aC,s.aA.aM,s.aA.mP⟩:aA),aT:=s.aT.set w_.toNat x12}:aB))
def DI(w_:Int)(x17:aB):Option aB:=
  (idx x17.aT w_).bind fun x18=>(if x18.Old == 0 then (bT x18 0).bind fun x19=>some ({x17 with aT:=x17.aT.set w_.toNat x19}:aB) else (j9 2 x18.Old).bind fun x20=>(dU ({x18 with Sub:=x20}:bD) 3).bind fun x21=>some ({x17 with aT:=x17.aT.set w_.toNat x21}:aB))
def DJ(s:aB)(w_:Int)(x14:bD)(x15:Int)(x16:List Int):Option aB:=
  (idx (s.aT.set w_.toNat ({x14 with Old:=x15}:bD)) w_).bind fun x22=>(dP ({s with Cells:=x16,aT:=s.aT.set w_.toNat ({x14 with Old:=x15}:bD)}:aB) 2 w_ x22.H x22.Op.dK 0).bind fun x23=>DI w_ x23
def DK(s:aB)(w_:Int):Option aB:=
  (idx s.aT w_).bind fun x1=>(if x1.Pc == 0 then (kT x1.Sub s.aA w_).bind fun x2=>(if !x2.1.cW then some ({s with aA:=x2.2,aT:=s.aT.set w_.toNat ({x1 with Sub:=x2.1}:bD)}:aB) else (if x2.1.Code != 0 then (bT ({x1 with Sub:=x2.1}:bD) x2.1.Code).bind fun x3=>some ({s with aA:=x2.2,aT:=s.aT.set w_.toNat x3}:aB) else (iB x2.1.Out).bind fun x4=>(if !x4 then (bT ({x1 with Sub:=x2.1}:bD) 1).bind fun x5=>some ({s with aA:=x2.2,aT:=s.aT.set w_.toNat x5}:aB) else (dU ({x1 with Sub:=x2.1,H:=x2.1.Out}:bD) 1).bind fun x6=>some ({s with aA:=x2.2,aT:=s.aT.set w_.toNat x6}:aB)))) else (if x1.Pc == 1 then (IZ s.aA.Mem x1.H 0 4 x1.Op.dK).bind fun x13=>DH s w_ x13.2 x13.1 else (if x1.Pc == 2 then (idx s.aT w_).bind fun x14=>(idx s.Cells x14.Op.Cell).bind fun x15=>(idx (s.aT.set w_.toNat ({x14 with Old:=x15}:bD)) w_).bind fun x24=>(idx s.Cells x24.Op.Cell).bind fun x25=>DJ s w_ x14 x15 (s.Cells.set x24.Op.Cell.toNat x24.H) else (if x1.Pc == 3 then (kT x1.Sub s.aA w_).bind fun x26=>(if x26.1.cW then (bT ({x1 with Sub:=x26.1}:bD) x26.1.Code).bind fun x27=>some ({s with aA:=x26.2,aT:=s.aT.set w_.toNat x27}:aB) else some ({s with aA:=x26.2,aT:=s.aT.set w_.toNat ({x1 with Sub:=x26.1}:bD)}:aB)) else (bT x1 1).bind fun x28=>some ({s with aT:=s.aT.set w_.toNat x28}:aB)))))
def wC(s:aB)(w_:Int):Option aB:=
  (idx s.aT w_).bind fun x1=>(idx s.aT w_).bind fun x2=>(idx s.Cells x2.Op.Cell).bind fun x3=>(dP ({s with aT:=s.aT.set w_.toNat ({x2 with H:=x3}:bD)}:aB) 3 w_ x3 0 0).bind fun x4=>some x4
def tJ(b:aA)(h at_ width:Int)(x1:Bool):Option (Int×Bool):=
  (if x1 then some (0,false) else (xU b.Mem.aE (Int.tmod h 32) at_ width).bind fun x2=>(if decide (x2 < 0) then some (0,false) else (mI b.Mem.aE.Bytes x2 width).bind fun x3=>some (x3,true)))
def I0(b:aA)(h at_ width:Int):Option (Int×Bool):=
  (iB h).bind fun x4=>(if !x4 then tJ b h at_ width true else (r9 b.Mem.aE (Int.tmod h 32)).bind fun x5=>(if decide (x5 < 0) then tJ b h at_ width true else (kS width).bind fun x6=>tJ b h at_ width (!x6)))
def lZ(s:aB)(w_:Int):Option aB:=
  (idx s.aT w_).bind fun x1=>(I0 s.aA x1.H 0 4).bind fun x2=>some ({s with aT:=s.aT.set w_.toNat ({x1 with dK:=x2.1}:bD)}:aB)
def kJ(x1:Bool):Option Bool:=
  some x1
def sH(p:qA):Option Bool:=
  (if p.On then kJ (!p.dJ) else kJ false)
def mC(s:aB)(w_ pc:Int):Option aB:=
  (idx s.aT w_).bind fun x1=>(dU x1 pc).bind fun x2=>(idx s.aA.aC.cK w_).bind fun x3=>(sH x3).bind fun x4=>(if !x4 then some ({s with aT:=s.aT.set w_.toNat ({x2 with dK:=0,Code:=6}:bD)}:aB) else some ({s with aT:=s.aT.set w_.toNat x2}:aB))
def zY(w_:Int)(x1:aC)(x2:Bool):Option (aC×Bool):=
  (if x2 then some (x1,false) else (idx x1.cK w_).bind fun x3=>some ((⟨x1.aJ,x1.cK.set w_.toNat (⟨false,0,false,0⟩:qA)⟩:aC),true))
def PU(c:aC)(w_:Int):Option (aC×Bool):=
  (k9 c).bind fun x1=>(pB c).bind fun x4=>(if !x4 then zY w_ x1 true else (fF w_).bind fun x5=>(if !x5 then zY w_ x1 true else (idx c.cK w_).bind fun x6=>zY w_ x1 (!x6.On)))
def tK(b:aA)(w_:Int):Option (Bool×aA):=
  (PU b.aC w_).bind fun x1=>some (x1.2,({b with aC:=x1.1}:aA))
def DL(s:aB)(w_:Int):Option aB:=
  (idx s.aT w_).bind fun x1=>(if x1.Pc == 0 then (kT x1.Sub s.aA w_).bind fun x2=>(if x2.1.cW then (dU ({x1 with Sub:=x2.1}:bD) 1).bind fun x3=>some ({s with aA:=x2.2,aT:=s.aT.set w_.toNat x3}:aB) else some ({s with aA:=x2.2,aT:=s.aT.set w_.toNat ({x1 with Sub:=x2.1}:bD)}:aB)) else (if x1.Pc == 1 then (wC s w_).bind fun x4=>(idx x4.aT w_).bind fun x5=>(dU x5 2).bind fun x6=>(if x6.H == 0 then some ({x4 with aT:=x4.aT.set w_.toNat ({x6 with Pc:=4,Code:=8}:bD)}:aB) else some ({x4 with aT:=x4.aT.set w_.toNat x6}:aB)) else (if x1.Pc == 2 then (lZ s w_).bind fun x7=>(idx x7.aT w_).bind fun x8=>(dU x8 3).bind fun x9=>some ({x7 with aT:=x7.aT.set w_.toNat x9}:aB) else (if x1.Pc == 3 then (mC s w_ 4).bind fun x10=>some x10 else (if x1.Pc == 4 then (tK s.aA w_).bind fun x11=>(bT x1 x1.Code).bind fun x12=>some ({s with aA:=x11.2,aT:=s.aT.set w_.toNat x12}:aB) else (bT x1 1).bind fun x13=>some ({s with aT:=s.aT.set w_.toNat x13}:aB))))))
def tL(w_ h:Int)(x1:(List Int))(x2:Bool):Option ((List Int)×Bool):=
  (if x2 then some (x1,false) else (idx x1 w_).bind fun x3=>some (x1.set w_.toNat h,true))
def I1(z:List Int)(w_ h:Int):Option ((List Int)×Bool):=
  (fV z).bind fun x1=>(FE z).bind fun x4=>(if !x4 then tL w_ h x1 true else (fF w_).bind fun x5=>(if !x5 then tL w_ h x1 true else (iB h).bind fun x6=>tL w_ h x1 (!x6)))
def zZ(w_:Int)(x1:(List Int))(x2:Bool):Option ((List Int)×Bool):=
  (if x2 then some (x1,false) else (idx x1 w_).bind fun x3=>some (x1.set w_.toNat 0,true))
def PW(z:List Int)(w_:Int):Option ((List Int)×Bool):=
  (fV z).bind fun x1=>(FE z).bind fun x4=>(if !x4 then zZ w_ x1 true else (fF w_).bind fun x5=>(if !x5 then zZ w_ x1 true else (idx z w_).bind fun x6=>zZ w_ x1 (x6 == 0)))
def DM(s:aB)(w_:Int)(x7:List Int):Option aB:=
  (idx s.aT w_).bind fun x8=>(dU x8 2).bind fun x9=>some ({s with aA:=(⟨s.aA.Mem,s.aA.aC,s.aA.aM,x7⟩:aA),aT:=s.aT.set w_.toNat x9}:aB)
def DN(s:aB)(w_:Int)(x11:Bool):Option aB:=
  (if x11 then (idx s.aT w_).bind fun x12=>(dU x12 0).bind fun x13=>some ({s with aT:=s.aT.set w_.toNat x13}:aB) else (idx s.aT w_).bind fun x14=>(dP s 3 w_ x14.H 0 0).bind fun x15=>(idx x15.aT w_).bind fun x16=>(dU x16 3).bind fun x17=>some ({x15 with aT:=x15.aT.set w_.toNat x17}:aB))
def DO(s:aB)(w_:Int):Option aB:=
  (idx s.aT w_).bind fun x1=>(if x1.Pc == 0 then (idx s.aT w_).bind fun x2=>(idx s.Cells x2.Op.Cell).bind fun x3=>(dU ({x2 with H:=x3}:bD) 1).bind fun x4=>(if x4.H == 0 then (dP ({s with aT:=s.aT.set w_.toNat x4}:aB) 3 w_ 0 0 0).bind fun x5=>(idx x5.aT w_).bind fun x6=>some ({x5 with aT:=x5.aT.set w_.toNat ({x6 with Pc:=4,Code:=8}:bD)}:aB) else some ({s with aT:=s.aT.set w_.toNat x4}:aB)) else (if x1.Pc == 1 then (I1 s.aA.mP w_ x1.H).bind fun x10=>DM s w_ x10.1 else (if x1.Pc == 2 then (idx s.aT w_).bind fun x18=>(idx s.Cells x18.Op.Cell).bind fun x19=>DN s w_ (x19 != x18.H) else (if x1.Pc == 3 then (lZ s w_).bind fun x20=>(idx x20.aT w_).bind fun x21=>(dU x21 4).bind fun x22=>some ({x20 with aT:=x20.aT.set w_.toNat x22}:aB) else (if x1.Pc == 4 then (PW s.aA.mP w_).bind fun x23=>(bT x1 x1.Code).bind fun x24=>some ({s with aA:=(⟨s.aA.Mem,s.aA.aC,s.aA.aM,x23.1⟩:aA),aT:=s.aT.set w_.toNat x24}:aB) else (bT x1 1).bind fun x25=>some ({s with aT:=s.aT.set w_.toNat x25}:aB))))))
def sI(s:aB)(w_:Int)(x5:Bool):Option aB:=
  (if x5 then (idx s.aT w_).bind fun x6=>(bT x6 6).bind fun x7=>some ({s with aT:=s.aT.set w_.toNat x7}:aB) else (idx s.aT w_).bind fun x8=>(if x8.Pc == 0 then (wC s w_).bind fun x9=>(idx x9.aT w_).bind fun x10=>(dU x10 1).bind fun x11=>(if x11.H == 0 then (bT x11 8).bind fun x12=>some ({x9 with aT:=x9.aT.set w_.toNat x12}:aB) else some ({x9 with aT:=x9.aT.set w_.toNat x11}:aB)) else (if x8.Pc == 1 then (lZ s w_).bind fun x13=>(idx x13.aT w_).bind fun x14=>(dU x14 2).bind fun x15=>some ({x13 with aT:=x13.aT.set w_.toNat x15}:aB) else (if x8.Pc == 2 then (mC s w_ 9).bind fun x16=>some x16 else (bT x8 1).bind fun x17=>some ({s with aT:=s.aT.set w_.toNat x17}:aB)))))
def sJ(s:aB)(w_:Int)(x1:qA)(x2:Bool):Option aB:=
  (if x2 then (idx s.aT w_).bind fun x3=>(bT x3 5).bind fun x4=>some ({s with aT:=s.aT.set w_.toNat x4}:aB) else (idx s.aT w_).bind fun x18=>(if x18.Pc == 0 then sI s w_ x1.dJ else sI s w_ false))
def BY(s:aB)(w_:Int)(x1:qA):Option aB:=
  (idx s.aT w_).bind fun x19=>(if x19.Pc == 0 then sJ s w_ x1 (!x1.On) else sJ s w_ x1 false)
def BE(s:aB)(w_:Int):Option aB:=
  (idx s.aT w_).bind fun x20=>(idx s.aA.aC.cK w_).bind fun x21=>BY s w_ x21
def qI(w_ x3:Int)(x4:aB):Option aB:=
  (idx x4.aT w_).bind fun x5=>(bT x5 x3).bind fun x6=>some ({x4 with aT:=x4.aT.set w_.toNat x6}:aB)
def qJ(s:aB)(w_:Int)(x17:Bool):Option aB:=
  (if x17 then (idx s.aT w_).bind fun x18=>(kT x18.Sub s.aA w_).bind fun x19=>(if x19.1.cW then (bT ({x18 with Sub:=x19.1,dK:=x19.1.Out}:bD) x19.1.Code).bind fun x20=>some ({s with aA:=x19.2,aT:=s.aT.set w_.toNat x20}:aB) else some ({s with aA:=x19.2,aT:=s.aT.set w_.toNat ({x18 with Sub:=x19.1}:bD)}:aB)) else (idx s.aT w_).bind fun x21=>(bT x21 1).bind fun x22=>some ({s with aT:=s.aT.set w_.toNat x22}:aB))
def qK(s:aB)(w_:Int)(x12:Bool):Option aB:=
  (if x12 then (idx s.aT w_).bind fun x13=>(kT x13.Sub s.aA w_).bind fun x14=>(if x14.1.cW then (j9 4 0).bind fun x15=>(dU ({x13 with Sub:=x15}:bD) 1).bind fun x16=>some ({s with aA:=x14.2,aT:=s.aT.set w_.toNat x16}:aB) else some ({s with aA:=x14.2,aT:=s.aT.set w_.toNat ({x13 with Sub:=x14.1}:bD)}:aB)) else (idx s.aT w_).bind fun x23=>(if x23.Op.Kind == 4 then qJ s w_ (x23.Pc == 1) else qJ s w_ false))
def qL(s:aB)(w_:Int)(x8:Bool):Option aB:=
  (if x8 then (idx s.aT w_).bind fun x9=>(kT x9.Sub s.aA w_).bind fun x10=>(if x10.1.cW then (bT ({x9 with Sub:=x10.1}:bD) x10.1.Code).bind fun x11=>some ({s with aA:=x10.2,aT:=s.aT.set w_.toNat x11}:aB) else some ({s with aA:=x10.2,aT:=s.aT.set w_.toNat ({x9 with Sub:=x10.1}:bD)}:aB)) else (idx s.aT w_).bind fun x24=>(if x24.Op.Kind == 4 then qK s w_ (x24.Pc == 0) else qK s w_ false))
def qM(s:aB)(w_:Int)(x2:Bool):Option aB:=
  (if x2 then (tK s.aA w_).bind fun x7=>(if !x7.1 then qI w_ 5 ({s with aA:=x7.2}:aB) else qI w_ 0 ({s with aA:=x7.2}:aB)) else (idx s.aT w_).bind fun x25=>(if x25.Op.Kind == 5 then qL s w_ (x25.Pc == 0) else qL s w_ false))
def xV(s:aB)(w_:Int):Option aB:=
  (idx s.aT w_).bind fun x1=>(if x1.Op.Kind == 6 then qM s w_ (x1.Pc == 0) else qM s w_ false)
def l4(s:aB)(w_:Int):Option aB:=
  (idx s.aT w_).bind fun x1=>(if !x1.cY then (xN s w_).bind fun x2=>some x2 else (if x1.Pc == 9 then (dP s 4 w_ x1.H x1.dK x1.Code).bind fun x3=>(idx x3.aT w_).bind fun x4=>some ({x3 with aT:=x3.aT.set w_.toNat (⟨false,(⟨0,0,0,0⟩:bK),0,0,(⟨0,0,0,0,0,0,0,0,0,false⟩:Sub),0,0,0,0⟩:bD)}:aB) else (if x1.Op.Kind == 1 then (DK s w_).bind fun x5=>some x5 else (if x1.Op.Kind == 2 then (DL s w_).bind fun x6=>some x6 else (if x1.Op.Kind == 3 then (DO s w_).bind fun x7=>some x7 else (if x1.Op.Kind == 7 then (BE s w_).bind fun x8=>some x8 else (xV s w_).bind fun x9=>some x9))))))
def aEP(x7:aB):Option aB:=
  some x7
def rD(x5:Int)(x8:Bool)(x9:aB):Option (Step (Int×aB) aB):=
  (if x8 then (l4 x9 (Int.tmod x5 3)).bind fun x10=>some (.next (aY (x5+1),x10)) else some (.stop (x9)))
def wD:(Int×aB)→Option (Step (Int×aB) aB)
  | (x5,x6)=>(if decide (x5 < 3000) then (OI x6).bind fun x11=>rD x5 (!x11) x6 else rD x5 false x6)
def aEQ:aB→Option aB
  | x7=>aEP x7
def iP(s:aB):Option aB:=
  (qT s).bind fun x1=>(pC s).bind fun x2=>(if !x2 then some x1 else (loop (wD) (0,x1)).bind (aEQ))
def Q2(x y:Int):Option (Int×Int):=
  some (IntKind.u64.wrap ((IntKind.u64.wrap ((IntKind.u64.wrap ((vQ .u64 x 32) * (vQ .u64 y 32)))+(vQ .u64 (IntKind.u64.wrap ((IntKind.u64.wrap ((vQ .u64 x 32) * (hJ .and .u64 y 4294967295)))+(vQ .u64 (IntKind.u64.wrap ((hJ .and .u64 x 4294967295) * (hJ .and .u64 y 4294967295))) 32))) 32)))+(vQ .u64 (IntKind.u64.wrap ((hJ .and .u64 (IntKind.u64.wrap ((IntKind.u64.wrap ((vQ .u64 x 32) * (hJ .and .u64 y 4294967295)))+(vQ .u64 (IntKind.u64.wrap ((hJ .and .u64 x 4294967295) * (hJ .and .u64 y 4294967295))) 32))) 4294967295)+(IntKind.u64.wrap ((hJ .and .u64 x 4294967295) * (vQ .u64 y 32))))) 32)),IntKind.u64.wrap (x * y))
def uG(x y:Int):Option (Int×Int):=
  (Q2 x y).bind fun x1=>some (x1.1,x1.2)
def SP(x7:List Int):Option (List Int):=
  some x7
def lB:((List Int)×Int)→Option (Step ((List Int)×Int) (List Int))
  | (x5,x6)=>(if decide (x6 < (x5.length:Int)) then need (0≤(x6:Int)∧(x6:Int)≤(x5.length:Int)) (need (0≤(x6:Int)∧(x6:Int)≤(x5.length:Int)) (some (.next (dQ x5 x6.toNat ((x5.take x6.toNat).drop 0),aY (x6+((min ((x5.take x6.toNat).drop 0).length (x5.length - x6.toNat):Nat):Int)))))) else some (.stop (x5)))
def SQ:(List Int)→Option (List Int)
  | x7=>SP x7
def pH(x:List Int)(x1:Int×Int)(x2:Bool):Option (List Int):=
  (if x2 then none else need (0≤(IntKind.i64.wrap x1.2:Int)∧(IntKind.i64.wrap x1.2:Int)≤4294967296) ((loop (lB) (dQ (List.replicate ((IntKind.i64.wrap x1.2).toNat) 0) 0 x,((min x.length ((List.replicate ((IntKind.i64.wrap x1.2).toNat) 0:List Int).length - 0):Nat):Int))).bind (SQ)))
def vC(x:List Int)(count:Int):Option (List Int):=
  (if decide (count < 0) then none else (uG (IntKind.u64.wrap (x.length:Int)) (IntKind.u64.wrap count)).bind fun x1=>(if decide (0 < x1.1) then pH x x1 true else pH x x1 (decide (9223372036854775807 < x1.2))))
def Q3(x1:List Int):Option aE:=
  some (⟨List.replicate ((384:Int).toNat) 0,x1⟩:aE)
def I2:Option aE:=
  need (0≤(384:Int)∧(384:Int)≤4294967296)<|(vC ([(-1)]) 6).bind fun x2=>Q3 x2
def OK:Option aD:=
  some (⟨List.replicate ((3:Int).toNat) (⟨[]⟩:aR),List.replicate ((9:Int).toNat) (⟨[]⟩:aR)⟩:aD)
def MZ:Option aD:=
  need (0≤(3:Int)∧(3:Int)≤4294967296)<|need (0≤(9:Int)∧(9:Int)≤4294967296)<|OK
def SR:Option Mem:=
  (I2).bind fun x1=>(MZ).bind fun x2=>some (⟨x1,x2⟩:Mem)
def M0:Option aC:=
  need (0≤(3:Int)∧(3:Int)≤4294967296) (some (⟨0,List.replicate ((3:Int).toNat) (⟨false,0,false,0⟩:qA)⟩:aC))
def M1:Option (List bB):=
  need (0≤(3:Int)∧(3:Int)≤4294967296) (some (List.replicate ((3:Int).toNat) (⟨[]⟩:bB)))
def SS:Option (List Int):=
  need (0≤(3:Int)∧(3:Int)≤4294967296) (some (List.replicate ((3:Int).toNat) 0))
def I3:Option aA:=
  (SR).bind fun x1=>(M0).bind fun x2=>(M1).bind fun x3=>(SS).bind fun x4=>some (⟨x1,x2,x3,x4⟩:aA)
def OL(x2:aB):Option aB:=
  some ({x2 with Log:=[]}:aB)
def pW(todo:List Queue):Option aB:=
  (G6 todo).bind fun x1=>(if !x1 then some (⟨(⟨(⟨(⟨[],[]⟩:aE),(⟨[],[]⟩:aD)⟩:Mem),(⟨0,[]⟩:aC),[],[]⟩:aA),[],[],[],[],0⟩:aB) else (I3).bind fun x3=>need (0≤(2:Int)∧(2:Int)≤4294967296)<|need (0≤(3:Int)∧(3:Int)≤4294967296)<|(zP todo).bind fun x4=>OL (⟨x3,List.replicate ((2:Int).toNat) 0,List.replicate ((3:Int).toNat) (⟨false,(⟨0,0,0,0⟩:bK),0,0,(⟨0,0,0,0,0,0,0,0,0,false⟩:Sub),0,0,0,0⟩:bD),x4,[],0⟩:aB))
def aNB:Option Bool:=
  some false
def CI(l:List Int)(x:Int):Int→Option (Step Int (Out Unit Bool))
  | x2=>(if decide (x2 < (l.length:Int)) then (idx l x2).bind fun x3=>(if x3 == x then some (.stop (Out.ret true)) else some (.next (aY (x2+1)))) else some (.stop (Out.brk ())))
def aNC:(Out Unit Bool)→Option Bool
  | .brk ()=>aNB
  | .ret r=>some r
def J9(l:List Int)(x:Int):Option Bool:=
  (loop (CI l x) 0).bind (aNC)
def aER(x5:List dO):Option (List dO):=
  some x5
def wE(l:List bB):((List dO)×Int)→Option (Step ((List dO)×Int) (List dO))
  | (x3,x4)=>(if decide (x4 < (l.length:Int)) then (idx l x4).bind fun x6=>need (x3.length+x6.Rows.length≤1073741824) (some (.next (x3++x6.Rows,aY (x4+1)))) else some (.stop (x3)))
def aES:(List dO)→Option (List dO)
  | x5=>aER x5
def wF(l:List bB):Option (List dO):=
  (loop (wE l) (([]:List dO),0)).bind (aES)
def nF(l:List bB):Option Int:=
  (wF l).bind fun x1=>some (x1.length:Int)
def U2(x7:List bK):Option (List bK):=
  some x7
def mD:((List bK)×Int)→Option (Step ((List bK)×Int) (List bK))
  | (x5,x6)=>(if decide (x6 < (x5.length:Int)) then need (0≤(x6:Int)∧(x6:Int)≤(x5.length:Int)) (need (0≤(x6:Int)∧(x6:Int)≤(x5.length:Int)) (some (.next (dQ x5 x6.toNat ((x5.take x6.toNat).drop 0),aY (x6+((min ((x5.take x6.toNat).drop 0).length (x5.length - x6.toNat):Nat):Int)))))) else some (.stop (x5)))
def U3:(List bK)→Option (List bK)
  | x7=>U2 x7
def qN(x:List bK)(x1:Int×Int)(x2:Bool):Option (List bK):=
  (if x2 then none else need (0≤(IntKind.i64.wrap x1.2:Int)∧(IntKind.i64.wrap x1.2:Int)≤4294967296) ((loop (mD) (dQ (List.replicate ((IntKind.i64.wrap x1.2).toNat) (⟨0,0,0,0⟩:bK)) 0 x,((min x.length ((List.replicate ((IntKind.i64.wrap x1.2).toNat) (⟨0,0,0,0⟩:bK):List bK).length - 0):Nat):Int))).bind (U3)))
def xW(x:List bK)(count:Int):Option (List bK):=
  (if decide (count < 0) then none else (uG (IntKind.u64.wrap (x.length:Int)) (IntKind.u64.wrap count)).bind fun x1=>(if decide (0 < x1.1) then qN x x1 true else qN x x1 (decide (9223372036854775807 < x1.2))))
def KA(x8:aB):Option aB:=
  some x8
def BZ(x6:Int)(x9:aB):Option (Step (Int×aB) aB):=
  some (.next (aY (x6+1),x9))
def nG(n:Int)(x3:aB):(Int×aB)→Option (Step (Int×aB) aB)
  | (x6,x7)=>(if decide (x6 < (x3.aZ.length:Int)) then (idx x7.aZ x6).bind fun x10=>(xW ([(⟨4,0,0,0⟩:bK)]) n).bind fun x11=>need (x10.fM.length+x11.length≤1073741824)<|BZ x6 ({x7 with aZ:=x7.aZ.set x6.toNat (⟨x10.fM++x11⟩:Queue)}:aB) else some (.stop (x7)))
def KB:aB→Option aB
  | x8=>KA x8
def nH(n:Int)(x2:Bool)(x3:aB):Option aB:=
  (if x2 then some x3 else (loop (nG n x3) (0,x3)).bind (KB))
def BF(s:aB)(n:Int):Option aB:=
  (qT s).bind fun x1=>(pC s).bind fun x12=>(if !x12 then nH n true x1 else (OI s).bind fun x13=>(if !x13 then nH n true x1 else (cS n 0 12).bind fun x14=>nH n (!x14) x1))
def KC(s:aB)(n:Int):Option aB:=
  (BF s n).bind fun x1=>(iP x1).bind fun x2=>some x2
def I4(x1:Bool):Option Bool:=
  some x1
def bX(x low high:Int):Option Bool:=
  (if decide (low≤x) then I4 (decide (x≤high)) else I4 false)
def Q4(b:List Int):Option Bool:=
  some (decide ((b.length:Int)≤1000))
def oC(b:List Int):Int→Option (Step Int (Out Unit Bool))
  | x2=>(if decide (x2 < (b.length:Int)) then (idx b x2).bind fun x3=>(bX x3 0 255).bind fun x4=>(if !x4 then some (.stop (Out.ret false)) else some (.next (aY (x2+1)))) else some (.stop (Out.brk ())))
def HX(b:List Int):(Out Unit Bool)→Option Bool
  | .brk ()=>Q4 b
  | .ret r=>some r
def I5(b:List Int):Option Bool:=
  (loop (oC b) 0).bind (HX b)
def aAX:Option Bool:=
  some true
def oD(h:aE):Int→Option (Step Int (Out Unit Bool))
  | x3=>(if decide (x3 < 6) then (idx h.Class x3).bind fun x4=>(bX x4 (-1) 2).bind fun x5=>(if !x5 then some (.stop (Out.ret false)) else some (.next (aY (x3+1)))) else some (.stop (Out.brk ())))
def aAY:(Out Unit Bool)→Option Bool
  | .brk ()=>aAX
  | .ret r=>some r
def tM(h:aE)(x1:Bool):Option Bool:=
  (if x1 then some false else (loop (oD h) 0).bind (aAY))
def I6(h:aE):Option Bool:=
  (if (h.Bytes.length:Int) != 384 then tM h true else (if (h.Class.length:Int) != 6 then tM h true else (I5 h.Bytes).bind fun x6=>tM h (!x6)))
def aET(x5:Int):Option Int:=
  some x5
def wG(b:List Int)(at_ width:Int):(Int×Int)→Option (Step (Int×Int) Int)
  | (x3,x4)=>(if decide (x4 < width) then (idx b (aY (at_+x4))).bind fun x6=>some (.next (aY ((aY (x3 * 256))+x6),aY (x4+1))) else some (.stop (x3)))
def aEU:Int→Option Int
  | x5=>aET x5
def wH(b:List Int)(at_ width:Int):Option Int:=
  (loop (wG b at_ width) (0,0)).bind (aEU)
def pI(c:Int):Option Int:=
  (if c == 0 then some 8 else (if c == 1 then some 16 else (if c == 2 then some 40 else some 0)))
def z6(c:Int):Option Int:=
  (bX c 0 2).bind fun x1=>(if !x1 then some 0 else (pI c).bind fun x2=>some (aY (4+x2)))
def mN(c:Int):Option Int:=
  (bX c 0 2).bind fun x1=>(if !x1 then some 0 else (z6 c).bind fun x2=>need (x2≠0) (some (aY (Int.tdiv 56 x2))))
def CJ(slot:Int):Option Int:=
  (bX slot 0 23).bind fun x1=>(if !x1 then some (-1) else some (aY (Int.tdiv slot 4)))
def xX(slot:Int):Option Int:=
  (bX slot 0 23).bind fun x1=>(if !x1 then some (-1) else some (Int.tmod slot 4))
def GG(slot c:Int)(x1:Bool):Option Int:=
  (if x1 then some (-1) else (CJ slot).bind fun x2=>(xX slot).bind fun x3=>(z6 c).bind fun x4=>some (aY ((aY ((aY (x2 * 64))+8))+(aY (x3 * x4)))))
def wI(slot c:Int):Option Int:=
  (CJ slot).bind fun x5=>(if decide (x5 < 0) then GG slot c true else (xX slot).bind fun x6=>(mN c).bind fun x7=>(bX x6 0 (aY (x7 - 1))).bind fun x8=>GG slot c (!x8))
def wJ(page index:Int)(x1:Bool):Option Int:=
  (if x1 then some (-1) else some (aY ((aY (page * 4))+index)))
def rV(page index:Int):Option Int:=
  (bX page 0 5).bind fun x2=>(if !x2 then wJ page index true else (bX index 0 3).bind fun x3=>wJ page index (!x3))
def aEV:Option Bool:=
  some true
def rF(h:aE)(p:Int):Int→Option (Step Int (Out Unit Bool))
  | x3=>(if decide (x3 < (aY ((aY (p * 64))+64))) then (idx h.Bytes x3).bind fun x4=>(if x4 != 0 then some (.stop (Out.ret false)) else some (.next (aY (x3+1)))) else some (.stop (Out.brk ())))
def aEW:(Out Unit Bool)→Option Bool
  | .brk ()=>aEV
  | .ret r=>some r
def aEX:Option Bool:=
  some true
def rG(h:aE)(p x1:Int):Int→Option (Step Int (Out Unit Bool))
  | x9=>(mN x1).bind fun x10=>(if decide (x9 < x10) then (rV p x9).bind fun x11=>(wI x11 x1).bind fun x12=>(wH h.Bytes x12 4).bind fun x13=>(bX x13 1 7).bind fun x14=>(if !x14 then some (.stop (Out.ret false)) else some (.next (aY (x9+1)))) else some (.stop (Out.brk ())))
def aEY:(Out Unit Bool)→Option Bool
  | .brk ()=>aEX
  | .ret r=>some r
def SU(h:aE)(p x1:Int):Option Bool:=
  (loop (rG h p x1) 0).bind (aEY)
def rH(h:aE)(p:Int):Int→Option (Step Int (Out Unit Bool))
  | x7=>(if decide (x7 < (aY ((aY (p * 64))+8))) then (idx h.Bytes x7).bind fun x15=>(if x15 != 0 then some (.stop (Out.ret false)) else some (.next (aY (x7+1)))) else some (.stop (Out.brk ())))
def SW(h:aE)(p x1:Int):(Out Unit Bool)→Option Bool
  | .brk ()=>SU h p x1
  | .ret r=>some r
def lC(h:aE)(p x1:Int)(x5:Bool):Option Bool:=
  (if x5 then some false else (loop (rH h p) (aY ((aY (p * 64))+3))).bind (SW h p x1))
def L5(h:aE)(p:Int):Option Bool:=
  (idx h.Class p).bind fun x1=>(if decide (x1 < 0) then (loop (rF h p) (aY (p * 64))).bind (aEW) else (idx h.Bytes (aY (p * 64))).bind fun x16=>(if x16 != 171 then lC h p x1 true else (idx h.Bytes (aY ((aY (p * 64))+1))).bind fun x17=>(if x17 != x1 then lC h p x1 true else (idx h.Bytes (aY ((aY (p * 64))+2))).bind fun x18=>(mN x1).bind fun x19=>lC h p x1 (x18 != x19))))
def aEZ:Option Bool:=
  some true
def wK(h:aE):Int→Option (Step Int (Out Unit Bool))
  | x3=>(if decide (x3 < 6) then (L5 h x3).bind fun x4=>(if !x4 then some (.stop (Out.ret false)) else some (.next (aY (x3+1)))) else some (.stop (Out.brk ())))
def aE0:(Out Unit Bool)→Option Bool
  | .brk ()=>aEZ
  | .ret r=>some r
def L6(h:aE):Option Bool:=
  (I6 h).bind fun x1=>(if !x1 then some false else (loop (wK h) 0).bind (aE0))
def aHV:Option Bool:=
  some false
def uH(l:List Int)(x:Int):Int→Option (Step Int (Out Unit Bool))
  | x2=>(if decide (x2 < (l.length:Int)) then (idx l x2).bind fun x3=>(if x3 == x then some (.stop (Out.ret true)) else some (.next (aY (x2+1)))) else some (.stop (Out.brk ())))
def aHW:(Out Unit Bool)→Option Bool
  | .brk ()=>aHV
  | .ret r=>some r
def FG(l:List Int)(x:Int):Option Bool:=
  (loop (uH l x) 0).bind (aHW)
def aHX(x10:List Int):Option (List Int):=
  some x10
def z7(l:aD):((List Int)×Int)→Option (Step ((List Int)×Int) (List Int))
  | (x8,x9)=>(if decide (x9 < (l.cT.length:Int)) then (idx l.cT x9).bind fun x11=>need (x8.length+x11.aS.length≤1073741824) (some (.next (x8++x11.aS,aY (x9+1)))) else some (.stop (x8)))
def aHY:(List Int)→Option (List Int)
  | x10=>aHX x10
def VD(l:aD)(x5:List Int):Option (List Int):=
  (loop (z7 l) (x5,0)).bind (aHY)
def z8(l:aD):((List Int)×Int)→Option (Step ((List Int)×Int) (List Int))
  | (x3,x4)=>(if decide (x4 < (l.Global.length:Int)) then (idx l.Global x4).bind fun x12=>need (x3.length+x12.aS.length≤1073741824) (some (.next (x3++x12.aS,aY (x4+1)))) else some (.stop (x3)))
def VE(l:aD):(List Int)→Option (List Int)
  | x5=>VD l x5
def KD(l:aD):Option (List Int):=
  (loop (z8 l) (([]:List Int),0)).bind (VE l)
def aAZ:Option Bool:=
  some true
def BG(x6:Int)(x7:Bool):Option (Step Int (Out Unit Bool)):=
  (if x7 then some (.stop (Out.ret false)) else some (.next (aY (x6+1))))
def oE(x4:(List Int)):Int→Option (Step Int (Out Unit Bool))
  | x6=>(if decide (x6 < (x4.length:Int)) then (idx x4 x6).bind fun x8=>(bX x8 0 23).bind fun x9=>(if !x9 then BG x6 true else need (0≤(x6:Int)∧(x6:Int)≤(x4.length:Int)) ((idx x4 x6).bind fun x10=>(FG ((x4.take x6.toNat).drop 0) x10).bind fun x11=>BG x6 x11)) else some (.stop (Out.brk ())))
def aA0:(Out Unit Bool)→Option Bool
  | .brk ()=>aAZ
  | .ret r=>some r
def Q5(l:aD):Option Bool:=
  (KD l).bind fun x4=>(loop (oE x4) 0).bind (aA0)
def oF(l:aD):Int→Option (Step Int (Out Unit Bool))
  | x3=>(if decide (x3 < (l.cT.length:Int)) then (idx l.cT x3).bind fun x12=>(if decide (2 < (x12.aS.length:Int)) then some (.stop (Out.ret false)) else some (.next (aY (x3+1)))) else some (.stop (Out.brk ())))
def Q6(l:aD):(Out Unit Bool)→Option Bool
  | .brk ()=>Q5 l
  | .ret r=>some r
def BH(l:aD)(x1:Bool):Option Bool:=
  (if x1 then some false else (loop (oF l) 0).bind (Q6 l))
def I7(l:aD):Option Bool:=
  (if (l.Global.length:Int) != 3 then BH l true else BH l ((l.cT.length:Int) != 9))
def tO(h:aE)(x1:Int)(x2:Bool):Option Int:=
  (if x2 then some (-1) else (idx h.Class x1).bind fun x3=>some x3)
def mO(h:aE)(slot:Int):Option Int:=
  (CJ slot).bind fun x1=>(if decide (x1 < 0) then tO h x1 true else (idx h.Class x1).bind fun x4=>(if decide (x4 < 0) then tO h x1 true else (idx h.Class x1).bind fun x5=>(xX slot).bind fun x6=>(mN x5).bind fun x7=>tO h x1 (decide (x7≤x6))))
def wL(h:aE)(slot:Int):Option Int:=
  (mO h slot).bind fun x1=>(wI slot x1).bind fun x2=>(wH h.Bytes x2 4).bind fun x3=>some x3
def ZG:Option Bool:=
  some true
def xY(x2:Int)(x3:Bool):Option (Step Int (Out Unit Bool)):=
  (if x3 then some (.stop (Out.ret false)) else some (.next (aY (x2+1))))
def m6(h:aE)(l:List Int)(c:Int):Int→Option (Step Int (Out Unit Bool))
  | x2=>(if decide (x2 < (l.length:Int)) then (idx l x2).bind fun x4=>(mO h x4).bind fun x5=>(if x5 != c then xY x2 true else (idx l x2).bind fun x6=>(wL h x6).bind fun x7=>xY x2 (decide (6 < x7))) else some (.stop (Out.brk ())))
def ZH:(Out Unit Bool)→Option Bool
  | .brk ()=>ZG
  | .ret r=>some r
def z9(h:aE)(l:List Int)(c:Int):Option Bool:=
  (loop (m6 h l c) 0).bind (ZH)
def AA(w_ c:Int)(x1:Bool):Option Int:=
  (if x1 then some (-1) else some (aY ((aY (w_ * 3))+c)))
def wM(w_ c:Int):Option Int:=
  (bX w_ 0 2).bind fun x2=>(if !x2 then AA w_ c true else (bX c 0 2).bind fun x3=>AA w_ c (!x3))
def aHZ:Option Bool:=
  some true
def VF(x3:Int):Option (Step Int (Out Unit Bool)):=
  some (.next (aY (x3+1)))
def AB(m:Mem)(x3:Int):Int→Option (Step Int (Out Unit Bool))
  | x7=>(if decide (x7 < 3) then (wM x7 x3).bind fun x8=>(idx m.aD.cT x8).bind fun x9=>(z9 m.aE x9.aS x3).bind fun x10=>(if !x10 then some (.stop (Out.ret false)) else some (.next (aY (x7+1)))) else some (.stop (Out.brk ())))
def VG(x3:Int):(Out Unit Bool)→Option (Step Int (Out Unit Bool))
  | .brk ()=>VF x3
  | .ret r=>some (.stop (Out.ret r))
def AD(m:Mem):Int→Option (Step Int (Out Unit Bool))
  | x3=>(if decide (x3 < 3) then (idx m.aD.Global x3).bind fun x4=>(z9 m.aE x4.aS x3).bind fun x5=>(if !x5 then some (.stop (Out.ret false)) else (loop (AB m x3) 0).bind (VG x3)) else some (.stop (Out.brk ())))
def aH0:(Out Unit Bool)→Option Bool
  | .brk ()=>aHZ
  | .ret r=>some r
def GH(m:Mem)(x1:Bool):Option Bool:=
  (if x1 then some false else (loop (AD m) 0).bind (aH0))
def KE(m:Mem):Option Bool:=
  (L6 m.aE).bind fun x11=>(if !x11 then GH m true else (I7 m.aD).bind fun x12=>GH m (!x12))
def xZ(x1:Bool):Option Bool:=
  some x1
def iC(h:Int):Option Bool:=
  (bX h 32 223).bind fun x2=>(if x2 then xZ (decide ((Int.tmod h 32) < 24)) else xZ false)
def fN(h:Int):Option Int:=
  (iC h).bind fun x1=>(if !x1 then some (-1) else some (Int.tmod h 32))
def L7(l:aD)(slot:Int):Option Bool:=
  (KD l).bind fun x1=>(FG x1 slot).bind fun x2=>some x2
def I8(m:Mem)(slot:Int):Option Int:=
  (mO m.aE slot).bind fun x1=>(if decide (x1 < 0) then some 0 else (L7 m.aD slot).bind fun x2=>(if x2 then some 1 else (wL m.aE slot).bind fun x3=>(if decide (6 < x3) then some 2 else some 3)))
def DP(h:Int):Option Int:=
  (iC h).bind fun x1=>(if !x1 then some 0 else some (aY (Int.tdiv h 32)))
def tP(x1:Bool):Option Bool:=
  some x1
def sK(m:Mem)(h:Int):Option Bool:=
  (iC h).bind fun x2=>(if x2 then (fN h).bind fun x3=>(I8 m x3).bind fun x4=>(if x4 == 3 then (fN h).bind fun x5=>(wL m.aE x5).bind fun x6=>(DP h).bind fun x7=>tP (x6 == x7) else tP false) else tP false)
def Q7:Option Bool:=
  some true
def l5(x3:Int)(x5:Bool):Option (Step Int (Out Unit Bool)):=
  (if x5 then some (.stop (Out.ret false)) else some (.next (aY (x3+1))))
def tQ(c:aC):Int→Option (Step Int (Out Unit Bool))
  | x3=>(if decide (x3 < 3) then (idx c.cK x3).bind fun x4=>(if !x4.On then (if !(decide (x4=(⟨false,0,false,0⟩:qA))) then l5 x3 true else (bX x4.aJ 0 c.aJ).bind fun x6=>(if !x6 then l5 x3 true else (bX x4.Seen 0 2).bind fun x7=>l5 x3 (!x7))) else (bX x4.aJ 0 c.aJ).bind fun x8=>(if !x8 then l5 x3 true else (bX x4.Seen 0 2).bind fun x9=>l5 x3 (!x9))) else some (.stop (Out.brk ())))
def HY:(Out Unit Bool)→Option Bool
  | .brk ()=>Q7
  | .ret r=>some r
def oH(c:aC)(x1:Bool):Option Bool:=
  (if x1 then some false else (loop (tQ c) 0).bind (HY))
def pJ(c:aC):Option Bool:=
  (bX c.aJ 0 100000).bind fun x10=>(if !x10 then oH c true else oH c ((c.cK.length:Int) != 3))
def aA1:Option Bool:=
  some true
def tR(x5:List Int)(x6 x8:Int)(x9:Bool):Option (Step ((List Int)×Int) (Out Unit Bool)):=
  (if x9 then some (.stop (Out.ret false)) else need (x5.length+([x8]).length≤1073741824) (some (.next (x5++([x8]),aY (x6+1)))))
def tS(x1:(List dO)):((List Int)×Int)→Option (Step ((List Int)×Int) (Out Unit Bool))
  | (x5,x6)=>(if decide (x6 < (x1.length:Int)) then (idx x1 x6).bind fun x7=>(fN x7.Handle).bind fun x8=>(if decide (x8 < 0) then tR x5 x6 x8 true else (bX x7.aJ 0 100000).bind fun x10=>(if !x10 then tR x5 x6 x8 true else (FG x5 x8).bind fun x11=>tR x5 x6 x8 x11)) else some (.stop (Out.brk ())))
def aA2:(Out Unit Bool)→Option Bool
  | .brk ()=>aA1
  | .ret r=>some r
def BI(x1:(List dO))(x2:Bool):Option Bool:=
  (if x2 then some false else (loop (tS x1) (([]:List Int),0)).bind (aA2))
def I9(l:List bB):Option Bool:=
  (wF l).bind fun x1=>(if (l.length:Int) != 3 then BI x1 true else BI x1 (decide (24 < (x1.length:Int))))
def VH(z:List Int):Option Bool:=
  some ((z.length:Int) == 3)
def GI(x2:Int)(x3:Bool):Option (Step Int (Out Unit Bool)):=
  (if x3 then some (.stop (Out.ret false)) else some (.next (aY (x2+1))))
def AE(z:List Int):Int→Option (Step Int (Out Unit Bool))
  | x2=>(if decide (x2 < (z.length:Int)) then (idx z x2).bind fun x4=>(if x4 != 0 then (idx z x2).bind fun x5=>(iC x5).bind fun x6=>GI x2 (!x6) else GI x2 false) else some (.stop (Out.brk ())))
def VI(z:List Int):(Out Unit Bool)→Option Bool
  | .brk ()=>VH z
  | .ret r=>some r
def FH(z:List Int):Option Bool:=
  (loop (AE z) 0).bind (VI z)
def aE1:Option Bool:=
  some true
def DQ(x4:Int)(x5:Bool):Option (Step Int (Out Unit Bool)):=
  (if x5 then some (.stop (Out.ret false)) else some (.next (aY (x4+1))))
def wN(b:aA)(x2:(List dO)):Int→Option (Step Int (Out Unit Bool))
  | x4=>(if decide (x4 < (x2.length:Int)) then (idx x2 x4).bind fun x6=>(sK b.Mem x6.Handle).bind fun x7=>(if !x7 then DQ x4 true else DQ x4 (decide (b.aC.aJ < x6.aJ))) else some (.stop (Out.brk ())))
def aE2:(Out Unit Bool)→Option Bool
  | .brk ()=>aE1
  | .ret r=>some r
def rI(b:aA)(x1:Bool):Option Bool:=
  (if x1 then some false else (wF b.aM).bind fun x2=>(loop (wN b x2) 0).bind (aE2))
def L8(b:aA):Option Bool:=
  (KE b.Mem).bind fun x8=>(if !x8 then rI b true else (pJ b.aC).bind fun x9=>(if !x9 then rI b true else (I9 b.aM).bind fun x10=>(if !x10 then rI b true else (FH b.mP).bind fun x11=>rI b (!x11))))
def lP(x1:Bool):Option Bool:=
  some x1
def wO(kind:Int):Option Bool:=
  (if kind == 1 then lP true else (if kind == 2 then lP true else (if kind == 3 then lP true else lP (kind == 7))))
def JA(x3:Bool):Option Bool:=
  some x3
def JB(x4:Bool):Option Bool:=
  some x4
def DR(o_:bK)(x2:Bool):Option Bool:=
  (if x2 then some false else (if o_.Kind != 1 then (if o_.gP == 0 then JA (o_.dK == 0) else JA false) else (bX o_.gP 0 100).bind fun x5=>(if x5 then (bX o_.dK 0 65535).bind fun x6=>JB x6 else JB false)))
def JV(o_:bK):Option Bool:=
  (bX o_.Kind 1 7).bind fun x1=>(if !x1 then some false else (wO o_.Kind).bind fun x7=>(if !x7 then (if o_.Cell != 0 then DR o_ true else (bX o_.Cell 0 1).bind fun x8=>DR o_ (!x8)) else (bX o_.Cell 0 1).bind fun x9=>DR o_ (!x9)))
def Q8(todo:List Queue):Option Bool:=
  some ((todo.length:Int) == 3)
def Q9(x2:Int):Option (Step Int (Out Unit Bool)):=
  some (.next (aY (x2+1)))
def oJ(todo:List Queue)(x2:Int):Int→Option (Step Int (Out Unit Bool))
  | x5=>(idx todo x2).bind fun x6=>(if decide (x5 < (x6.fM.length:Int)) then (idx todo x2).bind fun x7=>(idx x7.fM x5).bind fun x8=>(JV x8).bind fun x9=>(if !x9 then some (.stop (Out.ret false)) else some (.next (aY (x5+1)))) else some (.stop (Out.brk ())))
def RB(x2:Int):(Out Unit Bool)→Option (Step Int (Out Unit Bool))
  | .brk ()=>Q9 x2
  | .ret r=>some (.stop (Out.ret r))
def oK(todo:List Queue):Int→Option (Step Int (Out Unit Bool))
  | x2=>(if decide (x2 < (todo.length:Int)) then (idx todo x2).bind fun x3=>(if decide (12 < (x3.fM.length:Int)) then some (.stop (Out.ret false)) else (loop (oJ todo x2) 0).bind (RB x2)) else some (.stop (Out.brk ())))
def RC(todo:List Queue):(Out Unit Bool)→Option Bool
  | .brk ()=>Q8 todo
  | .ret r=>some r
def DS(todo:List Queue):Option Bool:=
  (loop (oK todo) 0).bind (RC todo)
def BJ(x1:Bool):Option Bool:=
  some x1
def i7(h:Int):Option Bool:=
  (if h == 0 then BJ true else (iC h).bind fun x2=>BJ x2)
def aA3:Option Bool:=
  some true
def fA(x5:Int)(x7:Bool):Option (Step Int (Out Unit Bool)):=
  (if x7 then some (.stop (Out.ret false)) else some (.next (aY (x5+1))))
def oL(s:aB):Int→Option (Step Int (Out Unit Bool))
  | x5=>(if decide (x5 < 3) then (idx s.aT x5).bind fun x6=>(if !x6.cY then (if !(decide (x6=(⟨false,(⟨0,0,0,0⟩:bK),0,0,(⟨0,0,0,0,0,0,0,0,0,false⟩:Sub),0,0,0,0⟩:bD))) then fA x5 true else (if x6.cY then (JV x6.Op).bind fun x8=>(if !x8 then fA x5 true else (i7 x6.H).bind fun x9=>(if !x9 then fA x5 true else (i7 x6.Old).bind fun x10=>fA x5 (!x10))) else (i7 x6.H).bind fun x11=>(if !x11 then fA x5 true else (i7 x6.Old).bind fun x12=>fA x5 (!x12)))) else (if x6.cY then (JV x6.Op).bind fun x13=>(if !x13 then fA x5 true else (i7 x6.H).bind fun x14=>(if !x14 then fA x5 true else (i7 x6.Old).bind fun x15=>fA x5 (!x15))) else (i7 x6.H).bind fun x16=>(if !x16 then fA x5 true else (i7 x6.Old).bind fun x17=>fA x5 (!x17)))) else some (.stop (Out.brk ())))
def aA4:(Out Unit Bool)→Option Bool
  | .brk ()=>aA3
  | .ret r=>some r
def RD(s:aB):Option Bool:=
  (loop (oL s) 0).bind (aA4)
def oN(s:aB):Int→Option (Step Int (Out Unit Bool))
  | x3=>(if decide (x3 < 2) then (idx s.Cells x3).bind fun x18=>(i7 x18).bind fun x19=>(if !x19 then some (.stop (Out.ret false)) else some (.next (aY (x3+1)))) else some (.stop (Out.brk ())))
def RE(s:aB):(Out Unit Bool)→Option Bool
  | .brk ()=>RD s
  | .ret r=>some r
def l7(s:aB)(x1:Bool):Option Bool:=
  (if x1 then some false else (loop (oN s) 0).bind (RE s))
def sL(s:aB):Option Bool:=
  (L8 s.aA).bind fun x20=>(if !x20 then l7 s true else (if (s.Cells.length:Int) != 2 then l7 s true else (if (s.aT.length:Int) != 3 then l7 s true else (DS s.aZ).bind fun x21=>(if !x21 then l7 s true else (bX s.aI 0 1000000).bind fun x22=>l7 s (!x22)))))
def DT(c:eA)(x1 x2:Int):Option (Int×(Int×Int)):=
  some (x1,(x2,aY ((aY (c.h * 6364136223846793005))+1442695040888963407)))
def rW(c:eA):Option (Int×(Int×Int)):=
  (if decide (c.i < (c.b.length:Int)) then (idx c.b c.i).bind fun x3=>DT c (hJ .and .i64 (aY ((hJ .and .i64 (hJ .xor .i64 (vQ .i64 (aY ((aY (c.h * 6364136223846793005))+1442695040888963407)) 33) (vQ .i64 (aY ((aY (c.h * 6364136223846793005))+1442695040888963407)) 45)) 255)+(x3.toNat:Int))) 255) (aY (c.i+1)) else DT c (hJ .and .i64 (hJ .xor .i64 (vQ .i64 (aY ((aY (c.h * 6364136223846793005))+1442695040888963407)) 33) (vQ .i64 (aY ((aY (c.h * 6364136223846793005))+1442695040888963407)) 45)) 255) c.i)
def gH(c:eA)(n:Int):Option (Int×(Int×Int)):=
  (if decide (n≤0) then some (0,(c.i,c.h)) else (if decide (n≤256) then (rW c).bind fun x1=>need (n≠0) (some (Int.tmod x1.1 n,(x1.2.1,x1.2.2))) else (rW c).bind fun x2=>(rW (⟨c.b,x2.2.1,x2.2.2⟩:eA)).bind fun x3=>(rW (⟨c.b,x3.2.1,x3.2.2⟩:eA)).bind fun x4=>(rW (⟨c.b,x4.2.1,x4.2.2⟩:eA)).bind fun x5=>need (n≠0) (some (Int.tmod (aY ((aY ((aY ((aY (x2.1 * 16777216))+(aY (x3.1 * 65536))))+(aY (x4.1 * 256))))+x5.1)) n,(x5.2.1,x5.2.2)))))
def SX(c:eA)(n:Int):Option (Bool×(Int×Int)):=
  (gH c n).bind fun x1=>some (x1.1 == 0,(x1.2.1,x1.2.2))
def wP(b:List Int):Option (List Int):=
  need (([]:List Int).length+b.length≤1073741824) (some (([]:List Int)++b))
def SY(h:aE):Option aE:=
  (wP h.Bytes).bind fun x1=>(wP h.Class).bind fun x2=>some (⟨x1,x2⟩:aE)
def aE3(x5:List aR):Option (List aR):=
  some x5
def KF(l:List aR):((List aR)×Int)→Option (Step ((List aR)×Int) (List aR))
  | (x3,x4)=>(if decide (x4 < (l.length:Int)) then (idx l x4).bind fun x6=>(wP x6.aS).bind fun x7=>need (x3.length+([(⟨x7⟩:aR)]).length≤1073741824) (some (.next (x3++([(⟨x7⟩:aR)]),aY (x4+1)))) else some (.stop (x3)))
def aE4:(List aR)→Option (List aR)
  | x5=>aE3 x5
def L9(l:List aR):Option (List aR):=
  (loop (KF l) (([]:List aR),0)).bind (aE4)
def SZ(l:aD):Option aD:=
  (L9 l.Global).bind fun x1=>(L9 l.cT).bind fun x2=>some (⟨x1,x2⟩:aD)
def S1(m:Mem):Option Mem:=
  (SY m.aE).bind fun x1=>(SZ m.aD).bind fun x2=>some (⟨x1,x2⟩:Mem)
def JC(slot c:Int):Option Int:=
  (wI slot c).bind fun x1=>(if decide (x1 < 0) then some (-1) else some (aY (x1+4)))
def DU(at_ x3 x4:Int)(x5:Bool):Option (Int×Int):=
  (if x5 then some (0,2) else (JC x3 x4).bind fun x6=>some (aY (x6+at_),0))
def DV(m:Mem)(h at_ width:Int)(x1:Bool):Option (Int×Int):=
  (if x1 then some (0,1) else (sK m h).bind fun x2=>(if !x2 then some (0,4) else (fN h).bind fun x3=>(mO m.aE x3).bind fun x4=>(pI x4).bind fun x7=>(bX at_ 0 (aY (x7 - 1))).bind fun x8=>(if !x8 then DU at_ x3 x4 true else (pI x4).bind fun x9=>DU at_ x3 x4 (decide ((aY (x9 - at_)) < width)))))
def S2(m:Mem)(h at_ width:Int):Option (Int×Int):=
  (KE m).bind fun x10=>(if !x10 then DV m h at_ width true else (bX width 1 7).bind fun x11=>DV m h at_ width (!x11))
def VJ(x8:Int)(x9:List UInt8):Option (List UInt8):=
  (if decide (0 < x8) then some ([]) else some x9)
def GJ(width:Int):(Int×(List UInt8)×Int)→Option (Step (Int×(List UInt8)×Int) (Int×(List UInt8)))
  | (x5,x6,x7)=>(if decide (x7 < width) then need (([u8 (Int.tmod x5 256)]).length+x6.length≤9223372036854775807) (some (.next (aY (Int.tdiv x5 256),([u8 (Int.tmod x5 256)])++x6,aY (x7+1)))) else some (.stop ((x5,x6))))
def VK:(Int×(List UInt8))→Option (List UInt8)
  | (x8,x9)=>VJ x8 x9
def M3(n width:Int)(x1:Bool):Option (List UInt8):=
  (if x1 then some ([]) else (loop (GJ width) (n,[],0)).bind (VK))
def PX(n width:Int):Option (List UInt8):=
  (bX width 1 7).bind fun x10=>(if !x10 then M3 n width true else M3 n width (decide (n < 0)))
def aA5(x7:List Int):Option (List Int):=
  some x7
def BK(at_:Int):((List Int)×Int×Int)→Option (Step ((List Int)×Int×Int) (List Int))
  | (x4,x5,x6)=>(if decide (0≤x6) then (idx x4 (aY (at_+x6))).bind fun x8=>some (.next (x4.set ((aY (at_+x6)).toNat) (Int.tmod x5 256),aY (Int.tdiv x5 256),aY (x6 - 1))) else some (.stop (x4)))
def aA6:(List Int)→Option (List Int)
  | x7=>aA5 x7
def yA(b:List Int)(at_ width n:Int):Option (List Int):=
  (loop (BK at_) (b,n,aY (width - 1))).bind (aA6)
def DW(m:Mem)(h at_ width n:Int):Option (Mem×Int):=
  (S1 m).bind fun x1=>(S2 m h at_ width).bind fun x2=>(if x2.2 != 0 then some (x1,x2.2) else (PX n width).bind fun x3=>(if x3 == ([]) then some (x1,1) else (yA x1.aE.Bytes x2.1 width n).bind fun x4=>some ((⟨(⟨x4,x1.aE.Class⟩:aE),x1.aD⟩:Mem),0)))
def aA7(x5:List Int):Option aE:=
  some (⟨List.replicate ((384:Int).toNat) 0,x5⟩:aE)
def tT:(Int×(List Int))→Option (Step (Int×(List Int)) (List Int))
  | (x3,x4)=>(if decide (x3 < 6) then need (x4.length+([(-1)]).length≤1073741824) (some (.next (aY (x3+1),x4++([(-1)])))) else some (.stop (x4)))
def aA8:(List Int)→Option aE
  | x5=>aA7 x5
def JD:Option aE:=
  need (0≤(384:Int)∧(384:Int)≤4294967296) ((loop (tT) (0,[])).bind (aA8))
def OM:Option aD:=
  some (⟨List.replicate ((3:Int).toNat) (⟨[]⟩:aR),List.replicate ((9:Int).toNat) (⟨[]⟩:aR)⟩:aD)
def M4:Option aD:=
  need (0≤(3:Int)∧(3:Int)≤4294967296)<|need (0≤(9:Int)∧(9:Int)≤4294967296)<|OM
def S3:Option Mem:=
  (JD).bind fun x1=>(M4).bind fun x2=>some (⟨x1,x2⟩:Mem)
def KG(x2 x3:List aR):Option aD:=
  some (⟨x2,x3⟩:aD)
def S4(x:aD)(slot x1:Int)(x4:aR):Option aD:=
  KG x.Global (x.cT.set x1.toNat (⟨x4.aS++([slot])⟩:aR))
def S5(x:aD)(x5:List aR):Option aD:=
  KG x5 x.cT
def S6(x:aD)(w_ c slot:Int):Option aD:=
  (wM w_ c).bind fun x1=>(idx x.cT x1).bind fun x4=>(if decide ((x4.aS.length:Int) < 2) then need (x4.aS.length+([slot]).length≤1073741824)<|S4 x slot x1 x4 else (idx x.Global c).bind fun x6=>need (x6.aS.length+([slot]).length≤1073741824)<|S5 x (x.Global.set c.toNat (⟨x6.aS++([slot])⟩:aR)))
def KH(x:Mem)(x3:List Int)(x4 x5:List aR):Option Mem:=
  some (⟨(⟨x3,x.aE.Class⟩:aE),(⟨x4,x5⟩:aD)⟩:Mem)
def KI(x:Mem)(w_ slot x1 x2:Int)(x3:List Int):Option Mem:=
  (if decide ((aY (x2+1))≤6) then (S6 x.aD w_ x1 slot).bind fun x6=>KH x x3 x6.Global x6.cT else KH x x3 x.aD.Global x.aD.cT)
def HD(x:Mem)(w_ slot:Int):Option Mem:=
  (mO x.aE slot).bind fun x1=>(wL x.aE slot).bind fun x2=>(wI slot x1).bind fun x7=>(yA x.aE.Bytes x7 4 (aY (x2+1))).bind fun x8=>KI x w_ slot x1 x2 x8
def aA9:Option Int:=
  some (-1)
def fO(size:Int):Int→Option (Step Int (Out Unit Int))
  | x2=>(if decide (x2 < 3) then (pI x2).bind fun x3=>(bX size 1 x3).bind fun x4=>(if x4 then some (.stop (Out.ret x2)) else some (.next (aY (x2+1)))) else some (.stop (Out.brk ())))
def aBA:(Out Unit Int)→Option Int
  | .brk ()=>aA9
  | .ret r=>some r
def DX(size:Int):Option Int:=
  (loop (fO size) 0).bind (aBA)
def aBB(h:aE):Option (aE×(List Int)):=
  some (h,([]:List Int))
def HZ(x2:Int):Option (Step Int (Out Unit (aE×(List Int)))):=
  some (.next (aY (x2+1)))
def aBC(h:aE)(c x2:Int)(x14 x15:List Int):Option (Step Int (Out Unit (aE×(List Int)))):=
  some (.stop (Out.ret ((⟨x15,h.Class.set x2.toNat c⟩:aE),x14)))
def RF(x2:Int)(x11:List Int)(x12:Int)(x17:List Int):Option (Step ((List Int)×Int×(List Int)) ((List Int)×(List Int))):=
  (rV x2 x12).bind fun x18=>need (x11.length+([x18]).length≤1073741824) (some (.next (x11++([x18]),aY (x12+1),x17)))
def BL(c x2:Int):((List Int)×Int×(List Int))→Option (Step ((List Int)×Int×(List Int)) ((List Int)×(List Int)))
  | (x11,x12,x13)=>(mN c).bind fun x16=>(if decide (x12 < x16) then (rV x2 x12).bind fun x19=>(wI x19 c).bind fun x20=>(yA x13 x20 4 1).bind fun x21=>RF x2 x11 x12 x21 else some (.stop ((x11,x13))))
def aBD(h:aE)(c x2:Int):((List Int)×(List Int))→Option (Step Int (Out Unit (aE×(List Int))))
  | (x14,x15)=>aBC h c x2 x14 x15
def fB(h:aE)(c:Int):Int→Option (Step Int (Out Unit (aE×(List Int))))
  | x2=>(if decide (x2 < 6) then (idx h.Class x2).bind fun x3=>(if x3 != (-1) then HZ x2 else (idx h.Bytes (aY (x2 * 64))).bind fun x4=>(idx (h.Bytes.set ((aY (x2 * 64)).toNat) 171) (aY ((aY (x2 * 64))+1))).bind fun x5=>(mN c).bind fun x6=>(idx ((h.Bytes.set ((aY (x2 * 64)).toNat) 171).set ((aY ((aY (x2 * 64))+1)).toNat) c) (aY ((aY (x2 * 64))+2))).bind fun x7=>(loop (BL c x2) (([]:List Int),0,((h.Bytes.set ((aY (x2 * 64)).toNat) 171).set ((aY ((aY (x2 * 64))+1)).toNat) c).set ((aY ((aY (x2 * 64))+2)).toNat) x6)).bind (aBD h c x2)) else some (.stop (Out.brk ())))
def aBE(h:aE):(Out Unit (aE×(List Int)))→Option (aE×(List Int))
  | .brk ()=>aBB h
  | .ret r=>some r
def sM(h:aE)(c:Int):Option (aE×(List Int)):=
  (loop (fB h c) 0).bind (aBE h)
def H0(m:Mem)(c:Int)(x1:aE×(List Int))(x2:aR)(x3:Int):Option (Mem×Int):=
  some ((⟨x1.1,(⟨m.aD.Global.set c.toNat (⟨x2.aS++((x1.2.take x1.2.length).drop ((1:Int).toNat))⟩:aR),m.aD.cT⟩:aD)⟩:Mem),x3)
def DY(m:Mem)(c:Int):Option (Mem×Int):=
  (sM m.aE c).bind fun x1=>(if (x1.2.length:Int) == 0 then some ((⟨x1.1,m.aD⟩:Mem),(-1)) else (idx m.aD.Global c).bind fun x2=>need (0≤(1:Int)∧(1:Int)≤(x1.2.length:Int)) (need (x2.aS.length+((x1.2.take x1.2.length).drop ((1:Int).toNat)).length≤1073741824) ((idx x1.2 0).bind fun x4=>H0 m c x1 x2 x4)))
def M5(s:aR)(x1:Int):Option (aR×Int):=
  some ((⟨(s.aS.take ((aY ((s.aS.length:Int) - 1)).toNat)).drop 0⟩:aR),x1)
def sN(s:aR):Option (aR×Int):=
  (if (s.aS.length:Int) == 0 then some (s,(-1)) else need (0≤(aY ((s.aS.length:Int) - 1):Int)∧(aY ((s.aS.length:Int) - 1):Int)≤(s.aS.length:Int)) ((idx s.aS (aY ((s.aS.length:Int) - 1))).bind fun x2=>M5 s x2))
def yC(slot gen:Int)(x1:Bool):Option Int:=
  (if x1 then some 0 else some (aY ((aY (gen * 32))+slot)))
def M6(slot gen:Int):Option Int:=
  (bX slot 0 23).bind fun x2=>(if !x2 then yC slot gen true else (bX gen 1 6).bind fun x3=>yC slot gen (!x3))
def AF(m:Mem)(slot:Int):Option Int:=
  (wL m.aE slot).bind fun x1=>(M6 slot x1).bind fun x2=>some x2
def rJ(c:eA)(list:List Int):Option (Int×(Int×Int)):=
  (gH c (list.length:Int)).bind fun x1=>(idx list x1.1).bind fun x2=>some (x2,(x1.2.1,x1.2.2))
def yD(c:aC):Option aC:=
  need (([]:List qA).length+c.cK.length≤1073741824) (some (⟨c.aJ,([]:List qA)++c.cK⟩:aC))
def bR(s:Sub)(code:Int):Option Sub:=
  some ({s with Code:=code,cW:=true}:Sub)
def PY(b:aA)(s:Sub)(slot pc:Int):Option Sub:=
  (if decide (0≤slot) then (AF b.Mem slot).bind fun x1=>(bR ({s with Out:=x1}:Sub) 0).bind fun x2=>some x2 else some ({s with Pc:=pc}:Sub))
def yE(s:Sub)(x3:Int)(x5:Bool)(x6:aA):Option (aA×Sub):=
  (if x5 then (bR s 3).bind fun x7=>some (x6,x7) else (PY x6 s x3 (aY (s.Pc+1))).bind fun x8=>some (x6,x8))
def jI(s:Sub)(x3:Int)(x4:aA):Option (aA×Sub):=
  (if decide (x3 < 0) then yE s x3 (s.Pc == 3) x4 else yE s x3 false x4)
def yF(b:aA)(s:Sub)(x1:Int)(x12:Bool):Option (aA×Sub):=
  (if x12 then (idx b.Mem.aD.Global x1).bind fun x13=>(sN x13).bind fun x14=>jI s x14.2 ({b with Mem:=(⟨b.Mem.aE,(⟨b.Mem.aD.Global.set x1.toNat x14.1,b.Mem.aD.cT⟩:aD)⟩:Mem)}:aA) else (if s.Pc == 2 then (DY b.Mem x1).bind fun x15=>jI s x15.2 ({b with Mem:=x15.1}:aA) else (bR s 1).bind fun x16=>some (b,x16)))
def AG(b:aA)(w_:Int)(s:Sub):Option (aA×Sub):=
  (DX s.A).bind fun x1=>(if decide (x1 < 0) then (bR s 2).bind fun x2=>some (b,x2) else (if s.Pc == 0 then (wM w_ x1).bind fun x9=>(idx b.Mem.aD.cT x9).bind fun x10=>(sN x10).bind fun x11=>jI s x11.2 ({b with Mem:=(⟨b.Mem.aE,(⟨b.Mem.aD.Global,b.Mem.aD.cT.set x9.toNat x11.1⟩:aD)⟩:Mem)}:aA) else (if s.Pc == 1 then yF b s x1 true else yF b s x1 (s.Pc == 3))))
def aBF:Option Bool:=
  some false
def BM(x3:Int)(x4:Bool):Option (Step Int (Out Unit Bool)):=
  (if x4 then some (.stop (Out.ret true)) else some (.next (aY (x3+1))))
def oO(slot:Int)(x1:(List dO)):Int→Option (Step Int (Out Unit Bool))
  | x3=>(if decide (x3 < (x1.length:Int)) then (idx x1 x3).bind fun x5=>(iC x5.Handle).bind fun x6=>(if x6 then (fN x5.Handle).bind fun x7=>BM x3 (x7 == slot) else BM x3 false) else some (.stop (Out.brk ())))
def aBG:(Out Unit Bool)→Option Bool
  | .brk ()=>aBF
  | .ret r=>some r
def PZ(l:List bB)(slot:Int):Option Bool:=
  (wF l).bind fun x1=>(loop (oO slot x1) 0).bind (aBG)
def DZ(b:aA)(s:Sub)(x5:List bB):Option (aA×Sub):=
  (bR s 0).bind fun x6=>some (({b with aM:=x5}:aA),x6)
def vD(b:aA)(w_:Int)(s:Sub)(x3:Bool):Option (aA×Sub):=
  (if x3 then (bR s 4).bind fun x4=>some (b,x4) else (idx b.aM w_).bind fun x7=>need (x7.Rows.length+([(⟨s.A,s.E⟩:dO)]).length≤1073741824)<|DZ b s (b.aM.set w_.toNat (⟨x7.Rows++([(⟨s.A,s.E⟩:dO)])⟩:bB)))
def wQ(b:aA)(w_:Int)(s:Sub):Option (aA×Sub):=
  (if s.Pc == 0 then some (b,({s with Pc:=1,E:=b.aC.aJ}:Sub)) else (if s.Pc == 1 then (bX s.E 0 b.aC.aJ).bind fun x1=>(if !x1 then (bR s 1).bind fun x2=>some (b,x2) else (sK b.Mem s.A).bind fun x8=>(if !x8 then vD b w_ s true else (fN s.A).bind fun x9=>(PZ b.aM x9).bind fun x10=>vD b w_ s x10)) else (bR s 1).bind fun x11=>some (b,x11)))
def rK(w_:Int)(x1:aC)(x3:qA)(x4:Bool):Option (aC×Bool):=
  (if x4 then some (x1,true) else (if x3.Seen == 2 then (idx x1.cK w_).bind fun x5=>some ((⟨x1.aJ,x1.cK.set w_.toNat ({x5 with dJ:=true,Seen:=0}:qA)⟩:aC),true) else (idx x1.cK w_).bind fun x6=>some ((⟨x1.aJ,x1.cK.set w_.toNat ({x6 with Seen:=aY (x3.Seen+1)}:qA)⟩:aC),false)))
def D0(c:aC)(w_ e_:Int)(x1:aC)(x2:Bool):Option (aC×Bool):=
  (if x2 then some (x1,false) else (idx c.cK w_).bind fun x3=>(if !x3.On then rK w_ x1 x3 true else (if x3.dJ then rK w_ x1 x3 true else rK w_ x1 x3 (x3.aJ == e_))))
def HE(c:aC)(w_ e_:Int):Option (aC×Bool):=
  (yD c).bind fun x1=>(pJ c).bind fun x7=>(if !x7 then D0 c w_ e_ x1 true else (bX w_ 0 2).bind fun x8=>D0 c w_ e_ x1 (!x8))
def D1(e_:Int)(x1:aC)(x2:Bool):Option (aC×Bool):=
  (if x2 then some (x1,false) else some ((⟨aY (e_+1),x1.cK⟩:aC),true))
def ON(c:aC)(e_:Int):Option (aC×Bool):=
  (yD c).bind fun x1=>(pJ c).bind fun x3=>(if !x3 then D1 e_ x1 true else (if c.aJ != e_ then D1 e_ x1 true else D1 e_ x1 (e_ == 100000)))
def sO(b:aA)(s:Sub)(x3:aC×Bool)(x5:Int):Option (aA×Sub):=
  some (({b with aC:=x3.1}:aA),({s with Pc:=x5,B:=aY (s.B+1)}:Sub))
def sP(b:aA)(s:Sub)(x6:aC×Bool)(x7:Int):Option (aA×Sub):=
  (bR ({s with Out:=x7}:Sub) 0).bind fun x8=>some (({b with aC:=x6.1}:aA),x8)
def tU(b:aA)(s:Sub):Option (aA×Sub):=
  (if s.Pc == 0 then some (b,({s with Pc:=1,E:=b.aC.aJ,B:=0}:Sub)) else (if s.Pc == 1 then (bX s.B 0 2).bind fun x1=>(if !x1 then (bR s 1).bind fun x2=>some (b,x2) else (HE b.aC s.B s.E).bind fun x3=>(if !x3.2 then (bR s 8).bind fun x4=>some (({b with aC:=x3.1}:aA),x4) else (if (aY (s.B+1)) == 3 then sO b s x3 2 else sO b s x3 s.Pc))) else (if s.Pc == 2 then (ON b.aC s.E).bind fun x6=>(if x6.2 then sP b s x6 1 else sP b s x6 s.Out) else (bR s 1).bind fun x9=>some (b,x9))))
def JF(x1:Bool):Option Bool:=
  some x1
def JW(r_:dO)(e_:Int):Option Bool:=
  (if decide (2≤e_) then JF (decide (r_.aJ≤(aY (e_ - 2)))) else JF false)
def aBH:Option Int:=
  some (-1)
def eO(l:List dO)(e_:Int):Int→Option (Step Int (Out Unit Int))
  | x2=>(if decide (x2 < (l.length:Int)) then (idx l x2).bind fun x3=>(JW x3 e_).bind fun x4=>(if x4 then some (.stop (Out.ret x2)) else some (.next (aY (x2+1)))) else some (.stop (Out.brk ())))
def aBI:(Out Unit Int)→Option Int
  | .brk ()=>aBH
  | .ret r=>some r
def yG(l:List dO)(from_ e_:Int):Option Int:=
  (loop (eO l e_) (if 0 < from_ then from_ else 0)).bind (aBI)
def sQ(b:aA)(s:Sub)(x8:Int):Option (aA×Sub):=
  some (b,({s with Pc:=x8,B:=aY (s.B+1)}:Sub))
def fG(b:aA)(s:Sub)(x5:Bool):Option (aA×Sub):=
  (if x5 then (bR s 1).bind fun x6=>some (b,x6) else (idx b.mP s.B).bind fun x7=>(if x7 == s.H then some (b,({s with Pc:=1,Row:=aY (s.Row+1)}:Sub)) else (if (aY (s.B+1)) == 3 then sQ b s 3 else sQ b s s.Pc)))
def B4(s:Sub)(x14:aA):Option (aA×Sub):=
  some (x14,({s with Pc:=1,Out:=aY (s.Out+1)}:Sub))
def fH(b:aA)(w_:Int)(s:Sub)(x1:bB)(x12:Bool):Option (aA×Sub):=
  (if x12 then (bR s 1).bind fun x13=>some (b,x13) else need (0≤(s.Row:Int)∧(s.Row:Int)≤(x1.Rows.length:Int)) (need (0≤(aY (s.Row+1):Int)∧(aY (s.Row+1):Int)≤(x1.Rows.length:Int)) (need (s.Row.toNat≤(aY (s.Row+1)).toNat) ((fN s.H).bind fun x15=>(HD b.Mem w_ x15).bind fun x16=>B4 s ({b with Mem:=x16,aM:=b.aM.set w_.toNat (⟨((dQ x1.Rows s.Row.toNat (x1.Rows.drop ((aY (s.Row+1)).toNat))).take (s.Row.toNat+(x1.Rows.length - ((aY (s.Row+1)).toNat)))).drop 0⟩:bB)}:aA)))))
def tV(b:aA)(w_:Int)(s:Sub):Option (aA×Sub):=
  (idx b.aM w_).bind fun x1=>(if s.Pc == 0 then some (b,({s with Pc:=1,E:=b.aC.aJ,Row:=0}:Sub)) else (if s.Pc == 1 then (yG x1.Rows s.Row s.E).bind fun x2=>(if decide (x2 < 0) then (bR s 0).bind fun x3=>some (b,x3) else (idx x1.Rows x2).bind fun x4=>some (b,({s with Pc:=2,Row:=x2,B:=0,H:=x4.Handle}:Sub))) else (if s.Pc == 2 then (bX s.B 0 2).bind fun x9=>(if !x9 then fG b s true else (bX s.Row 0 (aY ((x1.Rows.length:Int) - 1))).bind fun x10=>(if !x10 then fG b s true else (idx x1.Rows s.Row).bind fun x11=>fG b s (x11.Handle != s.H))) else (if s.Pc == 3 then (bX s.Row 0 (aY ((x1.Rows.length:Int) - 1))).bind fun x17=>(if !x17 then fH b w_ s x1 true else (idx x1.Rows s.Row).bind fun x18=>(if x18.Handle != s.H then fH b w_ s x1 true else (JW x18 s.E).bind fun x19=>fH b w_ s x1 (!x19))) else (bR s 1).bind fun x20=>some (b,x20)))))
def AH(w_ e_:Int)(x1:aC)(x2:Bool):Option (aC×Bool):=
  (if x2 then some (x1,false) else (idx x1.cK w_).bind fun x3=>some ((⟨x1.aJ,x1.cK.set w_.toNat (⟨true,e_,false,0⟩:qA)⟩:aC),true))
def KJ(c:aC)(w_ e_:Int):Option (aC×Bool):=
  (yD c).bind fun x1=>(pJ c).bind fun x4=>(if !x4 then AH w_ e_ x1 true else (bX w_ 0 2).bind fun x5=>(if !x5 then AH w_ e_ x1 true else (bX e_ 0 c.aJ).bind fun x6=>AH w_ e_ x1 (!x6)))
def HF(b:aA)(w_:Int)(s:Sub):Option (aA×Sub):=
  (if s.Pc == 0 then some (b,({s with Pc:=1,E:=b.aC.aJ}:Sub)) else (if s.Pc == 1 then (KJ b.aC w_ s.E).bind fun x1=>(if !x1.2 then (bR s 1).bind fun x2=>some (({b with aC:=x1.1}:aA),x2) else some (({b with aC:=x1.1}:aA),({s with Pc:=2}:Sub))) else (if s.Pc == 2 then (if b.aC.aJ == s.E then (bR s 0).bind fun x3=>some (b,x3) else some (b,({s with Pc:=0}:Sub))) else (bR s 1).bind fun x4=>some (b,x4))))
def wR(b:aA)(w_:Int)(s:Sub):Option (aA×Sub):=
  (if s.cW then some (b,s) else (if s.Kind == 1 then (AG b w_ s).bind fun x1=>some (x1.1,x1.2) else (if s.Kind == 2 then (wQ b w_ s).bind fun x2=>some (x2.1,x2.2) else (if s.Kind == 3 then (tU b s).bind fun x3=>some (x3.1,x3.2) else (if s.Kind == 4 then (tV b w_ s).bind fun x4=>some (x4.1,x4.2) else (if s.Kind == 5 then (HF b w_ s).bind fun x5=>some (x5.1,x5.2) else (bR s 1).bind fun x6=>some (b,x6)))))))
def S7:Option (List Int):=
  need (0≤(3:Int)∧(3:Int)≤4294967296) (some (List.replicate ((3:Int).toNat) 0))
def M7:Option aC:=
  need (0≤(3:Int)∧(3:Int)≤4294967296) (some (⟨0,List.replicate ((3:Int).toNat) (⟨false,0,false,0⟩:qA)⟩:aC))
def M8:Option (List bB):=
  need (0≤(3:Int)∧(3:Int)≤4294967296) (some (List.replicate ((3:Int).toNat) (⟨[]⟩:bB)))
def JG:Option aA:=
  (S3).bind fun x1=>(M7).bind fun x2=>(M8).bind fun x3=>(S7).bind fun x4=>some (⟨x1,x2,x3,x4⟩:aA)
def hU(kind a_:Int):Option Sub:=
  some (⟨kind,a_,0,0,0,0,0,0,0,false⟩:Sub)
def AI(w_:Int)(x1:aC)(x2:Bool):Option (aC×Bool):=
  (if x2 then some (x1,false) else (idx x1.cK w_).bind fun x3=>some ((⟨x1.aJ,x1.cK.set w_.toNat (⟨false,0,false,0⟩:qA)⟩:aC),true))
def FI(c:aC)(w_:Int):Option (aC×Bool):=
  (yD c).bind fun x1=>(pJ c).bind fun x4=>(if !x4 then AI w_ x1 true else (bX w_ 0 2).bind fun x5=>(if !x5 then AI w_ x1 true else (idx c.cK w_).bind fun x6=>AI w_ x1 (!x6.On)))
def tW(w_ h:Int)(x1:(List Int))(x2:Bool):Option ((List Int)×Bool):=
  (if x2 then some (x1,false) else (idx x1 w_).bind fun x3=>some (x1.set w_.toNat h,true))
def D2(z:List Int)(w_ h:Int):Option ((List Int)×Bool):=
  (wP z).bind fun x1=>(FH z).bind fun x4=>(if !x4 then tW w_ h x1 true else (bX w_ 0 2).bind fun x5=>(if !x5 then tW w_ h x1 true else (iC h).bind fun x6=>tW w_ h x1 (!x6)))
def AJ(w_:Int)(x1:(List Int))(x2:Bool):Option ((List Int)×Bool):=
  (if x2 then some (x1,false) else (idx x1 w_).bind fun x3=>some (x1.set w_.toNat 0,true))
def KK(z:List Int)(w_:Int):Option ((List Int)×Bool):=
  (wP z).bind fun x1=>(FH z).bind fun x4=>(if !x4 then AJ w_ x1 true else (bX w_ 0 2).bind fun x5=>(if !x5 then AJ w_ x1 true else (idx z w_).bind fun x6=>AJ w_ x1 (x6 == 0)))
def aH1(x5:Int):Option (Int×Int):=
  some (0,x5)
def GK(code:List UInt8)(x3 x4:Int)(x6:Bool):Option (Step (Int×Int) Int):=
  (if x6 then (idx code x4).bind fun x7=>some (.next (hJ .and .i64 (aY ((aY ((aY (x3 * 131))+(x7.toNat:Int)))+7)) 1073741823,aY (x4+1))) else some (.stop (x3)))
def VL(code:List UInt8):(Int×Int)→Option (Step (Int×Int) Int)
  | (x3,x4)=>(if decide (x4 < (code.length:Int)) then GK code x3 x4 (decide (x4 < 4000)) else GK code x3 x4 false)
def aH2:Int→Option (Int×Int)
  | x5=>aH1 x5
def P0(code:List UInt8):Option (Int×Int):=
  (loop (VL code) (aY (10101+(code.length:Int)),0)).bind (aH2)
def GL(x1:Int×(Int×Int))(x4 x5 x6 x7 x8:Int):Option (bK×(Int×Int)):=
  some ((⟨x1.1,x4,x7,x8⟩:bK),(x5,x6))
def GM(c:eA)(x1:Int×(Int×Int))(x4 x10 x11 x12:Int):Option (bK×(Int×Int)):=
  (gH (⟨c.b,x10,x11⟩:eA) 60000).bind fun x13=>GL x1 x4 x13.2.1 x13.2.2 x12 x13.1
def AK(c:eA)(x1:Int×(Int×Int))(x2 x3 x4:Int):Option (bK×(Int×Int)):=
  (if x1.1 == 1 then (gH (⟨c.b,x2,x3⟩:eA) 40).bind fun x9=>(SX (⟨c.b,x9.2.1,x9.2.2⟩:eA) 12).bind fun x14=>(if x14.1 then (rJ (⟨c.b,x14.2.1,x14.2.2⟩:eA) ([0,41,100]:List Int)).bind fun x15=>GM c x1 x4 x15.2.1 x15.2.2 x15.1 else GM c x1 x4 x14.2.1 x14.2.2 (aY (1+x9.1))) else GL x1 x4 x2 x3 0 0)
def P1(c:eA):Option (bK×(Int×Int)):=
  (rJ c ([1,1,1,2,2,3,3,4,4,5,6,7,7]:List Int)).bind fun x1=>(wO x1.1).bind fun x16=>(if x16 then (rJ (⟨c.b,x1.2.1,x1.2.2⟩:eA) ([0,0,0,1]:List Int)).bind fun x17=>AK c x1 x17.2.1 x17.2.2 x17.1 else AK c x1 x1.2.1 x1.2.2 0)
def XN(x9:List Queue)(x10 x11:Int):Option ((List Queue)×(Int×Int)):=
  some (x9,(x10,x11))
def MA(x5:List Queue)(x6 x21 x22:Int)(x23:List bK):Option (Step ((List Queue)×Int×Int×Int) ((List Queue)×Int×Int)):=
  need (x5.length+([(⟨x23⟩:Queue)]).length≤1073741824) (some (.next (x5++([(⟨x23⟩:Queue)]),aY (x6+1),x21,x22)))
def D3(x17 x24 x25:Int)(x26:List bK):Option (Step (Int×Int×Int×(List bK)) (Int×Int×(List bK))):=
  some (.next (aY (x17 - 1),x24,x25,x26))
def MB(c:eA):(Int×Int×Int×(List bK))→Option (Step (Int×Int×Int×(List bK)) (Int×Int×(List bK)))
  | (x17,x18,x19,x20)=>(if decide (0 < x17) then (P1 (⟨c.b,x18,x19⟩:eA)).bind fun x27=>need (x20.length+([x27.1]).length≤1073741824)<|D3 x17 x27.2.1 x27.2.2 (x20++([x27.1])) else some (.stop ((x18,x19,x20))))
def MC(x5:List Queue)(x6:Int):(Int×Int×(List bK))→Option (Step ((List Queue)×Int×Int×Int) ((List Queue)×Int×Int))
  | (x21,x22,x23)=>MA x5 x6 x21 x22 x23
def MD(c:eA)(most:Int):((List Queue)×Int×Int×Int)→Option (Step ((List Queue)×Int×Int×Int) ((List Queue)×Int×Int))
  | (x5,x6,x7,x8)=>(if decide (x6 < 3) then (gH (⟨c.b,x7,x8⟩:eA) (aY (most+1))).bind fun x12=>(loop (MB c) (x12.1,x12.2.1,x12.2.2,[])).bind (MC x5 x6) else some (.stop ((x5,x7,x8))))
def XO:((List Queue)×Int×Int)→Option ((List Queue)×(Int×Int))
  | (x9,x10,x11)=>XN x9 x10 x11
def wS(c:eA)(most:Int):Option ((List Queue)×(Int×Int)):=
  (loop (MD c most) (([]:List Queue),0,c.i,c.h)).bind (XO)
def ZI(x10:List Int)(x11 x12:Int):Option ((List Int)×(Int×Int)):=
  some (x10,(x11,x12))
def OO(x7:Int)(x14:Int×(Int×Int))(x19:List Int):Option (Step ((List Int)×Int×Int×Int) ((List Int)×Int×Int)):=
  some (.next (x19,aY (x7 - 1),x14.2.1,x14.2.2))
def OQ(x13:Int×(Int×Int)):((List Int)×Int)→Option (Step ((List Int)×Int) (List Int))
  | (x17,x18)=>(if decide (0 < x18) then need (x17.length+([x13.1]).length≤1073741824) (some (.next (x17++([x13.1]),aY (x18 - 1)))) else some (.stop (x17)))
def OR(x7:Int)(x14:Int×(Int×Int)):(List Int)→Option (Step ((List Int)×Int×Int×Int) ((List Int)×Int×Int))
  | x19=>OO x7 x14 x19
def OS(c:eA):((List Int)×Int×Int×Int)→Option (Step ((List Int)×Int×Int×Int) ((List Int)×Int×Int))
  | (x6,x7,x8,x9)=>(if decide (0 < x7) then (gH (⟨c.b,x8,x9⟩:eA) 3).bind fun x13=>(gH (⟨c.b,x13.2.1,x13.2.2⟩:eA) 4).bind fun x14=>(loop (OQ x13) (x6,aY (1+x14.1))).bind (OR x7 x14) else some (.stop ((x6,x8,x9))))
def ZJ:((List Int)×Int×Int)→Option ((List Int)×(Int×Int))
  | (x10,x11,x12)=>ZI x10 x11 x12
def GN(c:eA)(most:Int):Option ((List Int)×(Int×Int)):=
  (gH c most).bind fun x1=>(loop (OS c) (([]:List Int),x1.1,x1.2.1,x1.2.2)).bind (ZJ)
def jD(x2:List Queue)(x3 x4:Int):Option ((List Queue)×(Int×Int)):=
  some (x2,(x3,x4))
def sS(x6:List Queue)(x7 x8:Int):Option ((List Queue)×(Int×Int)):=
  jD x6 x7 x8
def WK(x17:List Queue)(x18 x19:Int):Option ((List Queue)×(Int×Int)):=
  jD x17 x18 x19
def sT(x14:List Queue)(x20:Bool)(x21 x22:Int):Option (Step ((List Queue)×Int×Int) ((List Queue)×Int×Int)):=
  (if x20 then (idx x14 1).bind fun x23=>need (x23.fM.length+([(⟨4,0,0,0⟩:bK)]).length≤1073741824) (some (.next (x14.set ((1:Int).toNat) (⟨x23.fM++([(⟨4,0,0,0⟩:bK)])⟩:Queue),x21,x22))) else some (.stop ((x14,x21,x22))))
def B5(c:eA):((List Queue)×Int×Int)→Option (Step ((List Queue)×Int×Int) ((List Queue)×Int×Int))
  | (x14,x15,x16)=>(idx x14 1).bind fun x24=>(gH (⟨c.b,x15,x16⟩:eA) 2).bind fun x25=>sT x14 (decide ((x24.fM.length:Int) < (aY (12+x25.1)))) x25.2.1 x25.2.2
def WL:((List Queue)×Int×Int)→Option ((List Queue)×(Int×Int))
  | (x17,x18,x19)=>WK x17 x18 x19
def oP(c:eA):Option ((List Queue)×(Int×Int)):=
  (wS c 7).bind fun x1=>(gH (⟨c.b,x1.2.1,x1.2.2⟩:eA) 20).bind fun x5=>(if x5.1 == 0 then need (0≤(2:Int)∧(2:Int)≤(x1.1.length:Int)) (some ((x1.1.take ((2:Int).toNat)).drop 0,(x5.2.1,x5.2.2))) else (if x5.1 == 1 then (idx x1.1 0).bind fun x9=>(rJ (⟨c.b,x5.2.1,x5.2.2⟩:eA) ([0,8]:List Int)).bind fun x10=>need (x9.fM.length+([(⟨x10.1,0,0,0⟩:bK)]).length≤1073741824)<|sS (x1.1.set ((0:Int).toNat) (⟨x9.fM++([(⟨x10.1,0,0,0⟩:bK)])⟩:Queue)) x10.2.1 x10.2.2 else (if x5.1 == 2 then (loop (B5 c) (x1.1,x5.2.1,x5.2.2)).bind (WL) else (if x5.1 == 3 then (idx x1.1 2).bind fun x26=>need (x26.fM.length+([(⟨2,2,0,0⟩:bK)]).length≤1073741824) (jD (x1.1.set ((2:Int).toNat) (⟨x26.fM++([(⟨2,2,0,0⟩:bK)])⟩:Queue)) x5.2.1 x5.2.2) else jD x1.1 x5.2.1 x5.2.2))))
def iV(x4:List Queue)(x5:List Int):Option zD:=
  some (⟨x4,x5⟩:zD)
def jE(code:List UInt8):Option zD:=
  (P0 code).bind fun x1=>(wS (⟨code,x1.1,x1.2⟩:eA) 8).bind fun x2=>(GN (⟨code,x2.2.1,x2.2.2⟩:eA) 90).bind fun x3=>(gH (⟨code,x3.2.1,x3.2.2⟩:eA) 16).bind fun x6=>(if x6.1 == 0 then (oP (⟨code,x6.2.1,x6.2.2⟩:eA)).bind fun x7=>iV x7.1 x3.1 else (if x6.1 == 1 then need (x3.1.length+([(-1),3,1]:List Int).length≤1073741824) (iV x2.1 (x3.1++([(-1),3,1]:List Int))) else iV x2.1 x3.1))
def XP(x5:List Queue):Option (List Queue):=
  some x5
def D4(l:List Queue):((List Queue)×Int)→Option (Step ((List Queue)×Int) (List Queue))
  | (x3,x4)=>(if decide (x4 < (l.length:Int)) then (idx l x4).bind fun x6=>need (([]:List bK).length+x6.fM.length≤1073741824) (need (x3.length+([(⟨([]:List bK)++x6.fM⟩:Queue)]).length≤1073741824) (some (.next (x3++([(⟨([]:List bK)++x6.fM⟩:Queue)]),aY (x4+1))))) else some (.stop (x3)))
def XQ:(List Queue)→Option (List Queue)
  | x5=>XP x5
def D5(l:List Queue):Option (List Queue):=
  (loop (D4 l) (([]:List Queue),0)).bind (XQ)
def OT(x2:aB):Option aB:=
  some ({x2 with Log:=[]}:aB)
def GO(todo:List Queue):Option aB:=
  (DS todo).bind fun x1=>(if !x1 then some (⟨(⟨(⟨(⟨[],[]⟩:aE),(⟨[],[]⟩:aD)⟩:Mem),(⟨0,[]⟩:aC),[],[]⟩:aA),[],[],[],[],0⟩:aB) else (JG).bind fun x3=>need (0≤(2:Int)∧(2:Int)≤4294967296)<|need (0≤(3:Int)∧(3:Int)≤4294967296)<|(D5 todo).bind fun x4=>OT (⟨x3,List.replicate ((2:Int).toNat) 0,List.replicate ((3:Int).toNat) (⟨false,(⟨0,0,0,0⟩:bK),0,0,(⟨0,0,0,0,0,0,0,0,0,false⟩:Sub),0,0,0,0⟩:bD),x4,[],0⟩:aB))
def XR(x6:aB):Option aB:=
  some x6
def vF(x4:Int)(x7:aB):Option (Step (Int×aB) aB):=
  some (.next (aY (x4+1),x7))
def ME(x:zD):(Int×aB)→Option (Step (Int×aB) aB)
  | (x4,x5)=>(if decide (x4 < (((x.jL.take ((if 400 < (x.jL.length:Int) then 400 else (x.jL.length:Int)).toNat)).drop 0).length:Int)) then (idx ((x.jL.take ((if 400 < (x.jL.length:Int) then 400 else (x.jL.length:Int)).toNat)).drop 0) x4).bind fun x8=>(fF x8).bind fun x9=>(if x9 then (l4 x5 x8).bind fun x10=>vF x4 x10 else vF x4 x5) else some (.stop (x5)))
def XS:aB→Option aB
  | x6=>XR x6
def lD(x:zD):Option aB:=
  (pW x.aZ).bind fun x1=>(if (x1.aT.length:Int) == 0 then some x1 else need (0≤(if 400 < (x.jL.length:Int) then 400 else (x.jL.length:Int):Int)∧(if 400 < (x.jL.length:Int) then 400 else (x.jL.length:Int):Int)≤(x.jL.length:Int)) ((loop (ME x) (0,x1)).bind (XS)))
def fC(s:aB)(w_:Int)(x2:Queue)(x3:bK)(x4:bD):Option aB:=
  (idx s.aT w_).bind fun x5=>need (s.Log.length+([(⟨1,w_,aY (s.aI+1),x3.Cell,0,0,0⟩:Ev)]).length≤1073741824) (some (⟨s.aA,s.Cells,s.aT.set w_.toNat x4,s.aZ.set w_.toNat (⟨(x2.fM.take x2.fM.length).drop ((1:Int).toNat)⟩:Queue),s.Log++([(⟨1,w_,aY (s.aI+1),x3.Cell,0,0,0⟩:Ev)]),aY (s.aI+1)⟩:aB))
def jJ(s:aB)(w_:Int)(x2:Queue)(x3:bK)(x7:Bool):Option aB:=
  (if x7 then (hU 5 0).bind fun x8=>(idx s.aA.aC.cK w_).bind fun x9=>(if x9.On then fC s w_ x2 x3 (⟨true,x3,aY (s.aI+1),9,x8,0,0,0,1⟩:bD) else fC s w_ x2 x3 (⟨true,x3,aY (s.aI+1),0,x8,0,0,0,0⟩:bD)) else (if x3.Kind == 4 then (hU 3 0).bind fun x10=>fC s w_ x2 x3 (⟨true,x3,aY (s.aI+1),0,x10,0,0,0,0⟩:bD) else fC s w_ x2 x3 (⟨true,x3,aY (s.aI+1),0,(⟨0,0,0,0,0,0,0,0,0,false⟩:Sub),0,0,0,0⟩:bD)))
def yH(s:aB)(w_:Int)(x1:Bool):Option aB:=
  (if x1 then some s else (idx s.aZ w_).bind fun x2=>(idx x2.fM 0).bind fun x3=>need (0≤(1:Int)∧(1:Int)≤(x2.fM.length:Int)) ((if x3.Kind == 1 then (hU 1 x3.gP).bind fun x6=>fC s w_ x2 x3 (⟨true,x3,aY (s.aI+1),0,x6,0,0,0,0⟩:bD) else (if x3.Kind == 2 then jJ s w_ x2 x3 true else jJ s w_ x2 x3 (x3.Kind == 5)))))
def AL(s:aB)(w_:Int):Option aB:=
  (idx s.aZ w_).bind fun x11=>(if (x11.fM.length:Int) == 0 then yH s w_ true else yH s w_ (s.aI == 1000000))
def bI(j:bD)(pc code:Int):Option bD:=
  some ({j with Pc:=pc,Code:=code}:bD)
def HH(s:aB)(w_:Int)(j:bD):Option (aB×bD):=
  (if j.Pc == 0 then (wR s.aA w_ j.Sub).bind fun x1=>(if !x1.2.cW then some (({s with aA:=x1.1}:aB),({j with Sub:=x1.2}:bD)) else (if x1.2.Code != 0 then (bI ({j with Sub:=x1.2}:bD) 9 x1.2.Code).bind fun x2=>some (({s with aA:=x1.1}:aB),x2) else (iC x1.2.Out).bind fun x3=>(if !x3 then (bI ({j with Sub:=x1.2}:bD) 9 1).bind fun x4=>some (({s with aA:=x1.1}:aB),x4) else (bI ({j with Sub:=x1.2,H:=x1.2.Out}:bD) 1 0).bind fun x5=>some (({s with aA:=x1.1}:aB),x5)))) else (if j.Pc == 1 then (DW s.aA.Mem j.H 0 4 j.Op.dK).bind fun x6=>(if x6.2 != 0 then (bI j 9 x6.2).bind fun x7=>some (({s with aA:=(⟨x6.1,s.aA.aC,s.aA.aM,s.aA.mP⟩:aA)}:aB),x7) else (bI j 2 0).bind fun x8=>some (({s with aA:=(⟨x6.1,s.aA.aC,s.aA.aM,s.aA.mP⟩:aA)}:aB),x8)) else (if j.Pc == 2 then (idx s.Cells j.Op.Cell).bind fun x9=>need (s.Log.length+([(⟨2,w_,j.aI,j.Op.Cell,j.H,j.Op.dK,0⟩:Ev)]).length≤1073741824) ((if x9 == 0 then (bI ({j with Old:=x9}:bD) 9 0).bind fun x10=>some (({s with Cells:=s.Cells.set j.Op.Cell.toNat j.H,Log:=s.Log++([(⟨2,w_,j.aI,j.Op.Cell,j.H,j.Op.dK,0⟩:Ev)])}:aB),x10) else (hU 2 x9).bind fun x11=>(bI ({j with Sub:=x11,Old:=x9}:bD) 3 0).bind fun x12=>some (({s with Cells:=s.Cells.set j.Op.Cell.toNat j.H,Log:=s.Log++([(⟨2,w_,j.aI,j.Op.Cell,j.H,j.Op.dK,0⟩:Ev)])}:aB),x12))) else (if j.Pc == 3 then (wR s.aA w_ j.Sub).bind fun x13=>(if !x13.2.cW then some (({s with aA:=x13.1}:aB),({j with Sub:=x13.2}:bD)) else (bI ({j with Sub:=x13.2}:bD) 9 x13.2.Code).bind fun x14=>some (({s with aA:=x13.1}:aB),x14)) else (bI j 9 1).bind fun x15=>some (s,x15)))))
def jV(s:aB)(w_:Int)(j:bD):Option aB:=
  need (s.Log.length+([(⟨3,w_,j.aI,j.Op.Cell,j.H,0,0⟩:Ev)]).length≤1073741824) (some ({s with Log:=s.Log++([(⟨3,w_,j.aI,j.Op.Cell,j.H,0,0⟩:Ev)])}:aB))
def nI(h:aE)(x at_ width x3:Int)(x4:Bool):Option (Int×Bool):=
  (if x4 then some (0,false) else (fN x).bind fun x5=>(JC x5 x3).bind fun x6=>(wH h.Bytes (aY (x6+at_)) width).bind fun x7=>some (x7,true))
def D6(h:aE)(x at_ width:Int)(x1:Bool):Option (Int×Bool):=
  (if x1 then some (0,false) else (fN x).bind fun x2=>(mO h x2).bind fun x3=>(if decide (x3 < 0) then nI h x at_ width x3 true else (pI x3).bind fun x8=>(bX at_ 0 (aY (x8 - 1))).bind fun x9=>(if !x9 then nI h x at_ width x3 true else (pI x3).bind fun x10=>nI h x at_ width x3 (decide ((aY (x10 - at_)) < width)))))
def MF(h:aE)(x at_ width:Int):Option (Int×Bool):=
  (iC x).bind fun x11=>(if !x11 then D6 h x at_ width true else (bX width 1 7).bind fun x12=>D6 h x at_ width (!x12))
def pK(s:aB)(j:bD):Option Int:=
  (MF s.aA.Mem.aE j.H 0 4).bind fun x1=>some x1.1
def m7(j:bD)(pc:Int)(x2:Bool):Option bD:=
  (if x2 then (bI j pc 0).bind fun x3=>some x3 else (bI ({j with dK:=0}:bD) pc 6).bind fun x4=>some x4)
def uI(s:aB)(w_:Int)(j:bD)(pc:Int):Option bD:=
  (idx s.aA.aC.cK w_).bind fun x1=>(if x1.On then m7 j pc (!x1.dJ) else m7 j pc false)
def HI(s:aB)(w_:Int)(j:bD):Option (aB×bD):=
  (if j.Pc == 0 then (wR s.aA w_ j.Sub).bind fun x1=>(if !x1.2.cW then some (({s with aA:=x1.1}:aB),({j with Sub:=x1.2}:bD)) else (bI ({j with Sub:=x1.2}:bD) 1 0).bind fun x2=>some (({s with aA:=x1.1}:aB),x2)) else (if j.Pc == 1 then (idx s.Cells j.Op.Cell).bind fun x3=>(jV s w_ ({j with H:=x3}:bD)).bind fun x4=>(if x3 == 0 then (bI ({j with H:=x3}:bD) 4 8).bind fun x5=>some (x4,x5) else (bI ({j with H:=x3}:bD) 2 0).bind fun x6=>some (x4,x6)) else (if j.Pc == 2 then (pK s j).bind fun x7=>(bI ({j with dK:=x7}:bD) 3 0).bind fun x8=>some (s,x8) else (if j.Pc == 3 then (uI s w_ j 4).bind fun x9=>some (s,x9) else (if j.Pc == 4 then (FI s.aA.aC w_).bind fun x10=>(bI j 9 j.Code).bind fun x11=>some (({s with aA:=(⟨s.aA.Mem,x10.1,s.aA.aM,s.aA.mP⟩:aA)}:aB),x11) else (bI j 9 1).bind fun x12=>some (s,x12))))))
def HJ(s:aB)(w_:Int)(j:bD):Option (aB×bD):=
  (if j.Pc == 0 then (idx s.Cells j.Op.Cell).bind fun x1=>(if x1 == 0 then (jV s w_ ({j with H:=x1}:bD)).bind fun x2=>(bI ({j with H:=x1}:bD) 4 8).bind fun x3=>some (x2,x3) else (bI ({j with H:=x1}:bD) 1 0).bind fun x4=>some (s,x4)) else (if j.Pc == 1 then (D2 s.aA.mP w_ j.H).bind fun x5=>(bI j 2 0).bind fun x6=>some (({s with aA:=(⟨s.aA.Mem,s.aA.aC,s.aA.aM,x5.1⟩:aA)}:aB),x6) else (if j.Pc == 2 then (idx s.Cells j.Op.Cell).bind fun x7=>(if x7 != j.H then (bI j 0 0).bind fun x8=>some (s,x8) else (jV s w_ j).bind fun x9=>(bI j 3 0).bind fun x10=>some (x9,x10)) else (if j.Pc == 3 then (pK s j).bind fun x11=>(bI ({j with dK:=x11}:bD) 4 0).bind fun x12=>some (s,x12) else (if j.Pc == 4 then (KK s.aA.mP w_).bind fun x13=>(bI j 9 j.Code).bind fun x14=>some (({s with aA:=(⟨s.aA.Mem,s.aA.aC,s.aA.aM,x13.1⟩:aA)}:aB),x14) else (bI j 9 1).bind fun x15=>some (s,x15))))))
def D7(s:aB)(w_:Int)(j:bD):Option (aB×bD):=
  (idx s.aA.aC.cK w_).bind fun x1=>(if j.Pc == 0 then (if !x1.On then (bI j 9 5).bind fun x2=>some (s,x2) else (if x1.dJ then (bI j 9 6).bind fun x3=>some (s,x3) else (idx s.Cells j.Op.Cell).bind fun x4=>(jV s w_ ({j with H:=x4}:bD)).bind fun x5=>(if x4 == 0 then (bI ({j with H:=x4}:bD) 9 8).bind fun x6=>some (x5,x6) else (bI ({j with H:=x4}:bD) 1 0).bind fun x7=>some (x5,x7)))) else (if j.Pc == 1 then (pK s j).bind fun x8=>(bI ({j with dK:=x8}:bD) 2 0).bind fun x9=>some (s,x9) else (if j.Pc == 2 then (uI s w_ j 9).bind fun x10=>some (s,x10) else (bI j 9 1).bind fun x11=>some (s,x11))))
def iH(s:aB)(w_:Int)(j:bD)(x5:Bool):Option (aB×bD):=
  (if x5 then (bI j 9 1).bind fun x6=>some (s,x6) else (wR s.aA w_ j.Sub).bind fun x7=>(if !x7.2.cW then some (({s with aA:=x7.1}:aB),({j with Sub:=x7.2}:bD)) else (if j.Op.Kind == 5 then (bI ({j with Sub:=x7.2}:bD) 9 x7.2.Code).bind fun x8=>some (({s with aA:=x7.1}:aB),x8) else (if j.Pc == 0 then (hU 4 0).bind fun x9=>(bI ({j with Sub:=x9}:bD) 1 0).bind fun x10=>some (({s with aA:=x7.1}:aB),x10) else (bI ({j with Sub:=x7.2,dK:=x7.2.Out}:bD) 9 x7.2.Code).bind fun x11=>some (({s with aA:=x7.1}:aB),x11)))))
def yI(s:aB)(w_:Int)(j:bD)(x1:Bool):Option (aB×bD):=
  (if x1 then (FI s.aA.aC w_).bind fun x2=>(if !x2.2 then (bI j 9 5).bind fun x3=>some (({s with aA:=(⟨s.aA.Mem,x2.1,s.aA.aM,s.aA.mP⟩:aA)}:aB),x3) else (bI j 9 0).bind fun x4=>some (({s with aA:=(⟨s.aA.Mem,x2.1,s.aA.aM,s.aA.mP⟩:aA)}:aB),x4)) else (if j.Op.Kind == 6 then iH s w_ j true else (if j.Pc != 0 then (if j.Pc != 1 then iH s w_ j true else iH s w_ j (j.Op.Kind == 5)) else iH s w_ j false)))
def AM(s:aB)(w_:Int)(j:bD):Option (aB×bD):=
  (if j.Op.Kind == 6 then yI s w_ j (j.Pc == 0) else yI s w_ j false)
def cZ(w_:Int)(x3:aB)(x4:bD):Option aB:=
  (idx x3.aT w_).bind fun x5=>some ({x3 with aT:=x3.aT.set w_.toNat x4}:aB)
def P2(s:aB)(w_:Int):Option aB:=
  (idx s.aT w_).bind fun x1=>(if !x1.cY then (AL s w_).bind fun x2=>some x2 else (if x1.Pc == 9 then need (s.Log.length+([(⟨4,w_,x1.aI,x1.Op.Cell,x1.H,x1.dK,x1.Code⟩:Ev)]).length≤1073741824) (some ({s with aT:=s.aT.set w_.toNat (⟨false,(⟨0,0,0,0⟩:bK),0,0,(⟨0,0,0,0,0,0,0,0,0,false⟩:Sub),0,0,0,0⟩:bD),Log:=s.Log++([(⟨4,w_,x1.aI,x1.Op.Cell,x1.H,x1.dK,x1.Code⟩:Ev)])}:aB)) else (if x1.Op.Kind == 1 then (HH s w_ x1).bind fun x6=>cZ w_ x6.1 x6.2 else (if x1.Op.Kind == 2 then (HI s w_ x1).bind fun x7=>cZ w_ x7.1 x7.2 else (if x1.Op.Kind == 3 then (HJ s w_ x1).bind fun x8=>cZ w_ x8.1 x8.2 else (if x1.Op.Kind == 7 then (D7 s w_ x1).bind fun x9=>cZ w_ x9.1 x9.2 else (AM s w_ x1).bind fun x10=>cZ w_ x10.1 x10.2))))))
end
end Go.Gv
end
noncomputable section
set_option maxHeartbeats 4000000
set_option maxRecDepth 100000
namespace Go.Proofs.YtmaknhppafajdaaGreat
open Go.Gv
theorem sU:V8 Tryz.prog 53 7 (.agg #[.int .i64 0,.int .i64 0,.int .i64 0,.int .i64 0,.int .i64 0,.int .i64 0,.int .i64 0]):=HP (b:=56) (by kernel_rfl) rfl
theorem bG:V8 Tryz.prog 27 4 (.agg #[.int .i64 0,.int .i64 0,.int .i64 0,.int .i64 0]):=HP (b:=32) (by kernel_rfl) rfl
theorem fI:V8 Tryz.prog 30 1 (.agg #[.slice none 0 0]):=HP (b:=24) (by kernel_rfl) rfl
theorem aW:V8 Tryz.prog 3 1 (.int .i64 0):=HP (b:=8) (by kernel_rfl) rfl
theorem d9:V8 Tryz.prog 121 1 (.agg #[.slice none 0 0]):=HP (b:=24) (by kernel_rfl) rfl
theorem P3:V8 Tryz.prog 59 4 (.agg #[.bool false,.int .i64 0,.bool false,.int .i64 0]):=HP (b:=32) (by kernel_rfl) rfl
theorem wT:V8 Tryz.prog 108 2 (.agg #[.int .i64 0,.int .i64 0]):=HP (b:=16) (by kernel_rfl) rfl
theorem HK:V8 Tryz.prog 106 1 (.agg #[.slice none 0 0]):=HP (b:=24) (by kernel_rfl) rfl
theorem fX:V8 Tryz.prog 63 21 (.agg #[.bool false,.int .i64 0,.int .i64 0,.int .i64 0,.int .i64 0,.int .i64 0,.int .i64 0,.int .i64 0,.int .i64 0,.int .i64 0,.int .i64 0,.int .i64 0,.int .i64 0,.int .i64 0,.int .i64 0,.int .i64 0,.bool false,.int .i64 0,.int .i64 0,.int .i64 0,.int .i64 0]):=HP (b:=168) (by kernel_rfl) rfl
theorem aPR:V8 Tryz.prog 36 1 (.slice none 0 0):=HP (b:=24) (by kernel_rfl) rfl
theorem aS4:V8 Tryz.prog 5 1 (.int .u8 0):=HP (b:=1) (by kernel_rfl) rfl
theorem aO:Tryz.prog.follows .mixedOrders=true:=by kernel_rfl
theorem aE5(D:Nat)(d d':qA)(w:World):(Op.eqFields (D+2) #[.bool (d.On),.int .i64 (d.aJ),.bool (d.dJ),.int .i64 (d.Seen)] #[.bool (d'.On),.int .i64 (d'.aJ),.bool (d'.dJ),.int .i64 (d'.Seen)] (match Tryz.prog.underlying 59 with | some (.struct fs)=>fs | _=>#[]).toList).run Tryz.prog w=.ok (decide (d=d')) w:=by
  rw [Tryz.underlying59]
  have h:(d.On == d'.On && (d.aJ == d'.aJ && (d.dJ == d'.dJ && (d.Seen == d'.Seen && true))))=decide (d=d'):=by
    cases d;cases d';rw [Bool.eq_iff_iff];simp
  rw [←h]
  exact fT _ _ _ _ _ rfl (gL Tryz.isAgg4 rfl) (gL Tryz.isAgg4 rfl) (aC1 Tryz.underlying4)<|
    fT _ _ _ _ _ rfl (gL Tryz.isAgg3 rfl) (gL Tryz.isAgg3 rfl) (pS Tryz.underlying3)<|
    fT _ _ _ _ _ rfl (gL Tryz.isAgg4 rfl) (gL Tryz.isAgg4 rfl) (aC1 Tryz.underlying4)<|
    fT _ _ _ _ _ rfl (gL Tryz.isAgg3 rfl) (gL Tryz.isAgg3 rfl) (pS Tryz.underlying3)<|
    aC0 _ _ _
theorem aPS(D:Nat)(d d':bK)(w:World):(Op.eqFields (D+2) #[.int .i64 (d.Kind),.int .i64 (d.Cell),.int .i64 (d.gP),.int .i64 (d.dK)] #[.int .i64 (d'.Kind),.int .i64 (d'.Cell),.int .i64 (d'.gP),.int .i64 (d'.dK)] (match Tryz.prog.underlying 27 with | some (.struct fs)=>fs | _=>#[]).toList).run Tryz.prog w=.ok (decide (d=d')) w:=by
  rw [Tryz.underlying27]
  have h:(d.Kind == d'.Kind && (d.Cell == d'.Cell && (d.gP == d'.gP && (d.dK == d'.dK && true))))=decide (d=d'):=by
    cases d;cases d';rw [Bool.eq_iff_iff];simp
  rw [←h]
  exact fT _ _ _ _ _ rfl (gL Tryz.isAgg3 rfl) (gL Tryz.isAgg3 rfl) (pS Tryz.underlying3)<|
    fT _ _ _ _ _ rfl (gL Tryz.isAgg3 rfl) (gL Tryz.isAgg3 rfl) (pS Tryz.underlying3)<|
    fT _ _ _ _ _ rfl (gL Tryz.isAgg3 rfl) (gL Tryz.isAgg3 rfl) (pS Tryz.underlying3)<|
    fT _ _ _ _ _ rfl (gL Tryz.isAgg3 rfl) (gL Tryz.isAgg3 rfl) (pS Tryz.underlying3)<|
    aC0 _ _ _
theorem aPT(D:Nat)(d d':Sub)(w:World):(Op.eqFields (D+2) #[.int .i64 (d.Kind),.int .i64 (d.A),.int .i64 (d.Pc),.int .i64 (d.E),.int .i64 (d.Row),.int .i64 (d.B),.int .i64 (d.H),.int .i64 (d.Out),.int .i64 (d.Code),.bool (d.cW)] #[.int .i64 (d'.Kind),.int .i64 (d'.A),.int .i64 (d'.Pc),.int .i64 (d'.E),.int .i64 (d'.Row),.int .i64 (d'.B),.int .i64 (d'.H),.int .i64 (d'.Out),.int .i64 (d'.Code),.bool (d'.cW)] (match Tryz.prog.underlying 61 with | some (.struct fs)=>fs | _=>#[]).toList).run Tryz.prog w=.ok (decide (d=d')) w:=by
  rw [Tryz.underlying61]
  have h:(d.Kind == d'.Kind && (d.A == d'.A && (d.Pc == d'.Pc && (d.E == d'.E && (d.Row == d'.Row && (d.B == d'.B && (d.H == d'.H && (d.Out == d'.Out && (d.Code == d'.Code && (d.cW == d'.cW && true))))))))))=decide (d=d'):=by
    cases d;cases d';rw [Bool.eq_iff_iff];simp
  rw [←h]
  exact fT _ _ _ _ _ rfl (gL Tryz.isAgg3 rfl) (gL Tryz.isAgg3 rfl) (pS Tryz.underlying3)<|
    fT _ _ _ _ _ rfl (gL Tryz.isAgg3 rfl) (gL Tryz.isAgg3 rfl) (pS Tryz.underlying3)<|
    fT _ _ _ _ _ rfl (gL Tryz.isAgg3 rfl) (gL Tryz.isAgg3 rfl) (pS Tryz.underlying3)<|
    fT _ _ _ _ _ rfl (gL Tryz.isAgg3 rfl) (gL Tryz.isAgg3 rfl) (pS Tryz.underlying3)<|
    fT _ _ _ _ _ rfl (gL Tryz.isAgg3 rfl) (gL Tryz.isAgg3 rfl) (pS Tryz.underlying3)<|
    fT _ _ _ _ _ rfl (gL Tryz.isAgg3 rfl) (gL Tryz.isAgg3 rfl) (pS Tryz.underlying3)<|
    fT _ _ _ _ _ rfl (gL Tryz.isAgg3 rfl) (gL Tryz.isAgg3 rfl) (pS Tryz.underlying3)<|
    fT _ _ _ _ _ rfl (gL Tryz.isAgg3 rfl) (gL Tryz.isAgg3 rfl) (pS Tryz.underlying3)<|
    fT _ _ _ _ _ rfl (gL Tryz.isAgg3 rfl) (gL Tryz.isAgg3 rfl) (pS Tryz.underlying3)<|
    fT _ _ _ _ _ rfl (gL Tryz.isAgg4 rfl) (gL Tryz.isAgg4 rfl) (aC1 Tryz.underlying4)<|
    aC0 _ _ _
theorem aE6(D:Nat)(d d':bD)(w:World):(Op.eqFields (D+3) #[.bool (d.cY),.int .i64 (d.Op.Kind),.int .i64 (d.Op.Cell),.int .i64 (d.Op.gP),.int .i64 (d.Op.dK),.int .i64 (d.aI),.int .i64 (d.Pc),.int .i64 (d.Sub.Kind),.int .i64 (d.Sub.A),.int .i64 (d.Sub.Pc),.int .i64 (d.Sub.E),.int .i64 (d.Sub.Row),.int .i64 (d.Sub.B),.int .i64 (d.Sub.H),.int .i64 (d.Sub.Out),.int .i64 (d.Sub.Code),.bool (d.Sub.cW),.int .i64 (d.H),.int .i64 (d.Old),.int .i64 (d.dK),.int .i64 (d.Code)] #[.bool (d'.cY),.int .i64 (d'.Op.Kind),.int .i64 (d'.Op.Cell),.int .i64 (d'.Op.gP),.int .i64 (d'.Op.dK),.int .i64 (d'.aI),.int .i64 (d'.Pc),.int .i64 (d'.Sub.Kind),.int .i64 (d'.Sub.A),.int .i64 (d'.Sub.Pc),.int .i64 (d'.Sub.E),.int .i64 (d'.Sub.Row),.int .i64 (d'.Sub.B),.int .i64 (d'.Sub.H),.int .i64 (d'.Sub.Out),.int .i64 (d'.Sub.Code),.bool (d'.Sub.cW),.int .i64 (d'.H),.int .i64 (d'.Old),.int .i64 (d'.dK),.int .i64 (d'.Code)] (match Tryz.prog.underlying 63 with | some (.struct fs)=>fs | _=>#[]).toList).run Tryz.prog w=.ok (decide (d=d')) w:=by
  rw [Tryz.underlying63]
  have h:(d.cY == d'.cY && (decide (d.Op=d'.Op) && (d.aI == d'.aI && (d.Pc == d'.Pc && (decide (d.Sub=d'.Sub) && (d.H == d'.H && (d.Old == d'.Old && (d.dK == d'.dK && (d.Code == d'.Code && true)))))))))=decide (d=d'):=by
    cases d;cases d';rw [Bool.eq_iff_iff];simp
  rw [←h]
  exact fT _ _ _ _ _ rfl (gL Tryz.isAgg4 rfl) (gL Tryz.isAgg4 rfl) (aC1 Tryz.underlying4)<|
    fT _ _ _ _ _ rfl (aQ1 (vs:=#[.int .i64 (d.Op.Kind),.int .i64 (d.Op.Cell),.int .i64 (d.Op.gP),.int .i64 (d.Op.dK)]) Tryz.isAgg27 Tryz.sizeOf27 rfl) (aQ1 (vs:=#[.int .i64 (d'.Op.Kind),.int .i64 (d'.Op.Cell),.int .i64 (d'.Op.gP),.int .i64 (d'.Op.dK)]) Tryz.isAgg27 Tryz.sizeOf27 rfl) (aI7 Tryz.stoodInHeld27 Tryz.underlying27 (aPS D _ _ w))<|
    fT _ _ _ _ _ rfl (gL Tryz.isAgg3 rfl) (gL Tryz.isAgg3 rfl) (pS Tryz.underlying3)<|
    fT _ _ _ _ _ rfl (gL Tryz.isAgg3 rfl) (gL Tryz.isAgg3 rfl) (pS Tryz.underlying3)<|
    fT _ _ _ _ _ rfl (aQ1 (vs:=#[.int .i64 (d.Sub.Kind),.int .i64 (d.Sub.A),.int .i64 (d.Sub.Pc),.int .i64 (d.Sub.E),.int .i64 (d.Sub.Row),.int .i64 (d.Sub.B),.int .i64 (d.Sub.H),.int .i64 (d.Sub.Out),.int .i64 (d.Sub.Code),.bool (d.Sub.cW)]) Tryz.isAgg61 Tryz.sizeOf61 rfl) (aQ1 (vs:=#[.int .i64 (d'.Sub.Kind),.int .i64 (d'.Sub.A),.int .i64 (d'.Sub.Pc),.int .i64 (d'.Sub.E),.int .i64 (d'.Sub.Row),.int .i64 (d'.Sub.B),.int .i64 (d'.Sub.H),.int .i64 (d'.Sub.Out),.int .i64 (d'.Sub.Code),.bool (d'.Sub.cW)]) Tryz.isAgg61 Tryz.sizeOf61 rfl) (aI7 Tryz.stoodInHeld61 Tryz.underlying61 (aPT D _ _ w))<|
    fT _ _ _ _ _ rfl (gL Tryz.isAgg3 rfl) (gL Tryz.isAgg3 rfl) (pS Tryz.underlying3)<|
    fT _ _ _ _ _ rfl (gL Tryz.isAgg3 rfl) (gL Tryz.isAgg3 rfl) (pS Tryz.underlying3)<|
    fT _ _ _ _ _ rfl (gL Tryz.isAgg3 rfl) (gL Tryz.isAgg3 rfl) (pS Tryz.underlying3)<|
    fT _ _ _ _ _ rfl (gL Tryz.isAgg3 rfl) (gL Tryz.isAgg3 rfl) (pS Tryz.underlying3)<|
    aC0 _ _ _
set_option maxRecDepth 100000 in
theorem OU{w0:World}{n:Int}(hn:0≤n∧n≤1073741824) :
    Calls Tryz.prog 322 #[.slice none 0 0,.int .i64 n] w0 (Ret fun v w'=>∃s0_0:Value,v=s0_0∧St (c9 w0) w' [gO [s0_0] ([]:List Raw)] []):=by
  have hS:St (c9 w0) w0 [] []:=St.enter (by intro f hf;cases hf)
  have hw:aY (n - aY (0 - 0))=n:=by
    rw [J2 (x:=0 - 0) (by omega),J2 (by omega)];omega
  refine aUH (args:=[_,_]) Tryz.func322 rfl Tryz.ntmps322 rfl ?_
  intro a hA
  refine bY ?_
  refine cR hA ?_
  clear hA
  refine fS (E9 rfl rfl) (cA rfl) rfl rfl ?_
  refine bQ ?_
  intro a hA
  refine bY ?_
  refine bY ?_
  refine cR hA ?_
  clear hA
  refine fS (o7 rfl rfl) (cA rfl) rfl rfl ?_
  refine fS (HO rfl rfl rfl) (cA rfl) rfl rfl ?_
  refine bQ ?_
  intro a hA
  refine mF hA rfl (fun hc=>?_) (fun hc=>?_)
  · exfalso;simp at hc;omega
  refine pZ ?_
  refine bY ?_
  refine bY ?_
  refine cR hA ?_
  clear hA
  refine fS (o7 rfl rfl) (cA rfl) rfl rfl ?_
  refine fS (o7 rfl rfl) (cA rfl) rfl rfl ?_
  refine fS (aJC Tryz.underlying36 rfl rfl) (cA rfl) rfl rfl ?_
  refine fS (o7 rfl rfl) (cA rfl) rfl rfl ?_
  refine fS (p7 (aUL (α:=Raw) (S:=F0)) Tryz.underlying36 rfl rfl) (cA rfl) rfl rfl ?_
  refine fS (aO0 rfl rfl rfl) (cA rfl) rfl rfl ?_
  refine fS (aO0 rfl rfl rfl) (cA rfl) rfl rfl ?_
  refine fS (E9 rfl rfl) (cA rfl) rfl rfl ?_
  refine bQ ?_
  intro a hA
  refine bY ?_
  refine cR hA ?_
  clear hA
  refine fS (o7 rfl rfl) (cA rfl) rfl rfl ?_
  refine fS (aO3 rfl rfl rfl) (cA rfl) rfl rfl ?_
  refine bQ ?_
  intro a hA
  refine mF hA rfl (fun hc=>?_) (fun hc=>?_)
  · have hn1:0 < n:=by
      have h2:decide (0 < aY (n - aY (0 - 0)))=true:=hc
      rw [hw] at h2;simpa using h2
    refine cR hA ?_
    clear hA
    refine fS (o7 rfl rfl) (cA rfl) rfl rfl ?_
    refine fS (o7 rfl rfl) (cA rfl) rfl rfl ?_
    refine fS (aJC Tryz.underlying36 rfl rfl) (cA rfl) rfl rfl ?_
    refine fS (aQ8 (s:=.slice none 0 0) ⟨_,_,_,rfl⟩ Tryz.underlying36 Tryz.sizeOf121 rfl rfl rfl) (cA rfl) rfl rfl ?_
    refine fS (o7 rfl rfl) (cA rfl) rfl rfl ?_
    refine MP (aZP (i:=aY (n - aY (0 - 0))) hS Tryz.underlying36 Tryz.underlying3 d9 rfl rfl (by rw [hw];omega) rfl rfl rfl) (cA rfl) rfl rfl ?_
    clear hS
    intro s w hS
    refine fS (o7 rfl rfl) (cA rfl) rfl rfl ?_
    refine fS (p7 (aUL (α:=Raw) (S:=F0)) Tryz.underlying36 rfl rfl) (cA rfl) rfl rfl ?_
    refine fS (aQ8 (hS.aU4 0 rfl) Tryz.underlying36 Tryz.sizeOf121 rfl rfl rfl) (cA rfl) rfl rfl ?_
    refine fS (E9 rfl rfl) (cA rfl) rfl rfl ?_
    refine bQ ?_
    intro a hA
    replace hS:=hS.a3C (α:=Raw) 0 rfl rfl
    refine bY ?_
    refine cR hA ?_
    clear hA
    refine fS (o7 rfl rfl) (cA rfl) rfl rfl ?_
    refine fS (E9 rfl rfl) (cA rfl) rfl rfl ?_
    refine bQ ?_
    intro a hA
    refine BS ?_
    exact aZD Tryz.results322 hA (aCZ rfl) ⟨_,rfl,(hS.PF [0] rfl).weaken (R':=[]) (fun _ h=>nomatch h)⟩
  · refine pZ ?_
    replace hS:=hS.a25 (α:=Raw)
    refine bY ?_
    refine cR hA ?_
    clear hA
    refine fS (o7 rfl rfl) (cA rfl) rfl rfl ?_
    refine fS (E9 rfl rfl) (cA rfl) rfl rfl ?_
    refine bQ ?_
    intro a hA
    refine BS ?_
    exact aZD Tryz.results322 hA (aCZ rfl) ⟨_,rfl,(hS.PF [0] rfl).weaken (R':=[]) (fun _ h=>nomatch h)⟩
theorem RZ{w0:World}{slices:List (List Raw)}{s1:Value}{r:(List Raw)}(h1:aL.rd (RV w0) w0 [s1] (slices:List (List Raw)))(hF:qB slices=some r) :
    Calls Tryz.prog 246 #[s1] w0 (Ret fun v w'=>∃(s0_0:Value),v=s0_0∧St (c9 w0) w' [gO [s0_0] (r:List Raw)] []):=by
 have hS:St (c9 w0) w0 [] [CP [s1] (slices:List (List Raw))]:=St.enter (by
   intro f hf
   simp only [List.mem_cons,List.not_mem_nil,or_false] at hf
   subst hf;exact h1)
 refine CB (args:=[_]) Tryz.func246 rfl Tryz.ntmps246 rfl ?_
 unfold qB at hF
 intro a hA
 refine bY<|cR hA ?_
 clear hA
 refine oa rfl rfl<|bQ fun a hA=>bY<|cR hA ?_
 clear hA
 refine oa rfl rfl<|bQ fun a hA=>bY<|bY<|cR hA ?_
 clear hA
 refine om rfl rfl<|oy (p7 (hS.rd 0 rfl) Tryz.underlying272 rfl rfl) rfl<|om rfl rfl<|bQ fun a hA=>?_
 obtain⟨o1,hl1,hF⟩:=uX hF
 refine FA (J:=fun a' w'=>∃(x5:Int),o1=x5∧lS 36 [(0,s1),(3,.int .i64 (x5))] a'∧St (c9 w0) w' [] [CP [s1] (slices:List (List Raw))]) ?_ ?_
 ·refine mA ?_
  refine LN (body:=gG slices) (r:=o1) (fun sg a' w'=>lS 36 [(0,s1),(3,.int .i64 (sg.1)),(9,s1),(10,.int .i64 ((slices.length:Int))),(11,.int .i64 (sg.2))] a'∧St (c9 w0) w' [] [CP [s1] (slices:List (List Raw))]) ?_ hl1 ⟨hA.part ⟨rfl,rfl,rfl,rfl,rfl,trivial⟩,((hS).PF [] rfl).xH [0] rfl⟩
  clear hA hS hl1
  rintro⟨x3,x4⟩ a w q1 ⟨hA,hS⟩ hG1 hr1
  try dsimp only at hA hS
  unfold gG at hG1
  refine bY<|cR hA ?_
  clear hA
  refine oy (HO rfl rfl rfl) rfl<|bQ fun a hA=>bY<|mF hA rfl (fun hc2=>?_) (fun hc2=>?_)
  ·replace hG1:=N7 hc2 hG1
   refine pZ<|bY<|mA<|bY<|cR hA ?_
   clear hA
   obtain⟨x12,hx12,hG1⟩:=uX hG1
   refine oy (R9 (m:=1) (hS.rd 0 rfl) rfl hx12 Tryz.underlying272 Tryz.sizeOf36 rfl rfl rfl) rfl ?_
   obtain⟨s8,hel,hS⟩:=hS.aMH 0 rfl (kX hx12).2.2
   refine oy (jS rfl rfl Tryz.isAgg36 (aUK hel)) rfl<|oa rfl rfl<|bQ fun a hA=>bY<|cR hA ?_
   clear hA
   refine om rfl rfl<|om rfl rfl<|oy (p7 (hS.rd 1 rfl) Tryz.underlying36 rfl rfl) rfl<|oy (MQ rfl rfl rfl) rfl<|oa rfl rfl<|bQ fun a hA=>bY<|cR hA ?_
   clear hA
   refine om rfl rfl<|oy (HO rfl rfl rfl) rfl<|bQ fun a hA=>mF hA rfl (fun hc3=>?_) (fun hc3=>?_)
   ·replace hG1:=N7 hc3 hG1
    refine cR hA ?_
    clear hA
    cases hG1
   ·replace hG1:=N8 hc3 hG1
    refine pZ<|cR hA ?_
    clear hA
    refine oy (MQ rfl rfl rfl) rfl<|om rfl rfl<|bQ fun a hA=>?_
    cases hG1
    exact⟨_,rfl,⟨hA.part ⟨rfl,rfl,rfl,rfl,rfl,trivial⟩,((hS).PF [] rfl).xH [0] rfl⟩⟩
  ·replace hG1:=N8 hc2 hG1
   refine LM<|E8 ?_
   cases hG1
   have ho:=hr1 _ rfl;subst ho
   exact⟨x3,rfl,hA.part ⟨rfl,rfl,trivial⟩,((hS).PF [] rfl).xH [0] rfl⟩
 ·skip
  clear hA hS hl1
  rintro a w ⟨x5,heq,hA,hS⟩
  replace hF:mJ slices x5=some r:=by rw [heq] at hF;exact hF
  clear heq
  unfold mJ at hF
  refine bY<|cR hA ?_
  clear hA
  refine om rfl rfl ?_
  obtain⟨hn1,hF⟩:=kY hF
  refine aAB (LQ Tryz.call322 rfl rfl) (cA rfl) rfl rfl (OU hn1) ?_
  rintro s2 w ⟨_,rfl,hk⟩
  replace hS:=hS.after hk;clear hk
  refine oa rfl rfl<|bQ fun a hA=>bY<|bY<|cR hA ?_
  clear hA
  refine om rfl rfl<|oy (p7 (hS.rd 0 rfl) Tryz.underlying272 rfl rfl) rfl<|om rfl rfl<|bQ fun a hA=>?_
  obtain⟨o2,hl2,hF⟩:=uX hF
  refine FA (J:=fun a' w'=>∃(x10:List Raw) (s5:Value),o2=x10∧lS 36 [(6,s5)] a'∧St (c9 w0) w' [gO [s5] (x10:List Raw)] []) ?_ ?_
  ·refine mA ?_
   refine LN (body:=iG slices) (r:=o2) (fun sg a' w'=>∃(s4:Value),lS 36 [(6,s4),(25,s1),(26,.int .i64 ((slices.length:Int))),(27,.int .i64 (sg.2))] a'∧St (c9 w0) w' [gO [s4] (sg.1:List Raw)] [CP [s1] (slices:List (List Raw))]) ?_ hl2 ⟨s2,hA.part ⟨rfl,rfl,rfl,rfl,trivial⟩,((hS).PF [0] rfl).xH [0] rfl⟩
   clear hA hS hl2
   rintro⟨x8,x9⟩ a w q2 ⟨s4,hA,hS⟩ hG2 hr2
   try dsimp only at hA hS
   unfold iG at hG2
   refine bY<|cR hA ?_
   clear hA
   refine oy (HO rfl rfl rfl) rfl<|bQ fun a hA=>bY<|mF hA rfl (fun hc1=>?_) (fun hc1=>?_)
   ·replace hG2:=N7 hc1 hG2
    refine pZ<|bY<|mA<|bY<|cR hA ?_
    clear hA
    obtain⟨x11,hx11,hG2⟩:=uX hG2
    refine oy (R9 (m:=1) (hS.rd 0 rfl) rfl hx11 Tryz.underlying272 Tryz.sizeOf36 rfl rfl rfl) rfl ?_
    obtain⟨s6,hel,hS⟩:=hS.aMH 0 rfl (kX hx11).2.2
    refine oy (jS rfl rfl Tryz.isAgg36 (aUK hel)) rfl<|oa rfl rfl<|bQ fun a hA=>cR hA ?_
    clear hA
    refine om rfl rfl<|om rfl rfl ?_
    obtain⟨hn2,hG2⟩:=kY hG2
    refine MP (aI8 (α:=Raw) 0 hS rfl (hS.rd 1 rfl) rfl Tryz.underlying36 d9 rfl hn2 rfl rfl rfl) (cA rfl) rfl rfl ?_
    clear hS
    rintro s7 w hS
    refine oa rfl rfl<|bQ fun a hA=>cR hA ?_
    clear hA
    refine oy (MQ rfl rfl rfl) rfl<|om rfl rfl<|bQ fun a hA=>?_
    cases hG2
    exact⟨_,rfl,⟨s7,hA.part ⟨rfl,rfl,rfl,rfl,trivial⟩,((hS).PF [0] rfl).xH [0] rfl⟩⟩
   ·replace hG2:=N8 hc1 hG2
    refine LM<|E8 ?_
    cases hG2
    have ho:=hr2 _ rfl;subst ho
    exact⟨x8,s4,rfl,hA.part ⟨rfl,trivial⟩,((hS).PF [0] rfl).xH [] rfl⟩
  ·skip
   clear hA hS hl2
   rintro a w ⟨x10,s5,heq,hA,hS⟩
   replace hF:rZ x10=some r:=by rw [heq] at hF;exact hF
   clear heq
   unfold rZ at hF
   refine bY<|cR hA ?_
   clear hA
   refine om rfl rfl<|oa rfl rfl<|bQ fun a hA=>BS ?_
   cases hF
   exact aZD Tryz.results246 hA (aCZ rfl) ⟨s5,rfl,(hS.PF [0] rfl).weaken (R':=[]) (fun _ h=>nomatch h)⟩
theorem M9{w0:World}{n:Int}{low:Int}{high:Int}{r:Bool}(hF:cS n low high=some r) :
    Calls Tryz.prog 108 #[.int .i64 (n),.int .i64 (low),.int .i64 (high)] w0 (Ret fun v w'=>v=.bool (r)∧St (c9 w0) w' [] []):=by
 have hS:St (c9 w0) w0 [] []:=St.enter (by
   intro f hf;cases hf)
 refine CB (args:=[_,_,_]) Tryz.func108 rfl Tryz.ntmps108 rfl ?_
 unfold cS at hF
 intro a hA
 refine bY<|cR hA ?_
 clear hA
 refine oa rfl rfl<|bQ fun a hA=>bY<|FA (J:=fun a' w'=>∃(x1:Bool),qU x1=some r∧lS 15 [(6,.bool (x1))] a'∧St (c9 w0) w' [] []) ?_ ?_
 ·skip
  refine cR hA ?_
  clear hA
  refine om rfl rfl<|om rfl rfl<|oy (aUD rfl rfl rfl) rfl<|om rfl rfl<|JZ (s:=10) rfl (fun hc1=>?_) (fun hc1=>?_)
  ·replace hF:=N7 hc1 hF
   refine fS (o7 rfl rfl) (cM rfl rfl rfl (by rw [hc1];rfl)) rfl rfl ?_
   refine fS (o7 rfl rfl) (cM rfl rfl rfl (by rw [hc1];rfl)) rfl rfl ?_
   refine fS (aO2 rfl rfl rfl) (cM rfl rfl rfl (by rw [hc1];rfl)) rfl rfl ?_
   refine oy (xG rfl rfl hc1 rfl) rfl<|oa rfl rfl<|bQ fun a hA=>?_
   exact⟨decide (n≤high),hF,hA.part ⟨rfl,trivial⟩,((hS).PF [] rfl).xH [] rfl⟩
  ·replace hF:=N8 hc1 hF
   refine gC (cM rfl rfl rfl (by rw [hc1];rfl)) rfl rfl ?_
   refine gC (cM rfl rfl rfl (by rw [hc1];rfl)) rfl rfl ?_
   refine gC (cM rfl rfl rfl (by rw [hc1];rfl)) rfl rfl ?_
   refine oy (CA rfl rfl hc1 rfl) rfl<|oa rfl rfl<|bQ fun a hA=>?_
   exact⟨false,hF,hA.part ⟨rfl,trivial⟩,((hS).PF [] rfl).xH [] rfl⟩
 ·skip
  clear hA hS hF
  rintro a w ⟨x1,hF,hA,hS⟩
  unfold qU at hF
  refine BS ?_
  cases hF
  exact fy Tryz.results108 hA rfl hS
theorem aH3{w0:World}{slot:Int}{r:Bool}(hF:mU slot=some r) :
    Calls Tryz.prog 247 #[.int .i64 (slot)] w0 (Ret fun v w'=>v=.bool (r)∧St (c9 w0) w' [] []):=by
 have hS:St (c9 w0) w0 [] []:=St.enter (by
   intro f hf;cases hf)
 refine CB (args:=[_]) Tryz.func247 rfl Tryz.ntmps247 rfl ?_
 unfold mU at hF
 intro a hA
 refine bY<|cR hA ?_
 clear hA
 refine oa rfl rfl<|bQ fun a hA=>bY<|cR hA ?_
 clear hA
 refine om rfl rfl ?_
 obtain⟨x1,hx1,hF⟩:=uX hF
 refine aAB (LQ Tryz.call108 rfl rfl) (cA rfl) rfl rfl (M9 (n:=slot) (low:=0) (high:=23) hx1) ?_
 rintro _ w ⟨rfl,hk⟩
 replace hS:=hS.after hk;clear hk
 refine oa rfl rfl<|bQ fun a hA=>BS ?_
 cases hF
 exact fy Tryz.results247 hA rfl hS
theorem aE7{w0:World}{l:aD}{s1:Value}{s2:Value}{r:Bool}(h1:aL.rd (RV w0) w0 [s1] (l.Global:List aR))(h2:aL.rd (RV w0) w0 [s2] (l.cT:List aR))(hF:kQ l=some r) :
    Calls Tryz.prog 163 #[.agg #[s1,s2]] w0 (Ret fun v w'=>v=.bool (r)∧St (c9 w0) w' [] []):=by
 have hS:St (c9 w0) w0 [] [CP [s1] (l.Global:List aR),CP [s2] (l.cT:List aR)]:=St.enter (by
   intro f hf
   simp only [List.mem_cons,List.not_mem_nil,or_false] at hf
   rcases hf with rfl | rfl
   · exact h1
   · exact h2)
 refine CB (args:=[_]) Tryz.func163 rfl Tryz.ntmps163 rfl ?_
 unfold kQ at hF
 intro a hA
 refine bY<|cR hA ?_
 clear hA
 refine MP (a21 (cs:=[s1,s2]) hS rfl rfl rfl) (cA rfl) rfl rfl ?_
 clear hS
 rintro _ w ⟨b1,rfl,hS⟩
 refine oa rfl rfl<|bQ fun a hA=>bY<|bY<|FA (J:=fun a' w'=>∃(x1:Bool),tH l x1=some r∧lS 61 [(1,.pointer (some ⟨b1,0,none⟩)),(17,.bool (x1))] a'∧St (c9 w0) w' [E3 b1 [s1,s2]] [CP [s1] (l.Global:List aR),CP [s2] (l.cT:List aR)]) ?_ ?_
 ·skip
  refine cR hA ?_
  clear hA
  refine oy (BT (m:=0) Tryz.underlying38 rfl rfl Tryz.sizeOf36 rfl rfl) rfl<|oy (jS rfl rfl Tryz.isAgg36 (hS.cell 0 rfl rfl)) rfl<|oy (p7 (hS.rd 0 rfl) Tryz.underlying36 rfl rfl) rfl<|oy (aJ6 rfl rfl rfl) rfl<|om rfl rfl<|JZ (s:=12) rfl (fun hc8=>?_) (fun hc8=>?_)
  ·replace hF:=N7 hc8 hF
   refine gC (cM rfl rfl rfl (by rw [hc8];rfl)) rfl rfl ?_
   refine gC (cM rfl rfl rfl (by rw [hc8];rfl)) rfl rfl ?_
   refine gC (cM rfl rfl rfl (by rw [hc8];rfl)) rfl rfl ?_
   refine gC (cM rfl rfl rfl (by rw [hc8];rfl)) rfl rfl ?_
   refine oy (xG rfl rfl hc8 rfl) rfl<|bQ fun a hA=>?_
   exact⟨true,hF,hA.part ⟨rfl,rfl,trivial⟩,((hS).PF [0] rfl).xH [0,1] rfl⟩
  ·replace hF:=N8 hc8 hF
   refine fS (BT (m:=0) Tryz.underlying38 rfl rfl Tryz.sizeOf36 rfl rfl) (cM rfl rfl rfl (by rw [hc8];rfl)) rfl rfl ?_
   refine fS (jS rfl rfl Tryz.isAgg36 (hS.cell 0 rfl rfl)) (cM rfl rfl rfl (by rw [hc8];rfl)) rfl rfl ?_
   refine fS (p7 (hS.rd 1 rfl) Tryz.underlying36 rfl rfl) (cM rfl rfl rfl (by rw [hc8];rfl)) rfl rfl ?_
   refine fS (aJ6 rfl rfl rfl) (cM rfl rfl rfl (by rw [hc8];rfl)) rfl rfl ?_
   refine oy (CA rfl rfl hc8 rfl) rfl<|bQ fun a hA=>?_
   exact⟨(l.cT.length:Int) != 9,hF,hA.part ⟨rfl,rfl,trivial⟩,((hS).PF [0] rfl).xH [0,1] rfl⟩
 ·skip
  clear hA hS hF
  rintro a w ⟨x1,hF,hA,hS⟩
  unfold tH at hF
  refine mF hA rfl (fun hc1=>?_) (fun hc1=>?_)
  ·replace hF:=N7 hc1 hF
   refine bY<|cR hA ?_
   clear hA
   refine oa rfl rfl<|bQ fun a hA=>BS ?_
   cases hF
   exact fy Tryz.results163 hA rfl hS
  ·replace hF:=N8 hc1 hF
   refine pZ<|bY<|cR hA ?_
   clear hA
   refine oy (Y4 (cells:=#[.bool (false),.bool (false),.bool (false),.bool (false),.bool (false),.bool (false),.bool (false),.bool (false),.bool (false),.bool (false),.bool (false),.bool (false),.bool (false),.bool (false),.bool (false),.bool (false),.bool (false),.bool (false),.bool (false),.bool (false),.bool (false),.bool (false),.bool (false),.bool (false)]) rfl Tryz.zeroValue223 Tryz.underlying223 Tryz.sizeOf4 rfl rfl) rfl<|MP (N6 (cs:=List.map (fun q:Bool=>Value.bool q) [false,false,false,false,false,false,false,false,false,false,false,false,false,false,false,false,false,false,false,false,false,false,false,false]) hS rfl Tryz.zeroValue223 rfl) (cA rfl) rfl rfl ?_
   clear hS
   rintro _ w ⟨b2,rfl,hS⟩
   refine R7 (V7 (vs:=[.bool (false),.bool (false),.bool (false),.bool (false),.bool (false),.bool (false),.bool (false),.bool (false),.bool (false),.bool (false),.bool (false),.bool (false),.bool (false),.bool (false),.bool (false),.bool (false),.bool (false),.bool (false),.bool (false),.bool (false),.bool (false),.bool (false),.bool (false),.bool (false)]) hS (i:=1) rfl rfl rfl rfl rfl Tryz.sizeOf223 rfl rfl rfl) (cA rfl) rfl ?_
   clear hS
   intro w hS
   refine bQ fun a hA=>bY<|bY<|cR hA ?_
   clear hA
   refine oy (BT (m:=0) Tryz.underlying38 rfl rfl Tryz.sizeOf36 rfl rfl) rfl<|oy (jS rfl rfl Tryz.isAgg36 (hS.cell 0 rfl rfl)) rfl<|oy (BT (m:=0) Tryz.underlying38 rfl rfl Tryz.sizeOf36 rfl rfl) rfl<|oy (jS rfl rfl Tryz.isAgg36 (hS.cell 0 rfl rfl)) rfl<|MP (aPA hS (hS.rd 1 rfl) (hS.rd 0 rfl) Tryz.underlying272 aPR rfl rfl rfl) (cA rfl) rfl rfl ?_
   clear hS
   rintro s3 w hS
   obtain⟨hn1,hF⟩:=kY hF
   replace hS:=hS.a5D 2 rfl
   obtain⟨u1,u2,hu1,hl1,hS⟩:=hS.aZQ rfl 2 1 0 rfl rfl rfl
   refine aAB (LQ Tryz.call246 rfl rfl) (cA rfl) rfl rfl (RZ hu1 (OH hl1 hn1)) ?_
   rintro s4 w ⟨_,rfl,hk⟩
   replace hS:=hS.after hk;clear hk
   replace hS:=hS.a5D 3 rfl
   replace hS:=hS.a5J rfl 4 3 rfl rfl
   refine oy (p7 (hS.rd 5 rfl) Tryz.underlying36 rfl rfl) rfl<|om rfl rfl<|bQ fun a hA=>?_
   obtain⟨o1,hl2,hF⟩:=uX hF
   refine FA (J:=fun a' w'=>o1=Out.brk ()∧lS 61 [] a'∧St (c9 w0) w' [] []) ?_ ?_
   ·refine mA ?_
    refine LN (body:=lW l) (r:=o1) (fun sg a' w'=>lS 61 [(1,.pointer (some ⟨b1,0,none⟩)),(3,.pointer (some ⟨b2,0,none⟩)),(24,s4),(25,.int .i64 (((l.cT++l.Global).length:Int))),(26,.int .i64 (sg.1))] a'∧St (c9 w0) w' [E3 b1 [s1,s2],E3 b2 (List.map (fun q:Bool=>Value.bool q) (sg.2:List Bool))] [CP [s4] (l.cT++l.Global:List aR),CP [s1] (l.Global:List aR),CP [s2] (l.cT:List aR)]) ?_ hl2 ⟨hA.part ⟨rfl,rfl,rfl,rfl,rfl,trivial⟩,((hS).PF [0,1] rfl).xH [5,0,1] rfl⟩
    clear hA hS hl2
    rintro⟨x4,x5⟩ a w q2 ⟨hA,hS⟩ hG2 hr2
    try dsimp only at hA hS
    unfold lW at hG2
    refine bY<|cR hA ?_
    clear hA
    refine oy (HO rfl rfl rfl) rfl<|bQ fun a hA=>bY<|mF hA rfl (fun hc2=>?_) (fun hc2=>?_)
    ·replace hG2:=N7 hc2 hG2
     refine pZ<|bY<|mA<|bY<|cR hA ?_
     clear hA
     refine om rfl rfl ?_
     obtain⟨x6,hx6,hG2⟩:=uX hG2
     refine oy (R9 (m:=1) (hS.rd 0 rfl) rfl hx6 Tryz.underlying36 Tryz.sizeOf121 rfl rfl rfl) rfl ?_
     obtain⟨s5,hel,hS⟩:=hS.aWR 0 rfl (kX hx6).2.2
     refine oy (R8 rfl rfl Tryz.isAgg121 Tryz.sizeOf121 rfl hel) rfl<|MP (N6 (cs:=[(.slice none 0 0)]) hS rfl Tryz.zeroValue121 rfl) (cA rfl) rfl rfl ?_
     clear hS
     rintro _ w ⟨b3,rfl,hS⟩
     refine oa rfl rfl<|R7 (V7 (vs:=[s5]) hS (i:=2) rfl rfl rfl rfl rfl Tryz.sizeOf121 rfl rfl (a26 (aDX (hS.rd 3 rfl)) rfl)) (cA rfl) rfl ?_
     clear hS
     intro w hS
     refine bQ fun a hA=>bY<|bY<|FA (J:=fun a' w'=>∃(x7:Bool),lV x4 x5 x6 x7=some q2∧lS 61 [(1,.pointer (some ⟨b1,0,none⟩)),(3,.pointer (some ⟨b2,0,none⟩)),(5,.pointer (some ⟨b3,0,none⟩)),(24,s4),(25,.int .i64 (((l.cT++l.Global).length:Int))),(26,.int .i64 (x4)),(41,.bool (x7))] a'∧St (c9 w0) w' [E3 b1 [s1,s2],E3 b2 (List.map (fun q:Bool=>Value.bool q) (x5:List Bool)),E3 b3 [s5]] [CP [s4] (l.cT++l.Global:List aR),CP [s1] (l.Global:List aR),CP [s2] (l.cT:List aR),CP [s5] (x6.aS:List Int)]) ?_ ?_
     ·skip
      refine cR hA ?_
      clear hA
      refine om rfl rfl<|oy (BT (m:=0) Tryz.underlying38 rfl rfl Tryz.sizeOf36 rfl rfl) rfl<|oy (jS rfl rfl Tryz.isAgg36 (hS.cell 0 rfl rfl)) rfl<|oy (p7 (hS.rd 2 rfl) Tryz.underlying36 rfl rfl) rfl<|oy (HO rfl rfl rfl) rfl<|om rfl rfl<|JZ (s:=36) rfl (fun hc7=>?_) (fun hc7=>?_)
      ·replace hG2:=N7 hc7 hG2
       refine fS (BT (m:=0) Tryz.underlying121 rfl rfl Tryz.sizeOf33 rfl rfl) (cM rfl rfl rfl (by rw [hc7];rfl)) rfl rfl ?_
       refine fS (jS rfl rfl Tryz.isAgg33 (hS.cell 2 rfl rfl)) (cM rfl rfl rfl (by rw [hc7];rfl)) rfl rfl ?_
       refine fS (p7 (hS.rd 3 rfl) Tryz.underlying33 rfl rfl) (cM rfl rfl rfl (by rw [hc7];rfl)) rfl rfl ?_
       refine fS (aO3 rfl rfl rfl) (cM rfl rfl rfl (by rw [hc7];rfl)) rfl rfl ?_
       refine oy (xG rfl rfl hc7 rfl) rfl<|bQ fun a hA=>?_
       exact⟨decide (2 < (x6.aS.length:Int)),hG2,hA.part ⟨rfl,rfl,rfl,rfl,rfl,rfl,rfl,trivial⟩,((hS).PF [0,1,2] rfl).xH [0,1,2,3] rfl⟩
      ·replace hG2:=N8 hc7 hG2
       refine gC (cM rfl rfl rfl (by rw [hc7];rfl)) rfl rfl ?_
       refine gC (cM rfl rfl rfl (by rw [hc7];rfl)) rfl rfl ?_
       refine gC (cM rfl rfl rfl (by rw [hc7];rfl)) rfl rfl ?_
       refine gC (cM rfl rfl rfl (by rw [hc7];rfl)) rfl rfl ?_
       refine oy (CA rfl rfl hc7 rfl) rfl<|bQ fun a hA=>?_
       exact⟨false,hG2,hA.part ⟨rfl,rfl,rfl,rfl,rfl,rfl,rfl,trivial⟩,((hS).PF [0,1,2] rfl).xH [0,1,2,3] rfl⟩
     ·skip
      clear hA hS hG2
      rintro a w ⟨x7,hG2,hA,hS⟩
      unfold lV at hG2
      refine mF hA rfl (fun hc3=>?_) (fun hc3=>?_)
      ·replace hG2:=N7 hc3 hG2
       refine bY<|cR hA ?_
       clear hA
       refine oa rfl rfl<|bQ fun a hA=>BS ?_
       cases hG2
       have ho:=hr2 _ rfl;subst ho
       replace hF:some false=some r:=hF
       cases hF
       exact fy Tryz.results163 hA rfl hS
      ·replace hG2:=N8 hc3 hG2
       refine pZ<|bY<|cR hA ?_
       clear hA
       refine oy (BT (m:=0) Tryz.underlying121 rfl rfl Tryz.sizeOf33 rfl rfl) rfl<|oy (jS rfl rfl Tryz.isAgg33 (hS.cell 2 rfl rfl)) rfl<|oy (p7 (hS.rd 3 rfl) Tryz.underlying33 rfl rfl) rfl<|om rfl rfl<|bQ fun a hA=>?_
       obtain⟨o2,hl3,hG2⟩:=uX hG2
       refine FA (J:=fun a' w'=>∃(x12:List Bool),o2=Out.brk x12∧lS 61 [(1,.pointer (some ⟨b1,0,none⟩)),(3,.pointer (some ⟨b2,0,none⟩)),(24,s4),(25,.int .i64 (((l.cT++l.Global).length:Int))),(26,.int .i64 (x4))] a'∧St (c9 w0) w' [E3 b1 [s1,s2],E3 b2 (List.map (fun q:Bool=>Value.bool q) (x12:List Bool))] [CP [s4] (l.cT++l.Global:List aR),CP [s1] (l.Global:List aR),CP [s2] (l.cT:List aR)]) ?_ ?_
       ·refine mA ?_
        refine LN (body:=lU x6) (r:=o2) (fun sg a' w'=>lS 61 [(1,.pointer (some ⟨b1,0,none⟩)),(3,.pointer (some ⟨b2,0,none⟩)),(24,s4),(25,.int .i64 (((l.cT++l.Global).length:Int))),(26,.int .i64 (x4)),(43,s5),(44,.int .i64 ((x6.aS.length:Int))),(45,.int .i64 (sg.1))] a'∧St (c9 w0) w' [E3 b1 [s1,s2],E3 b2 (List.map (fun q:Bool=>Value.bool q) (sg.2:List Bool))] [CP [s4] (l.cT++l.Global:List aR),CP [s5] (x6.aS:List Int),CP [s1] (l.Global:List aR),CP [s2] (l.cT:List aR)]) ?_ hl3 ⟨hA.part ⟨rfl,rfl,rfl,rfl,rfl,rfl,rfl,rfl,trivial⟩,((hS).PF [0,1] rfl).xH [0,3,1,2] rfl⟩
        clear hA hS hl3
        rintro⟨x10,x11⟩ a w q4 ⟨hA,hS⟩ hG4 hr4
        try dsimp only at hA hS
        unfold lU at hG4
        refine bY<|cR hA ?_
        clear hA
        refine oy (HO rfl rfl rfl) rfl<|bQ fun a hA=>bY<|mF hA rfl (fun hc4=>?_) (fun hc4=>?_)
        ·replace hG4:=N7 hc4 hG4
         refine pZ<|bY<|mA<|bY<|cR hA ?_
         clear hA
         obtain⟨x13,hx13,hG4⟩:=uX hG4
         refine oy (R9 (m:=1) (hS.rd 1 rfl) rfl hx13 Tryz.underlying33 Tryz.sizeOf3 rfl rfl rfl) rfl<|oy (jS rfl rfl Tryz.isAgg3 (aUK (a23 (hS.rd 1 rfl) (kX hx13).2.2))) rfl<|oa rfl rfl<|bQ fun a hA=>bY<|bY<|FA (J:=fun a' w'=>∃(x14:Bool),oA x10 x11 x13 x14=some q4∧lS 61 [(1,.pointer (some ⟨b1,0,none⟩)),(3,.pointer (some ⟨b2,0,none⟩)),(7,.int .i64 (x13)),(24,s4),(25,.int .i64 (((l.cT++l.Global).length:Int))),(26,.int .i64 (x4)),(43,s5),(44,.int .i64 ((x6.aS.length:Int))),(45,.int .i64 (x10)),(56,.bool (x14))] a'∧St (c9 w0) w' [E3 b1 [s1,s2],E3 b2 (List.map (fun q:Bool=>Value.bool q) (x11:List Bool))] [CP [s4] (l.cT++l.Global:List aR),CP [s5] (x6.aS:List Int),CP [s1] (l.Global:List aR),CP [s2] (l.cT:List aR)]) ?_ ?_
         ·skip
          refine cR hA ?_
          clear hA
          refine om rfl rfl ?_
          obtain⟨x16,hx16,hG4⟩:=uX hG4
          refine aAB (LQ Tryz.call247 rfl rfl) (cA rfl) rfl rfl (aH3 (slot:=x13) hx16) ?_
          rintro _ w ⟨rfl,hk⟩
          replace hS:=hS.after hk;clear hk
          refine oy (aDQ rfl rfl) rfl<|om rfl rfl<|JZ (s:=52) rfl (fun hc6=>?_) (fun hc6=>?_)
          ·replace hG4:=N7 hc6 hG4
           refine gC (cM rfl rfl rfl (by rw [hc6];rfl)) rfl rfl ?_
           refine gC (cM rfl rfl rfl (by rw [hc6];rfl)) rfl rfl ?_
           refine gC (cM rfl rfl rfl (by rw [hc6];rfl)) rfl rfl ?_
           refine oy (xG rfl rfl hc6 rfl) rfl<|bQ fun a hA=>?_
           exact⟨true,hG4,hA.part ⟨rfl,rfl,rfl,rfl,rfl,rfl,rfl,rfl,rfl,rfl,trivial⟩,((hS).PF [0,1] rfl).xH [0,1,2,3] rfl⟩
          ·replace hG4:=N8 hc6 hG4
           refine fS (o7 rfl rfl) (cM rfl rfl rfl (by rw [hc6];rfl)) rfl rfl ?_
           obtain⟨hn3,hG4⟩:=kY hG4
           refine fS (aC3 Tryz.underlying223 Tryz.sizeOf4 hn3 rfl rfl rfl) (cM rfl rfl rfl (by rw [hc6];rfl)) rfl rfl ?_
           obtain⟨x17,hx17,hG4⟩:=uX hG4
           refine fS (jS rfl rfl Tryz.isAgg4 (hS.aQ7 1 rfl hx17)) (cM rfl rfl rfl (by rw [hc6];rfl)) rfl rfl ?_
           refine oy (CA rfl rfl hc6 rfl) rfl<|bQ fun a hA=>?_
           exact⟨x17,hG4,hA.part ⟨rfl,rfl,rfl,rfl,rfl,rfl,rfl,rfl,rfl,rfl,trivial⟩,((hS).PF [0,1] rfl).xH [0,1,2,3] rfl⟩
         ·skip
          clear hA hS hG4
          rintro a w ⟨x14,hG4,hA,hS⟩
          unfold oA at hG4
          refine mF hA rfl (fun hc5=>?_) (fun hc5=>?_)
          ·replace hG4:=N7 hc5 hG4
           refine bY<|cR hA ?_
           clear hA
           refine oa rfl rfl<|bQ fun a hA=>BS ?_
           cases hG4
           have ho:=hr4 _ rfl;subst ho
           replace hG2:some (.stop (Out.ret false))=some q2:=hG2
           cases hG2
           have ho:=hr2 _ rfl;subst ho
           replace hF:some false=some r:=hF
           cases hF
           exact fy Tryz.results163 hA rfl hS
          ·replace hG4:=N8 hc5 hG4
           refine pZ<|cR hA ?_
           clear hA
           refine om rfl rfl ?_
           obtain⟨hn2,hG4⟩:=kY hG4
           refine oy (aC3 Tryz.underlying223 Tryz.sizeOf4 hn2 rfl rfl rfl) rfl ?_
           obtain⟨x15,hx15,hG4⟩:=uX hG4
           refine R7 (aU0 (xd:=true) hS (m:=1) rfl hx15 Tryz.sizeOf4 rfl rfl rfl rfl rfl rfl) (cA rfl) rfl ?_
           clear hS
           intro w hS
           refine bQ fun a hA=>cR hA ?_
           clear hA
           refine oy (MQ rfl rfl rfl) rfl<|om rfl rfl<|bQ fun a hA=>?_
           cases hG4
           exact⟨_,rfl,⟨hA.part ⟨rfl,rfl,rfl,rfl,rfl,rfl,rfl,rfl,trivial⟩,((hS).PF [0,1] rfl).xH [0,1,2,3] rfl⟩⟩
        ·replace hG4:=N8 hc4 hG4
         refine LM<|E8 ?_
         cases hG4
         have ho:=hr4 _ rfl;subst ho
         exact⟨x11,rfl,hA.part ⟨rfl,rfl,rfl,rfl,rfl,trivial⟩,((hS).PF [0,1] rfl).xH [0,2,3] rfl⟩
       ·skip
        clear hA hS hl3
        rintro a w ⟨x12,heq,hA,hS⟩
        replace hG2:A4 x4 x12=some q2:=by rw [heq] at hG2;exact hG2
        clear heq
        unfold A4 at hG2
        refine cR hA ?_
        clear hA
        refine oy (MQ rfl rfl rfl) rfl<|om rfl rfl<|bQ fun a hA=>?_
        cases hG2
        exact⟨_,rfl,⟨hA.part ⟨rfl,rfl,rfl,rfl,rfl,trivial⟩,((hS).PF [0,1] rfl).xH [0,1,2] rfl⟩⟩
    ·replace hG2:=N8 hc2 hG2
     refine LM<|E8 ?_
     cases hG2
     have ho:=hr2 _ rfl;subst ho
     exact⟨rfl,hA.part trivial,((hS).PF [] rfl).xH [] rfl⟩
   ·skip
    clear hA hS hl2
    rintro a w ⟨heq,hA,hS⟩
    replace hF:HU=some r:=by rw [heq] at hF;exact hF
    clear heq
    unfold HU at hF
    refine bY<|cR hA ?_
    clear hA
    refine oa rfl rfl<|bQ fun a hA=>BS ?_
    cases hF
    exact fy Tryz.results163 hA rfl hS
theorem aBJ{w0:World}{h:Int}{r:Bool}(hF:iB h=some r) :
    Calls Tryz.prog 206 #[.int .i64 (h)] w0 (Ret fun v w'=>v=.bool (r)∧St (c9 w0) w' [] []):=by
 have hS:St (c9 w0) w0 [] []:=St.enter (by
   intro f hf;cases hf)
 refine CB (args:=[_]) Tryz.func206 rfl Tryz.ntmps206 rfl ?_
 unfold iB at hF
 intro a hA
 refine bY<|cR hA ?_
 clear hA
 refine oa rfl rfl<|bQ fun a hA=>bY<|FA (J:=fun a' w'=>∃(x1:Bool),m4 x1=some r∧lS 10 [(2,.bool (x1))] a'∧St (c9 w0) w' [] []) ?_ ?_
 ·skip
  refine cR hA ?_
  clear hA
  refine om rfl rfl ?_
  obtain⟨x2,hx2,hF⟩:=uX hF
  refine aAB (LQ Tryz.call108 rfl rfl) (cA rfl) rfl rfl (M9 (n:=h) (low:=32) (high:=223) hx2) ?_
  rintro _ w ⟨rfl,hk⟩
  replace hS:=hS.after hk;clear hk
  refine om rfl rfl<|JZ (s:=5) rfl (fun hc1=>?_) (fun hc1=>?_)
  ·replace hF:=N7 hc1 hF
   refine fS (o7 rfl rfl) (cM rfl rfl rfl (by rw [hc1];rfl)) rfl rfl ?_
   refine fS (Y3 rfl rfl rfl (by decide)) (cM rfl rfl rfl (by rw [hc1];rfl)) rfl rfl ?_
   refine fS (HO rfl rfl rfl) (cM rfl rfl rfl (by rw [hc1];rfl)) rfl rfl ?_
   refine oy (xG rfl rfl hc1 rfl) rfl<|oa rfl rfl<|bQ fun a hA=>?_
   exact⟨decide ((Int.tmod h 32) < 24),hF,hA.part ⟨rfl,trivial⟩,((hS).PF [] rfl).xH [] rfl⟩
  ·replace hF:=N8 hc1 hF
   refine gC (cM rfl rfl rfl (by rw [hc1];rfl)) rfl rfl ?_
   refine gC (cM rfl rfl rfl (by rw [hc1];rfl)) rfl rfl ?_
   refine gC (cM rfl rfl rfl (by rw [hc1];rfl)) rfl rfl ?_
   refine oy (CA rfl rfl hc1 rfl) rfl<|oa rfl rfl<|bQ fun a hA=>?_
   exact⟨false,hF,hA.part ⟨rfl,trivial⟩,((hS).PF [] rfl).xH [] rfl⟩
 ·skip
  clear hA hS hF
  rintro a w ⟨x1,hF,hA,hS⟩
  unfold m4 at hF
  refine BS ?_
  cases hF
  exact fy Tryz.results206 hA rfl hS
theorem ZK{w0:World}{l:List bB}{s1:Value}{r:Int}(h1:aL.rd (RV w0) w0 [s1] (l:List bB))(hF:vZ l=some r) :
    Calls Tryz.prog 233 #[s1] w0 (Ret fun v w'=>v=.int .i64 (r)∧St (c9 w0) w' [] []):=by
 have hS:St (c9 w0) w0 [] [CP [s1] (l:List bB)]:=St.enter (by
   intro f hf
   simp only [List.mem_cons,List.not_mem_nil,or_false] at hf
   subst hf;exact h1)
 refine CB (args:=[_]) Tryz.func233 rfl Tryz.ntmps233 rfl ?_
 unfold vZ at hF
 intro a hA
 refine bY<|cR hA ?_
 clear hA
 refine oa rfl rfl<|bQ fun a hA=>bY<|cR hA ?_
 clear hA
 refine oa rfl rfl<|bQ fun a hA=>bY<|bY<|cR hA ?_
 clear hA
 refine om rfl rfl<|oy (p7 (hS.rd 0 rfl) Tryz.underlying44 rfl rfl) rfl<|om rfl rfl<|bQ fun a hA=>?_
 obtain⟨o1,hl1,hF⟩:=uX hF
 refine FA (J:=fun a' w'=>∃(x5:Int),o1=x5∧lS 19 [(3,.int .i64 (x5))] a'∧St (c9 w0) w' [] []) ?_ ?_
 ·refine mA ?_
  refine LN (body:=jU l) (r:=o1) (fun sg a' w'=>lS 19 [(3,.int .i64 (sg.1)),(6,s1),(7,.int .i64 ((l.length:Int))),(8,.int .i64 (sg.2))] a'∧St (c9 w0) w' [] [CP [s1] (l:List bB)]) ?_ hl1 ⟨hA.part ⟨rfl,rfl,rfl,rfl,trivial⟩,((hS).PF [] rfl).xH [0] rfl⟩
  clear hA hS hl1
  rintro⟨x3,x4⟩ a w q1 ⟨hA,hS⟩ hG1 hr1
  try dsimp only at hA hS
  unfold jU at hG1
  refine bY<|cR hA ?_
  clear hA
  refine oy (HO rfl rfl rfl) rfl<|bQ fun a hA=>bY<|mF hA rfl (fun hc1=>?_) (fun hc1=>?_)
  ·replace hG1:=N7 hc1 hG1
   refine pZ<|bY<|mA<|bY<|cR hA ?_
   clear hA
   obtain⟨x6,hx6,hG1⟩:=uX hG1
   refine oy (R9 (m:=1) (hS.rd 0 rfl) rfl hx6 Tryz.underlying44 Tryz.sizeOf106 rfl rfl rfl) rfl ?_
   obtain⟨s2,hel,hS⟩:=hS.aNA 0 rfl (kX hx6).2.2
   refine oy (R8 rfl rfl Tryz.isAgg106 Tryz.sizeOf106 rfl hel) rfl<|MP (N6 (cs:=[(.slice none 0 0)]) hS rfl Tryz.zeroValue106 rfl) (cA rfl) rfl rfl ?_
   clear hS
   rintro _ w ⟨b1,rfl,hS⟩
   refine R7 (V7 (vs:=[s2]) hS (i:=0) rfl rfl rfl rfl rfl Tryz.sizeOf106 rfl rfl (a26 (aDX (hS.rd 1 rfl)) rfl)) (cA rfl) rfl ?_
   clear hS
   intro w hS
   refine bQ fun a hA=>cR hA ?_
   clear hA
   refine om rfl rfl<|oy (BT (m:=0) Tryz.underlying106 rfl rfl Tryz.sizeOf94 rfl rfl) rfl<|oy (jS rfl rfl Tryz.isAgg94 (hS.cell 0 rfl rfl)) rfl<|oy (p7 (hS.rd 1 rfl) Tryz.underlying94 rfl rfl) rfl<|oy (MQ rfl rfl rfl) rfl<|oa rfl rfl<|bQ fun a hA=>cR hA ?_
   clear hA
   refine oy (MQ rfl rfl rfl) rfl<|om rfl rfl<|bQ fun a hA=>?_
   cases hG1
   exact⟨_,rfl,⟨hA.part ⟨rfl,rfl,rfl,rfl,trivial⟩,((hS).PF [] rfl).xH [0] rfl⟩⟩
  ·replace hG1:=N8 hc1 hG1
   refine LM<|E8 ?_
   cases hG1
   have ho:=hr1 _ rfl;subst ho
   exact⟨x3,rfl,hA.part ⟨rfl,trivial⟩,((hS).PF [] rfl).xH [] rfl⟩
 ·skip
  clear hA hS hl1
  rintro a w ⟨x5,heq,hA,hS⟩
  replace hF:C6 x5=some r:=by rw [heq] at hF;exact hF
  clear heq
  unfold C6 at hF
  refine bY<|cR hA ?_
  clear hA
  refine om rfl rfl<|oa rfl rfl<|bQ fun a hA=>BS ?_
  cases hF
  exact fy Tryz.results233 hA rfl hS
theorem aE8{w0:World}{l:List bB}{s1:Value}{r:Bool}(h1:aL.rd (RV w0) w0 [s1] (l:List bB))(hF:mK l=some r) :
    Calls Tryz.prog 146 #[s1] w0 (Ret fun v w'=>v=.bool (r)∧St (c9 w0) w' [] []):=by
 have hS:St (c9 w0) w0 [] [CP [s1] (l:List bB)]:=St.enter (by
   intro f hf
   simp only [List.mem_cons,List.not_mem_nil,or_false] at hf
   subst hf;exact h1)
 refine CB (args:=[_]) Tryz.func146 rfl Tryz.ntmps146 rfl ?_
 unfold mK at hF
 intro a hA
 refine bY<|cR hA ?_
 clear hA
 refine oa rfl rfl<|bQ fun a hA=>bY<|bY<|cR hA ?_
 clear hA
 refine om rfl rfl<|oy (p7 (hS.rd 0 rfl) Tryz.underlying44 rfl rfl) rfl<|oy (aJ6 rfl rfl rfl) rfl<|bQ fun a hA=>mF hA rfl (fun hc1=>?_) (fun hc1=>?_)
 ·replace hF:=N7 hc1 hF
  refine bY<|cR hA ?_
  clear hA
  refine oa rfl rfl<|bQ fun a hA=>BS ?_
  cases hF
  exact fy Tryz.results146 hA rfl hS
 ·replace hF:=N8 hc1 hF
  refine pZ<|bY<|cR hA ?_
  clear hA
  refine oy (Y4 (cells:=#[.bool (false),.bool (false),.bool (false),.bool (false),.bool (false),.bool (false),.bool (false),.bool (false),.bool (false),.bool (false),.bool (false),.bool (false),.bool (false),.bool (false),.bool (false),.bool (false),.bool (false),.bool (false),.bool (false),.bool (false),.bool (false),.bool (false),.bool (false),.bool (false)]) rfl Tryz.zeroValue223 Tryz.underlying223 Tryz.sizeOf4 rfl rfl) rfl<|MP (N6 (cs:=List.map (fun q:Bool=>Value.bool q) [false,false,false,false,false,false,false,false,false,false,false,false,false,false,false,false,false,false,false,false,false,false,false,false]) hS rfl Tryz.zeroValue223 rfl) (cA rfl) rfl rfl ?_
  clear hS
  rintro _ w ⟨b1,rfl,hS⟩
  refine R7 (V7 (vs:=[.bool (false),.bool (false),.bool (false),.bool (false),.bool (false),.bool (false),.bool (false),.bool (false),.bool (false),.bool (false),.bool (false),.bool (false),.bool (false),.bool (false),.bool (false),.bool (false),.bool (false),.bool (false),.bool (false),.bool (false),.bool (false),.bool (false),.bool (false),.bool (false)]) hS (i:=0) rfl rfl rfl rfl rfl Tryz.sizeOf223 rfl rfl rfl) (cA rfl) rfl ?_
  clear hS
  intro w hS
  refine bQ fun a hA=>bY<|bY<|cR hA ?_
  clear hA
  refine om rfl rfl<|oy (p7 (hS.rd 0 rfl) Tryz.underlying44 rfl rfl) rfl<|om rfl rfl<|bQ fun a hA=>?_
  obtain⟨o1,hl1,hF⟩:=uX hF
  refine FA (J:=fun a' w'=>o1=Out.brk ()∧lS 51 [(0,s1)] a'∧St (c9 w0) w' [] [CP [s1] (l:List bB)]) ?_ ?_
  ·refine mA ?_
   refine LN (body:=lY l) (r:=o1) (fun sg a' w'=>lS 51 [(0,s1),(3,.pointer (some ⟨b1,0,none⟩)),(12,s1),(13,.int .i64 ((l.length:Int))),(14,.int .i64 (sg.1))] a'∧St (c9 w0) w' [E3 b1 (List.map (fun q:Bool=>Value.bool q) (sg.2:List Bool))] [CP [s1] (l:List bB)]) ?_ hl1 ⟨hA.part ⟨rfl,rfl,rfl,rfl,rfl,trivial⟩,((hS).PF [0] rfl).xH [0] rfl⟩
   clear hA hS hl1
   rintro⟨x3,x4⟩ a w q1 ⟨hA,hS⟩ hG1 hr1
   try dsimp only at hA hS
   unfold lY at hG1
   refine bY<|cR hA ?_
   clear hA
   refine oy (HO rfl rfl rfl) rfl<|bQ fun a hA=>bY<|mF hA rfl (fun hc2=>?_) (fun hc2=>?_)
   ·replace hG1:=N7 hc2 hG1
    refine pZ<|bY<|mA<|bY<|cR hA ?_
    clear hA
    obtain⟨x6,hx6,hG1⟩:=uX hG1
    refine oy (R9 (m:=1) (hS.rd 0 rfl) rfl hx6 Tryz.underlying44 Tryz.sizeOf106 rfl rfl rfl) rfl ?_
    obtain⟨s2,hel,hS⟩:=hS.aNA 0 rfl (kX hx6).2.2
    refine oy (R8 rfl rfl Tryz.isAgg106 Tryz.sizeOf106 rfl hel) rfl<|MP (N6 (cs:=[(.slice none 0 0)]) hS rfl Tryz.zeroValue106 rfl) (cA rfl) rfl rfl ?_
    clear hS
    rintro _ w ⟨b2,rfl,hS⟩
    refine R7 (V7 (vs:=[s2]) hS (i:=1) rfl rfl rfl rfl rfl Tryz.sizeOf106 rfl rfl (a26 (aDX (hS.rd 1 rfl)) rfl)) (cA rfl) rfl ?_
    clear hS
    intro w hS
    refine bQ fun a hA=>bY<|cR hA ?_
    clear hA
    refine oy (BT (m:=0) Tryz.underlying106 rfl rfl Tryz.sizeOf94 rfl rfl) rfl<|oy (jS rfl rfl Tryz.isAgg94 (hS.cell 1 rfl rfl)) rfl<|oy (p7 (hS.rd 1 rfl) Tryz.underlying94 rfl rfl) rfl<|om rfl rfl<|bQ fun a hA=>?_
    obtain⟨o2,hl2,hG1⟩:=uX hG1
    refine FA (J:=fun a' w'=>∃(x11:List Bool),o2=Out.brk x11∧lS 51 [(0,s1),(3,.pointer (some ⟨b1,0,none⟩)),(12,s1),(13,.int .i64 ((l.length:Int))),(14,.int .i64 (x3))] a'∧St (c9 w0) w' [E3 b1 (List.map (fun q:Bool=>Value.bool q) (x11:List Bool))] [CP [s1] (l:List bB)]) ?_ ?_
    ·refine mA ?_
     refine LN (body:=lX x6) (r:=o2) (fun sg a' w'=>lS 51 [(0,s1),(3,.pointer (some ⟨b1,0,none⟩)),(12,s1),(13,.int .i64 ((l.length:Int))),(14,.int .i64 (x3)),(19,s2),(20,.int .i64 ((x6.Rows.length:Int))),(21,.int .i64 (sg.1))] a'∧St (c9 w0) w' [E3 b1 (List.map (fun q:Bool=>Value.bool q) (sg.2:List Bool))] [CP [s1] (l:List bB),CP [s2] (x6.Rows:List dO)]) ?_ hl2 ⟨hA.part ⟨rfl,rfl,rfl,rfl,rfl,rfl,rfl,rfl,trivial⟩,((hS).PF [0] rfl).xH [0,1] rfl⟩
     clear hA hS hl2
     rintro⟨x9,x10⟩ a w q2 ⟨hA,hS⟩ hG2 hr2
     try dsimp only at hA hS
     unfold lX at hG2
     refine bY<|cR hA ?_
     clear hA
     refine oy (HO rfl rfl rfl) rfl<|bQ fun a hA=>bY<|mF hA rfl (fun hc3=>?_) (fun hc3=>?_)
     ·replace hG2:=N7 hc3 hG2
      refine pZ<|bY<|mA<|bY<|cR hA ?_
      clear hA
      obtain⟨x12,hx12,hG2⟩:=uX hG2
      refine oy (R9 (m:=2) (hS.rd 1 rfl) rfl hx12 Tryz.underlying94 Tryz.sizeOf108 rfl rfl rfl) rfl<|oy (R8 rfl rfl Tryz.isAgg108 Tryz.sizeOf108 rfl (a0J (hS.rd 1 rfl) (kX hx12).2.2)) rfl<|MP (N6 (cs:=[.int .i64 (0),.int .i64 (0)]) hS rfl Tryz.zeroValue108 rfl) (cA rfl) rfl rfl ?_
      clear hS
      rintro _ w ⟨b3,rfl,hS⟩
      refine R7 (V7 (vs:=[.int .i64 (x12.Handle),.int .i64 (x12.aJ)]) hS (i:=1) rfl rfl rfl rfl rfl Tryz.sizeOf108 rfl rfl rfl) (cA rfl) rfl ?_
      clear hS
      intro w hS
      refine bQ fun a hA=>bY<|bY<|FA (J:=fun a' w'=>∃(x13:Bool),j8 x9 x10 x12 x13=some q2∧lS 51 [(0,s1),(3,.pointer (some ⟨b1,0,none⟩)),(7,.pointer (some ⟨b3,0,none⟩)),(12,s1),(13,.int .i64 ((l.length:Int))),(14,.int .i64 (x3)),(19,s2),(20,.int .i64 ((x6.Rows.length:Int))),(21,.int .i64 (x9)),(41,.bool (x13))] a'∧St (c9 w0) w' [E3 b1 (List.map (fun q:Bool=>Value.bool q) (x10:List Bool)),E3 b3 [.int .i64 (x12.Handle),.int .i64 (x12.aJ)]] [CP [s1] (l:List bB),CP [s2] (x6.Rows:List dO)]) ?_ ?_
      ·skip
       refine cR hA ?_
       clear hA
       refine oy (BT (m:=0) Tryz.underlying108 rfl rfl Tryz.sizeOf3 rfl rfl) rfl<|oy (jS rfl rfl Tryz.isAgg3 (hS.cell 1 rfl rfl)) rfl ?_
       obtain⟨x15,hx15,hG2⟩:=uX hG2
       refine aAB (LQ Tryz.call206 rfl rfl) (cA rfl) rfl rfl (aBJ (h:=x12.Handle) hx15) ?_
       rintro _ w ⟨rfl,hk⟩
       replace hS:=hS.after hk;clear hk
       refine oy (aDQ rfl rfl) rfl<|om rfl rfl<|JZ (s:=29) rfl (fun hc5=>?_) (fun hc5=>?_)
       ·replace hG2:=N7 hc5 hG2
        refine gC (cM rfl rfl rfl (by rw [hc5];rfl)) rfl rfl ?_
        refine gC (cM rfl rfl rfl (by rw [hc5];rfl)) rfl rfl ?_
        refine gC (cM rfl rfl rfl (by rw [hc5];rfl)) rfl rfl ?_
        refine gC (cM rfl rfl rfl (by rw [hc5];rfl)) rfl rfl ?_
        refine oy (xG rfl rfl hc5 rfl) rfl<|om rfl rfl<|gC (cM rfl rfl rfl rfl) rfl rfl<|gC (cM rfl rfl rfl rfl) rfl rfl<|gC (cM rfl rfl rfl rfl) rfl rfl<|gC (cM rfl rfl rfl rfl) rfl rfl<|gC (cM rfl rfl rfl rfl) rfl rfl<|oy (xG rfl rfl rfl rfl) rfl<|bQ fun a hA=>?_
        exact⟨true,hG2,hA.part ⟨rfl,rfl,rfl,rfl,rfl,rfl,rfl,rfl,rfl,rfl,trivial⟩,((hS).PF [0,1] rfl).xH [0,1] rfl⟩
       ·replace hG2:=N8 hc5 hG2
        refine fS (BT (m:=0) Tryz.underlying108 rfl rfl Tryz.sizeOf3 rfl rfl) (cM rfl rfl rfl (by rw [hc5];rfl)) rfl rfl ?_
        refine fS (jS rfl rfl Tryz.isAgg3 (hS.cell 1 rfl rfl)) (cM rfl rfl rfl (by rw [hc5];rfl)) rfl rfl ?_
        obtain⟨x16,hx16,hG2⟩:=uX hG2
        refine aAB (LQ Tryz.call108 rfl rfl) (cM rfl rfl rfl (by rw [hc5];rfl)) rfl rfl (M9 (n:=x12.aJ) (low:=0) (high:=100000) hx16) ?_
        rintro _ w ⟨rfl,hk⟩
        replace hS:=hS.after hk;clear hk
        refine fS (aDQ rfl rfl) (cM rfl rfl rfl (by rw [hc5];rfl)) rfl rfl ?_
        refine oy (CA rfl rfl hc5 rfl) rfl<|om rfl rfl<|JZ (s:=35) rfl (fun hc6=>?_) (fun hc6=>?_)
        ·replace hG2:=N7 hc6 hG2
         refine gC (cM rfl rfl rfl (by rw [hc6];rfl)) rfl rfl ?_
         refine gC (cM rfl rfl rfl (by rw [hc6];rfl)) rfl rfl ?_
         refine gC (cM rfl rfl rfl (by rw [hc6];rfl)) rfl rfl ?_
         refine gC (cM rfl rfl rfl (by rw [hc6];rfl)) rfl rfl ?_
         refine gC (cM rfl rfl rfl (by rw [hc6];rfl)) rfl rfl ?_
         refine oy (xG rfl rfl hc6 rfl) rfl<|bQ fun a hA=>?_
         exact⟨true,hG2,hA.part ⟨rfl,rfl,rfl,rfl,rfl,rfl,rfl,rfl,rfl,rfl,trivial⟩,((hS).PF [0,1] rfl).xH [0,1] rfl⟩
        ·replace hG2:=N8 hc6 hG2
         refine fS (BT (m:=0) Tryz.underlying108 rfl rfl Tryz.sizeOf3 rfl rfl) (cM rfl rfl rfl (by rw [hc6];rfl)) rfl rfl ?_
         refine fS (jS rfl rfl Tryz.isAgg3 (hS.cell 1 rfl rfl)) (cM rfl rfl rfl (by rw [hc6];rfl)) rfl rfl ?_
         refine fS (Y3 rfl rfl rfl (by decide)) (cM rfl rfl rfl (by rw [hc6];rfl)) rfl rfl ?_
         obtain⟨hn2,hG2⟩:=kY hG2
         refine fS (aC3 Tryz.underlying223 Tryz.sizeOf4 hn2 rfl rfl rfl) (cM rfl rfl rfl (by rw [hc6];rfl)) rfl rfl ?_
         obtain⟨x17,hx17,hG2⟩:=uX hG2
         refine fS (jS rfl rfl Tryz.isAgg4 (hS.aQ7 0 rfl hx17)) (cM rfl rfl rfl (by rw [hc6];rfl)) rfl rfl ?_
         refine oy (CA rfl rfl hc6 rfl) rfl<|bQ fun a hA=>?_
         exact⟨x17,hG2,hA.part ⟨rfl,rfl,rfl,rfl,rfl,rfl,rfl,rfl,rfl,rfl,trivial⟩,((hS).PF [0,1] rfl).xH [0,1] rfl⟩
      ·skip
       clear hA hS hG2
       rintro a w ⟨x13,hG2,hA,hS⟩
       unfold j8 at hG2
       refine mF hA rfl (fun hc4=>?_) (fun hc4=>?_)
       ·replace hG2:=N7 hc4 hG2
        refine bY<|cR hA ?_
        clear hA
        refine oa rfl rfl<|bQ fun a hA=>BS ?_
        cases hG2
        have ho:=hr2 _ rfl;subst ho
        replace hG1:some (.stop (Out.ret false))=some q1:=hG1
        cases hG1
        have ho:=hr1 _ rfl;subst ho
        replace hF:some false=some r:=hF
        cases hF
        exact fy Tryz.results146 hA rfl hS
       ·replace hG2:=N8 hc4 hG2
        refine pZ<|cR hA ?_
        clear hA
        refine oy (BT (m:=0) Tryz.underlying108 rfl rfl Tryz.sizeOf3 rfl rfl) rfl<|oy (jS rfl rfl Tryz.isAgg3 (hS.cell 1 rfl rfl)) rfl<|oy (Y3 rfl rfl rfl (by decide)) rfl ?_
        obtain⟨hn1,hG2⟩:=kY hG2
        refine oy (aC3 Tryz.underlying223 Tryz.sizeOf4 hn1 rfl rfl rfl) rfl ?_
        obtain⟨x14,hx14,hG2⟩:=uX hG2
        refine R7 (aU0 (xd:=true) hS (m:=0) rfl hx14 Tryz.sizeOf4 rfl rfl rfl rfl rfl rfl) (cA rfl) rfl ?_
        clear hS
        intro w hS
        refine bQ fun a hA=>cR hA ?_
        clear hA
        refine oy (MQ rfl rfl rfl) rfl<|om rfl rfl<|bQ fun a hA=>?_
        cases hG2
        exact⟨_,rfl,⟨hA.part ⟨rfl,rfl,rfl,rfl,rfl,rfl,rfl,rfl,trivial⟩,((hS).PF [0] rfl).xH [0,1] rfl⟩⟩
     ·replace hG2:=N8 hc3 hG2
      refine LM<|E8 ?_
      cases hG2
      have ho:=hr2 _ rfl;subst ho
      exact⟨x10,rfl,hA.part ⟨rfl,rfl,rfl,rfl,rfl,trivial⟩,((hS).PF [0] rfl).xH [0] rfl⟩
    ·skip
     clear hA hS hl2
     rintro a w ⟨x11,heq,hA,hS⟩
     replace hG1:A7 x3 x11=some q1:=by rw [heq] at hG1;exact hG1
     clear heq
     unfold A7 at hG1
     refine cR hA ?_
     clear hA
     refine oy (MQ rfl rfl rfl) rfl<|om rfl rfl<|bQ fun a hA=>?_
     cases hG1
     exact⟨_,rfl,⟨hA.part ⟨rfl,rfl,rfl,rfl,rfl,trivial⟩,((hS).PF [0] rfl).xH [0] rfl⟩⟩
   ·replace hG1:=N8 hc2 hG1
    refine LM<|E8 ?_
    cases hG1
    have ho:=hr1 _ rfl;subst ho
    exact⟨rfl,hA.part ⟨rfl,trivial⟩,((hS).PF [] rfl).xH [0] rfl⟩
  ·skip
   clear hA hS hl1
   rintro a w ⟨heq,hA,hS⟩
   replace hF:A6 l=some r:=by rw [heq] at hF;exact hF
   clear heq
   unfold A6 at hF
   refine bY<|cR hA ?_
   clear hA
   refine om rfl rfl ?_
   obtain⟨x5,hx5,hF⟩:=uX hF
   refine aAB (LQ Tryz.call233 rfl rfl) (cA rfl) rfl rfl (ZK (l:=l) (hS.rd 0 rfl) hx5) ?_
   rintro _ w ⟨rfl,hk⟩
   replace hS:=hS.after hk;clear hk
   refine oy (aO2 rfl rfl rfl) rfl<|oa rfl rfl<|bQ fun a hA=>BS ?_
   cases hF
   exact fy Tryz.results146 hA rfl hS
end Go.Proofs.YtmaknhppafajdaaGreat
end
