import Derived.Test.YtmaknhppafajdaaGreatXNB
set_option linter.unusedVariables false
set_option linter.unusedSimpArgs false
set_option linter.unusedSectionVars false
set_option linter.constructorNameAsVariable false
set_option linter.unnecessarySimpa false
noncomputable section
namespace Go.Gv
theorem a1H{P:Program}{f:FuncId}{κ:Ctx}{xs:List SV}{ρ:Type}{sv:ρ->SV}{r:ρ}(hcall:∀args w,(callFunc f args).run P w=.ok (.enter f args) w)
  (H:(∀f:Fact,f.P κ.S0 κ.w0->f.P (PL κ.w0) κ.w0)->∀vs,bB (gI []) xs=some vs->Calls P f vs.toArray κ.w0 (Ret fun v w'=>gI [] (sv r)=some v/\St (dA κ.w0) w' [] [])):Fn0 P f κ xs sv r:=
 ⟨hcall,fun vs hv hS=>Calls.mono (H (fun f hf=>f.mono hf fun b o hb=>hS.s0 b o hb) vs hv) fun en w' ⟨v,h1,h2,h3⟩=>⟨v,h1,(),h2,hS.aSD h3.iN⟩⟩
noncomputable section
variable {P:Program} {T:TT} {hT:HA P T} {n:Nat} {c:Ctx} {B0:Bl} {N:Act->World->Prop} {X:Nat->Act->World->Prop} {Q:Act->World->Prop} {K K':List Fr} {m m':Nat} {e e':SE} {L L' Lv:List Ch} {cf cf' cf1 cf2:xT} {o:Oper} {d:Nat}
theorem un{α:Type}[aM α](j:Nat)(ks:List Nat)(ps qs:List (Nat×Nat)){s:AC}{n0:Nat}{l:List α}(hj:L[j]?=some (.o (gN [s.v n0] l)))(hz:gZ j cf.BK=true)(hk:bB (DW e) ks=some (ks.map fun _=>.h s n0))(hp:bB (atE (ovh (.h s l.length) e ks)) ps=some (ps.map fun _=>.h s n0))(hq:bB (atL (L.set j (ow s l))) qs=some (qs.map fun _=>.h s n0))(ha:(dU (qs.map (·.1)) && (qs.map (·.1)).all fun j=>gZ j cf.BK)=true)
  (k:l.length=n0->G (.mk P T hT n c B0 N X Q) K m (rhE (.h s l.length) (ovh (.h s l.length) e ks) ps) (rhL (.h s l.length) (L.set j (ow s l)) qs) cf):G (.mk P T hT n c B0 N X Q) K m e L cf:=by
 rw [Bool.and_eq_true] at ha
 refine chg (fun _:PLift (l.length=n0)=>m) (fun _=>rhE (.h s l.length) (ovh (.h s l.length) e ks) ps) (fun _=>rhL (.h s l.length) (L.set j (ow s l)) qs) (fun B a w hm hA hS=>?_) (fun _=>U1 (IT hz) ha.2) (fun h=>k h.down)
 have hn:l.length=n0:=by
  obtain⟨⟨R,s1,s2⟩,s0⟩:=hS
  obtain⟨F,hF⟩:=s1.chunk (ch:=gN [s.v n0] l) j (by simp [hj,kO])
  obtain⟨ad,cp,h1,h2⟩:=II (show aM.own w [s.v n0] l F from hF)
  simp only [AC.v,Value.slice.injEq] at h1
  exact h1.2.1.symm
 subst hn
 have hS':mZ c w B (L.set j (ow s l)):=by
  have:L.set j (ow s l)=L:=by
   obtain⟨hl,he⟩:=List.getElem?_eq_some_iff.1 hj
   show L.set j (.o (gN [s.v l.length] l))=L
   rw [<-he];exact List.set_getElem_self hl
  rw [this];exact hS
 obtain⟨h1,h2⟩:=aNY s rfl hp hq ha.1 (aHT ks hk hA) hS'
 exact⟨⟨rfl⟩,[],by simpa using hm,by simpa using h1,by simpa using h2⟩
theorem rr(s:AC){n0 n1:Nat}(hn:n0=n1)(ks:List Nat)(ps qs:List (Nat×Nat))(hk:bB (DW e) ks=some (ks.map fun _=>.h s n0))(hp:bB (atE (ovh (.h s n1) e ks)) ps=some (ps.map fun _=>.h s n0))(hq:bB (atL L) qs=some (qs.map fun _=>.h s n0))(ha:(dU (qs.map (·.1)) && (qs.map (·.1)).all fun j=>gZ j cf.BK)=true)
  (k:G (.mk P T hT n c B0 N X Q) K m (rhE (.h s n1) (ovh (.h s n1) e ks) ps) (rhL (.h s n1) L qs) cf):G (.mk P T hT n c B0 N X Q) K m e L cf:=by
 rw [Bool.and_eq_true] at ha
 subst hn
 refine chg (fun _:Unit=>m) (fun _=>rhE (.h s n0) (ovh (.h s n0) e ks) ps) (fun _=>rhL (.h s n0) L qs) (fun B a w hm hA hS=>?_) (fun _=>U1 (by simpa using zP (L:=L) []) ha.2) (fun _=>k)
 obtain⟨h1,h2⟩:=aNY s rfl hp hq ha.1 (aHT ks hk hA) hS
 exact⟨(),[],by simpa using hm,by simpa using h1,by simpa using h2⟩
theorem cpy{d:Option Nat}{x y:Operand}{t t2 el sz:Nat}{α:Type}[aM α][Flat α]{s s2:AC}{l xs:List α}{b1 b2:Bool}{n1:Nat}{z1 z2:List SV}{kt:TK}(p a:Nat)(hb:a<=l.length/\l.length<=l.length)(hsrc:∀{w},HS c w L'->bL (dA w) s2 xs)(hs:kZ T n K cf m e L=.op o Lv cf1 cf2 K' m' e' L')(ho:(o.op,o.dst)=(.call {callee:=.builtin .copy,args:=#[x,y],argTypes:=#[t,t2]},d))(ht:BH T t=some ⟨.sl el,b1,n1,z1⟩)(he:BH T el=some ⟨kt,b2,sz,z2⟩)(hn:aM.n α=sz)(hp:(L'[p]?,gZ p cf1.BK)=(some (ow s l),true))(hx:jF e' x=some (.h (s.sub sz a) ((l.take l.length).drop a).length))(hy:jF e' y=some (.h s2 xs.length))
  (k:G (.mk P T hT n c B0 N X Q) K' m' (dse d (.i .i64 ((min xs.length (l.length - a):Nat):Int)) e') (L'.set p (ow s (dI l a xs))) cf2):G (.mk P T hT n c B0 N X Q) K m e L cf:=by
 have hp1:L'[p]?=some (ow s l):=congrArg Prod.fst hp
 have hz:gZ p cf1.BK=true:=congrArg Prod.snd hp
 have hlen:(dI l a xs).length=l.length:=eW hb.1
 refine g7 (g:=.mk P T hT n c B0 N X Q) ?_
 rw [hs]
 intro hdn _ hE
 refine hE Unit (fun _=>m') (fun _=>dse d (.i .i64 ((min xs.length (l.length - a):Nat):Int)) e') (fun _=>L'.set p (ow s (dI l a xs))) (fun _=>IT hz) (fun B act w next Q' hm hA hS hnext=>?_) (fun _=>k)
 have hr:bL (dA w) s2 xs:=hsrc ⟨_,hS⟩
 obtain⟨⟨R,s1,s2'⟩,s0⟩:=hS
 have hx2:ev (vE (UO (.mk P T hT n c B0 N X Q) cf1++B) e') x=some (iD sz a l.length (s.v l.length)):=by rw [hdB hA hx,MH hb.1 hb.2]
 have hop:o.op=.call {callee:=.builtin .copy,args:=#[x,y],argTypes:=#[t,t2]}:=congrArg Prod.fst ho
 have hd:o.dst=d:=congrArg Prod.snd ho
 obtain⟨v,w',k1,rfl,k2⟩:=aM5 p s1 (by rw [List.getElem?_map,hp1];rfl) hr hn hb.1 (HC ht hT) (hT.size _ _ he) hop hx2 (hdB hA hy)
 unfold Oper.wp
 rw [k1 _ act hA.env,Oper.upon_value,hd]
 have hS2:mZ c w' (UO (.mk P T hT n c B0 N X Q) cf1++B) (L'.set p (ow s (dI l a xs))):=by
  refine⟨⟨R,?_,fun z hz=>?_⟩,s0⟩
  ·rw [List.map_set]
   show St c w' ((L'.map _).set p (gN [s.v (dI l a xs).length] _)) R
   rw [hlen];exact k2
  ·rcases List.mem_or_eq_of_mem_set hz with hz | hz
   ·exact s2' z hz
   ·subst hz;trivial
 cases d with
 | none=>exact hnext () _ _ ⟨[],by simpa using hm,by simpa [Act.put,dse] using hA,by simpa using hS2⟩
 | some d=>exact hnext () _ _ ⟨[],by simpa using hm,by simpa [dse] using hA.of (by simp [gI,gV,bX]) (hA.env.put (by rw [hd] at hdn;simpa [sB,Nat.blt_eq] using hdn) _),by simpa using hS2⟩
theorem cp0{d:Option Nat}{x y:Operand}{t t2 el sz:Nat}{α:Type}[aM α][Flat α]{s s2:AC}{l xs:List α}{b1 b2:Bool}{n1:Nat}{z1 z2:List SV}{kt:TK}(p:Nat)(hsrc:∀{w},HS c w L'->bL (dA w) s2 xs)(hs:kZ T n K cf m e L=.op o Lv cf1 cf2 K' m' e' L')(ho:(o.op,o.dst)=(.call {callee:=.builtin .copy,args:=#[x,y],argTypes:=#[t,t2]},d))(ht:BH T t=some ⟨.sl el,b1,n1,z1⟩)(he:BH T el=some ⟨kt,b2,sz,z2⟩)(hn:aM.n α=sz)(hp:(L'[p]?,gZ p cf1.BK)=(some (ow s l),true))(hx:jF e' x=some (.h s l.length))(hy:jF e' y=some (.h s2 xs.length))
  (k:G (.mk P T hT n c B0 N X Q) K' m' (dse d (.i .i64 ((min xs.length (l.length - 0):Nat):Int)) e') (L'.set p (ow s (dI l 0 xs))) cf2):G (.mk P T hT n c B0 N X Q) K m e L cf:=by
 have hp1:L'[p]?=some (ow s l):=congrArg Prod.fst hp
 have hz:gZ p cf1.BK=true:=congrArg Prod.snd hp
 have hlen:(dI l 0 xs).length=l.length:=eW (Nat.zero_le _)
 refine g7 (g:=.mk P T hT n c B0 N X Q) ?_
 rw [hs]
 intro hdn _ hE
 refine hE Unit (fun _=>m') (fun _=>dse d (.i .i64 ((min xs.length (l.length - 0):Nat):Int)) e') (fun _=>L'.set p (ow s (dI l 0 xs))) (fun _=>IT hz) (fun B act w next Q' hm hA hS hnext=>?_) (fun _=>k)
 have hr:bL (dA w) s2 xs:=hsrc ⟨_,hS⟩
 obtain⟨⟨R,s1,s2'⟩,s0⟩:=hS
 have hop:o.op=.call {callee:=.builtin .copy,args:=#[x,y],argTypes:=#[t,t2]}:=congrArg Prod.fst ho
 have hd:o.dst=d:=congrArg Prod.snd ho
 obtain⟨v,w',k1,rfl,k2⟩:=aRG p s1 (by rw [List.getElem?_map,hp1];rfl) hr hn (HC ht hT) (hT.size _ _ he) hop (hdB hA hx) (hdB hA hy)
 unfold Oper.wp
 rw [k1 _ act hA.env,Oper.upon_value,hd]
 have hS2:mZ c w' (UO (.mk P T hT n c B0 N X Q) cf1++B) (L'.set p (ow s (dI l 0 xs))):=by
  refine⟨⟨R,?_,fun z hz=>?_⟩,s0⟩
  ·rw [List.map_set]
   show St c w' ((L'.map _).set p (gN [s.v (dI l 0 xs).length] _)) R
   rw [hlen];exact k2
  ·rcases List.mem_or_eq_of_mem_set hz with hz | hz
   ·exact s2' z hz
   ·subst hz;trivial
 cases d with
 | none=>exact hnext () _ _ ⟨[],by simpa using hm,by simpa [Act.put,dse] using hA,by simpa using hS2⟩
 | some d=>exact hnext () _ _ ⟨[],by simpa using hm,by simpa [dse] using hA.of (by simp [gI,gV,bX]) (hA.env.put (by rw [hd] at hdn;simpa [sB,Nat.blt_eq] using hdn) _),by simpa using hS2⟩
theorem fR{Z:Act->World->Prop}{e1:SE}{L1:List Ch}(h1:aRN e=some e1)(h2:aRO L=some L1)(kk:∀a w,qW n c B0 m e1 L1 a w->Z a w):∀a w,qW n c B0 m e L a w->Z a w:=by
 have:=aHO h1
 have:=aHP h2
 subst e1;subst L1
 exact kk
end
end Go.Gv
end
noncomputable section
namespace Go.Gv
noncomputable section
variable {B B':Bl} {i j:Nat}
end
noncomputable section
variable {n:Nat} {c:Ctx} {B0:Bl} {m:Nat} {e:SE} {L:List Ch}
theorem pnR{Z:Act->World->Prop}{α:Type}[aM α](j:Nat){s:AC}{l:List α}{n0:Nat}(hl:l.length=n0)(hj:L[j]?=some (ow s l))
  (kk:∀a w,qW n c B0 m e (L.set j (.o (gN [s.v n0] l))) a w->Z a w):∀a w,qW n c B0 m e L a w->Z a w:=by
 subst hl
 have:L.set j (.o (gN [s.v l.length] l))=L:=by
  obtain⟨h1,h2⟩:=List.getElem?_eq_some_iff.1 hj
  rw [<-show L[j]=.o (gN [s.v l.length] l) from h2];exact List.set_getElem_self h1
 rw [this] at kk
 exact kk
end
end Go.Gv
end
noncomputable section
namespace Go.Gv
universe u
theorem Q{α:Sort u}{a:α}:a=a:=Eq.refl a
def W{ρ:Type}(C:Prop)(r:ρ)(F:Option ρ):Prop:=F=some r->C
theorem wm{ρ:Type}{C:Prop}{r:ρ}{F F':Option ρ}(h:F'=F)(k:W C r F):W C r F':=h ▸ k
theorem wi{ρ:Type}{C:Prop}{r:ρ}{F:Option ρ}(h:F=some r)(k:W C r F):C:=k h
def VS(P:Program)(c:Ctx)(f:FuncId){ρ ex:Type}(F:Option ρ)(xs:List SV)(B0:Bl)(L0:List Ch)(sv:ρ->ex->SV)(Lf:ρ->ex->List Ch):Prop:=∀r,F=some r->FnS P f c xs B0 L0 sv Lf r
abbrev V0(P:Program)(c:Ctx)(f:FuncId){ρ:Type}(F:Option ρ)(xs:List SV)(sv:ρ->SV):Prop:=VS P c f F xs [] [] (fun r (_:Unit)=>sv r) (fun _ _=>[])
theorem VS.r{P:Program}{c:Ctx}{f:FuncId}{ρ ex:Type}{F:Option ρ}{xs:List SV}{B0:Bl}{L0:List Ch}{sv:ρ->ex->SV}{Lf:ρ->ex->List Ch}(h:VS P c f F xs B0 L0 sv Lf){r:ρ}(hF:F=some r):FnS P f c xs B0 L0 sv Lf r:=h r hF
def QR(P:Program)(fn:Func){rs:List ResultVar}(_:fn.results=rs.toArray)(c:Ctx)(B0:Bl){ρ ex:Type}(sv:ρ->ex->SV)(Lf:ρ->ex->List Ch)(r:ρ):Act->World->Prop:=QS P fn c B0 sv Lf r
def aSZ(T:TT)(rs:List ResultVar)(is:List Nat)(b0:Nat)(L2:List Ch):Stop->Option (SV×List Ch)
 | .ret m e L => match aHE T e L rs with
  | some x => match G6 b0 (nbS x) with
   | true => match SN b0 m e L is b0 [] L2 with
    | some ([],L3)=>some (nbS x,L3)
    | _=>none
   | false=>none
  | none=>none
 | _=>none
def aO4(is:List Nat)(b0 mj:Nat)(ej:SE)(Lj:List Ch):Stop->Option (SE×List Ch)
 | .fin m e L=>SN b0 m e L is mj ej Lj
 | _=>none
def exQ(is:List Nat)(id b0 mj:Nat)(ej:SE)(Lj:List Ch):Stop->Option (SE×List Ch)
 | .ex i m e L => match Nat.beq i id with
  | true=>SN b0 m e L is mj ej Lj
  | false=>none
 | _=>none
def a1J:Stop->Stop
 | .fin m e L=>.ret m e L
 | _=>.stuck
def ixT(T:TT)(t n:Nat):Bool:=match BH T t with
 | some ⟨.sl el, _, _, _⟩ => match BH T el with
  | some ⟨_,_,sz,_⟩=>Nat.beq n sz
  | none=>false
 | _=>false
noncomputable section
variable {P:Program} {T:TT} {hT:HA P T} {n:Nat} {c:Ctx} {B0:Bl} {N:Act->World->Prop} {X:Nat->Act->World->Prop} {Q:Act->World->Prop} {K K':List Fr} {m m':Nat} {e e':SE} {L L' Lv:List Ch} {cf cf' cf1 cf2:xT} {o:Oper}
theorem dQ(hT:HA P T){f:FuncId}{fn:Func}{cd:Code}{xs:List SV}{L0:List Ch}{ρ ex:Type}{sv:ρ->ex->SV}{Lf:ρ->ex->List Ch}{F:Option ρ}{rs:List ResultVar}(hc:∀args w,(callFunc f args).run P w=.ok (.enter f args) w)(hf:P.funcs[f]?=some fn)(hr:fn.results=rs.toArray)(hb:fn.body=some cd)(hm:fn.ntmps=n)
  (k:∀{r},W (G (.mk P T hT n c B0 (QR P fn hr c B0 sv Lf r) (fun _ _ _=>False) (QR P fn hr c B0 sv Lf r)) [] B0.length (aGK 0 xs) L0 (.c cd)) r F) (hl:Nat.ble xs.length n=true:=by exact rfl):VS P c f F xs B0 L0 sv Lf:=
 fun _ hF=>en n hc hf hT hb hm hl (k hF)
theorem aN0{rs:List ResultVar}{is:List Nat}{b0:Nat}{L2 L3:List Ch}{s:SV}{st:Stop}(h:aSZ T rs is b0 L2 st=some (s,L3)):∃m' e' L' x,st=.ret m' e' L'/\aHE T e' L' rs=some x/\nbS x=s/\G6 b0 s=true/\SN b0 m' e' L' is b0 [] L2=some ([],L3):=by
 unfold aSZ at h
 split at h
 ·split at h
  ·rename_i h1
   split at h
   ·rename_i h2
    split at h
    ·rename_i h3
     cases h
     exact⟨_,_,_,_,rfl,h1,rfl,h2,h3⟩
    ·cases h
   ·cases h
  ·cases h
 ·cases h
theorem nA{fn:Func}{ρ ex:Type}{sv:ρ->ex->SV}{Lf:ρ->ex->List Ch}{r r':ρ}{rs:List ResultVar}{hr:fn.results=rs.toArray}{zz:Option ρ}(y:ex)(is:List Nat)(hz:zz=some r')(h:aSZ T rs is B0.length (Lf r' y) (kZ T n K cf m e L)=some (sv r' y,Lf r' y)):W (G (.mk P T hT n c B0 N X (QR P fn hr c B0 sv Lf r)) K m e L cf) r zz:=fun hF=>by
 obtain⟨_,_,_,_,h1,h2,h3,h4,h5⟩:=aN0 h
 exact rt y is hF hz h1 hr h2 h3 h4 h5
theorem dL{fn:Func}{ρ:Type}{sv:ρ->Unit->SV}{Lf:ρ->Unit->List Ch}{r r':ρ}{rs:List ResultVar}{hr:fn.results=rs.toArray}{zz:Option ρ}(hz:zz=some r')(h:aSZ T rs [] B0.length (Lf r' ()) (kZ T n K cf m e L)=some (sv r' (),Lf r' ())):W (G (.mk P T hT n c B0 N X (QR P fn hr c B0 sv Lf r)) K m e L cf) r zz:=nA () [] hz h
theorem L4{fn:Func}{ρ ex:Type}{sv:ρ->ex->SV}{Lf:ρ->ex->List Ch}{r r':ρ}{rs:List ResultVar}{hr:fn.results=rs.toArray}{zz:Option ρ}(y:ex)(is:List Nat)(hz:zz=some r')(h:aSZ T rs is B0.length (Lf r' y) (a1J (kZ T n K cf m e L))=some (sv r' y,Lf r' y)):W (G (.mk P T hT n c B0 (QR P fn hr c B0 sv Lf r) X Q) K m e L cf) r zz:=fun hF=>by
 obtain⟨m',e',L',_,h1,h2,h3,h4,h5⟩:=aN0 h
 refine rf y is hF hz (m':=m') (e':=e') (L':=L') ?_ hr h2 h3 h4 h5
 unfold a1J at h1
 split at h1
 ·rename_i h0;rw [h0];cases h1;rfl
 ·cases h1
theorem aN1{is:List Nat}{b0 mj:Nat}{ej e3:SE}{Lj L3:List Ch}{st:Stop}(h:aO4 is b0 mj ej Lj st=some (e3,L3)):∃m' e' L',st=.fin m' e' L'/\SN b0 m' e' L' is mj ej Lj=some (e3,L3):=by
 unfold aO4 at h
 split at h
 ·exact⟨_,_,_,rfl,h⟩
 ·cases h
theorem tP{π υ α:Type}{eq:π->Prop}{mj:Nat}{ej:π->υ->SE}{Lj:π->υ->List Ch}{p:π}{q:α}{zz:Option α}(u:υ)(is:List Nat)(hz:(zz=some q)=eq p)(h:aO4 is B0.length mj (ej p u) (Lj p u) (kZ T n K cf m e L)=some (ej p u,Lj p u)):W (G (.mk P T hT n c B0 (JP n c B0 eq mj ej Lj) X Q) K m e L cf) q zz:=fun hF=>by
 obtain⟨_,_,_,h1,h2⟩:=aN1 h
 exact jn u is (hz ▸ hF) h1 h2
theorem cR{π α:Type}{eq:π->Prop}{mj:Nat}{ej:π->Unit->SE}{Lj:π->Unit->List Ch}{p:π}{q:α}{zz:Option α}(is:List Nat)(hz:(zz=some q)=eq p)(h:aO4 is B0.length mj (ej p ()) (Lj p ()) (kZ T n K cf m e L)=some (ej p (),Lj p ())):W (G (.mk P T hT n c B0 (JP n c B0 eq mj ej Lj) X Q) K m e L cf) q zz:=tP () is hz h
theorem nxW{σ ρ υ:Type}{o:Step σ ρ}{mj:Nat}{el:σ->υ->SE}{Ll:σ->υ->List Ch}{s:σ}(u:υ)(is:List Nat)(h:aO4 is B0.length mj (el s u) (Ll s u) (kZ T n K cf m e L)=some (el s u,Ll s u)):W (G (.mk P T hT n c B0 (NxP n c B0 o mj el Ll) X Q) K m e L cf) o (some (Step.next s)):=fun hF=>by
 obtain⟨_,_,_,h1,h2⟩:=aN1 h
 exact nx u is hF h1 h2
theorem JX{σ ρ:Type}{o:Step σ ρ}{mj:Nat}{el:σ->Unit->SE}{Ll:σ->Unit->List Ch}{s:σ}(is:List Nat)(h:aO4 is B0.length mj (el s ()) (Ll s ()) (kZ T n K cf m e L)=some (el s (),Ll s ())):W (G (.mk P T hT n c B0 (NxP n c B0 o mj el Ll) X Q) K m e L cf) o (some (Step.next s)):=nxW () is h
def BkR(n:Nat)(c:Ctx)(B0:Bl){β ρ σ υ:Type}{o:Step σ ρ}{ro:ρ}(_:∀p,o=.stop p->p=ro)(enc:β->ρ)(m:Nat)(ej:β->υ->SE)(Lj:β->υ->List Ch)(id:Nat)(X:Nat->Act->World->Prop):Nat->Act->World->Prop:=BkP n c B0 ro enc m ej Lj id X
theorem bkW{σ ρ β υ:Type}{o:Step σ ρ}{ro:ρ}{enc:β->ρ}{mj id:Nat}{ej:β->υ->SE}{Lj:β->υ->List Ch}{b:β}{hr:∀p,o=.stop p->p=ro}(u:υ)(is:List Nat)(h:exQ is id B0.length mj (ej b u) (Lj b u) (kZ T n K cf m e L)=some (ej b u,Lj b u)):W (G (.mk P T hT n c B0 N (BkR n c B0 hr enc mj ej Lj id X) Q) K m e L cf) o (some (Step.stop (enc b))):=fun hF=>by
 unfold exQ at h
 split at h
 ·rename_i h0
  split at h
  ·rename_i hb
   rw [Nat.eq_of_beq_eq_true hb] at h0
   exact bk u is hF hr h0 h
  ·cases h
 ·cases h
theorem GJ{σ ρ β:Type}{o:Step σ ρ}{ro:ρ}{enc:β->ρ}{mj id:Nat}{ej:β->Unit->SE}{Lj:β->Unit->List Ch}{b:β}{hr:∀p,o=.stop p->p=ro}(is:List Nat)(h:exQ is id B0.length mj (ej b ()) (Lj b ()) (kZ T n K cf m e L)=some (ej b (),Lj b ())):W (G (.mk P T hT n c B0 N (BkR n c B0 hr enc mj ej Lj id X) Q) K m e L cf) o (some (Step.stop (enc b))):=bkW () is h
theorem L5{σ ρ α:Type}{o:Step σ ρ}{p ro:ρ}{F:ρ->Option α}{q:α}{C:Prop}(hr:∀p,o=.stop p->p=ro)(hF:F ro=some q)(k:W C q (F p)):W C o (some (Step.stop p)):=fun h=>k (re h rfl hr hF)
noncomputable section
variable {b:Bool} {α:Type} {A B':Option α} {q:α}
theorem cA{o:Operand}{x y:Code}(ss:List Nat)(hs:kZ T n K cf m e L=.cond o b x y K' m' e' L')(ho:bB (DW e') ss=some (ss.map fun _=>SV.b b))
  (k1:W (G (.mk P T hT n c B0 N X Q) K' m' (ovr true e' ss) L' (.c x)) q A) (k2:W (G (.mk P T hT n c B0 N X Q) K' m' (ovr false e' ss) L' (.c y)) q B'):W (G (.mk P T hT n c B0 N X Q) K m e L cf) q (if b=true then A else B'):=fun hF=>cs ss hs ho hF k1 k2
theorem aJW{o:Operand}{x y:Code}(ss:List Nat)(hs:kZ T n K cf m e L=.cond o b x y K' m' e' L')(ho:bB (DW e') ss=some (ss.map fun _=>SV.b b))
  (k1:b=true->W (G (.mk P T hT n c B0 N X Q) K' m' (ovr true e' ss) L' (.c x)) q A) (k2:b=false->W (G (.mk P T hT n c B0 N X Q) K' m' (ovr false e' ss) L' (.c y)) q B'):W (G (.mk P T hT n c B0 N X Q) K m e L cf) q (if b=true then A else B'):=fun hF=>csK ss hs ho hF k1 k2
theorem fX(ss:List Nat)(hs:kZ T n K cf m e L=.case b cf' K' m' e' L')(ho:bB (DW e') ss=some (ss.map fun _=>SV.b b))
  (k1:W (G (.mk P T hT n c B0 N X Q) K' m' (ovr true e' ss) L' cf') q A) (k2:W (G (.mk P T hT n c B0 N X Q) K' m' (ovr false e' ss) L' cf') q B'):W (G (.mk P T hT n c B0 N X Q) K m e L cf) q (if b=true then A else B'):=fun hF=>ca ss hs ho hF k1 k2
theorem aJX(ss:List Nat)(hs:kZ T n K cf m e L=.case b cf' K' m' e' L')(ho:bB (DW e') ss=some (ss.map fun _=>SV.b b))
  (k1:b=true->W (G (.mk P T hT n c B0 N X Q) K' m' (ovr true e' ss) L' cf') q A) (k2:b=false->W (G (.mk P T hT n c B0 N X Q) K' m' (ovr false e' ss) L' cf') q B'):W (G (.mk P T hT n c B0 N X Q) K m e L cf) q (if b=true then A else B'):=fun hF=>caK ss hs ho hF k1 k2
end
noncomputable section
variable {α β:Type} {fo:Option α} {kf:α->Option β} {q:β} {d:Nat} {f:FuncId} {xs:List SV}
theorem c0{sv:α->SV}(hs:kZ T n K cf m e L=.call o (some d) f xs cf1 cf2 K' m' e' L')
  (hc:∀{w},HS c w L'->V0 P (dA w) f fo xs sv) (k:∀x,W (G (.mk P T hT n c B0 N X Q) K' m' ((d,sv x) :: e') L' cf2) q (kf x)):W (G (.mk P T hT n c B0 N X Q) K m e L cf) q (fo.bind kf):=fun hF=>cl0 hs (fun h _ hx=>hc h _ hx) hF fun x _ h=>k x h
theorem c1{ex:Type}{sv:α->ex->SV}{Lf:α->ex->List Ch}(hs:kZ T n K cf m e L=.call o (some d) f xs cf1 cf2 K' m' e' L')
  (hc:∀{w},HS c w L'->VS P (dA w) f fo xs [] [] sv Lf) (k:∀x,∀y:ex,W (G (.mk P T hT n c B0 N X Q) K' m' ((d,sv x y) :: e') (L'++Lf x y) cf2) q (kf x)) (hn:∀x y,noF (Lf x y)=true:=by exact fun _ _=>rfl):W (G (.mk P T hT n c B0 N X Q) K m e L cf) q (fo.bind kf):=fun hF=>cl hs hn (fun h _ hx=>hc h _ hx) hF fun x _ h y=>k x y h
theorem PX{β:Type}{kf:α->Option β}{q:β}{iR:aM α}(C:K1 α){d t:Nat}{s:AC}{i:Int}{ls:List α}(hs:kZ T n K cf m e L=.idx o d t s ls.length i Lv cf1 cf2 K' m' e' L')(h1:bL c s ls)(ht:ixT T t (aM.n α)=true)
  (k:∀x,∀y:C.ex,C.sub c.S0 c.w0 x y->W (G (.mk P T hT n c B0 N X Q) K' (m'+1) ((d,.p m' 0) :: e') (L' ++ [.ro m' (C.cs x y)]) (cf2.ext [.ro m' (C.cs x y)])) q (kf x)):W (G (.mk P T hT n c B0 N X Q) K m e L cf) q ((idx ls i).bind kf):=fun hF=>by
 unfold ixT at ht
 split at ht
 ·rename_i h2
  split at ht
  ·rename_i h3
   exact ix C hs h1 hF h2 h3 (Nat.eq_of_beq_eq_true ht) fun x _ h y hy=>k x y hy h
  ·cases ht
 ·cases ht
theorem P6{β:Type}{kf:Int->Option β}{q:β}{d t:Nat}{s:AC}{i:Int}{ls:List Int}(hs:kZ T n K cf m e L=.idx o d t s ls.length i Lv cf1 cf2 K' m' e' L')(h1:bL c s ls)(ht:ixT T t 1=true)
  (k:∀x,W (G (.mk P T hT n c B0 N X Q) K' (m'+1) ((d,.p m' 0) :: e') (L' ++ [.ro m' [.i .i64 x]]) (cf2.ext [.ro m' [.i .i64 x]])) q (kf x)):W (G (.mk P T hT n c B0 N X Q) K m e L cf) q ((idx ls i).bind kf):=PX cI hs h1 ht fun x _ _=>k x
theorem qV(hm:P.follows .mixedOrders=true){id:Nat}{ops:Array Oper}{zz:Option β}(is:List Nat)(hs:kZ T n K cf m e L=.rgn id ops K' m' e' L')
  (k:∀{B1},W (G (.mk P T hT n c B0 N X Q) K' m' e' L' (.d B1 ops (List.replicate ops.size false) is (kl L' is) (kl L' is))) q zz) (hf:(aJD ops && (okL m' (kl L' is) && (dU is && is.all fun j=>Nat.blt j L'.length)))=true:=by kernel_rfl):W (G (.mk P T hT n c B0 N X Q) K m e L cf) q zz:=fun hF=>dr is hs hm hf fun _=>k hF
theorem kP{π υ:Type}{zz:Option β}(j mj:Nat)(Fj:π->Option β)(ks:List Nat)(ej:π->υ->SE)(is:List Nat)(Lj:π->υ->List Ch)(hs:TZ (kZ T n K cf m e L)=some (K',cf',m',e',L'))
  (k1:W (G (.mk P T hT n c B0 (JP n c B0 (fun p=>Fj p=some q) mj (fun p u=>ej p u++kp e' ks) (fun p u=>Lj p u++kl L' is)) (XK (.mk P T hT n c B0 N X Q) (K'.drop j)) Q) (K'.take j) m' e' L' cf') q zz)
  (k2:∀p u,W (G (.mk P T hT n c B0 N X Q) (K'.drop j) mj (ej p u++kp e' ks) (Lj p u++kl L' is) .n) q (Fj p)):W (G (.mk P T hT n c B0 N X Q) K m e L cf) q zz:=fun hF=>cut j mj (fun p=>Fj p=some q) ks ej is Lj hs (k1 hF) fun p u h=>k2 p u h
theorem dY{zz:Option β}(j mj:Nat)(Fj:Bool->Option β)(ks:List Nat)(v:Nat)(is:List Nat)(hs:TZ (kZ T n K cf m e L)=some (K',cf',m',e',L'))
  (k1:W (G (.mk P T hT n c B0 (JP n c B0 (fun p=>Fj p=some q) mj (fun p (_:Unit)=>[(v,.b p)]++kp e' ks) (fun _ _=>[]++kl L' is)) (XK (.mk P T hT n c B0 N X Q) (K'.drop j)) Q) (K'.take j) m' e' L' cf') q zz)
  (k2:∀p,W (G (.mk P T hT n c B0 N X Q) (K'.drop j) mj ([(v,.b p)]++kp e' ks) ([]++kl L' is) .n) q (Fj p)):W (G (.mk P T hT n c B0 N X Q) K m e L cf) q zz:=kP j mj Fj ks (fun p (_:Unit)=>[(v,.b p)]) is (fun _ _=>[]) hs k1 fun p _=>k2 p
theorem SD{σ ρ υ γ ω:Type}{id:Nat}{y:Code}{fb:σ->Option (Step σ ρ)}{s0:σ}{gk:ρ->Option β}(u0:υ)(ks:List Nat)(el:σ->υ->SE)(is0 is:List Nat)(Ll:σ->υ->List Ch)(enc:γ->ρ)(kb:List Nat)(ej:γ->ω->SE)(ib:List Nat)(Lj:γ->ω->List Ch)
  (hs:kZ T n K cf m e L=.loop id y K' m' e' L')
  (h0:SN B0.length m' e' L' is0 m' (el s0 u0++kp e' ks) (Ll s0 u0++kl L' is)=some (el s0 u0++kp e' ks,Ll s0 u0++kl L' is))
  (k1:∀{ro o},gk ro=some q->∀s u,(hr:∀p,o=.stop p->p=ro)->W (G (.mk P T hT n c B0 (NxP n c B0 o m' (fun s u=>el s u++kp e' ks) (fun s u=>Ll s u++kl L' is)) (BkR n c B0 hr enc m' (fun b u=>ej b u++kp e' kb) (fun b u=>Lj b u++kl L' ib) id (XK (.mk P T hT n c B0 N X Q) K')) Q) [] m' (el s u++kp e' ks) (Ll s u++kl L' is) (.c y)) o (fb s))
  (k2:∀b u,W (G (.mk P T hT n c B0 N X Q) K' m' (ej b u++kp e' kb) (Lj b u++kl L' ib) .n) q (gk (enc b))):W (G (.mk P T hT n c B0 N X Q) K m e L cf) q ((loop fb s0).bind gk):=fun hF=>
 lp u0 ks el is0 is Ll enc kb ej ib Lj hs hF h0 (fun ro h1 s u o h2 h3=>k1 h1 s u h3 h2) fun b u h=>k2 b u h
theorem NI{ρ:Type}{id:Nat}{y:Code}{fb:Int->Option (Step Int ρ)}{s0:Int}{gk:ρ->Option β}(v:Nat)(ks:List Nat)(is:List Nat)(enc:Unit->ρ)(kb:List Nat)(ib:List Nat)
  (hs:kZ T n K cf m e L=.loop id y K' m' e' L')
  (h0:SN B0.length m' e' L' is m' ([(v,.i .i64 s0)]++kp e' ks) ([]++kl L' is)=some ([(v,.i .i64 s0)]++kp e' ks,[]++kl L' is))
  (k1:∀{ro o},gk ro=some q->∀s,(hr:∀p,o=.stop p->p=ro)->W (G (.mk P T hT n c B0 (NxP n c B0 o m' (fun s (_:Unit)=>[(v,.i .i64 s)]++kp e' ks) (fun _ _=>[]++kl L' is)) (BkR n c B0 hr enc m' (fun _ (_:Unit)=>[]++kp e' kb) (fun _ _=>[]++kl L' ib) id (XK (.mk P T hT n c B0 N X Q) K')) Q) [] m' ([(v,.i .i64 s)]++kp e' ks) ([]++kl L' is) (.c y)) o (fb s))
  (k2:W (G (.mk P T hT n c B0 N X Q) K' m' ([]++kp e' kb) ([]++kl L' ib) .n) q (gk (enc ()))):W (G (.mk P T hT n c B0 N X Q) K m e L cf) q ((loop fb s0).bind gk):=
 SD () ks (fun s (_:Unit)=>[(v,.i .i64 s)]) is is (fun _ _=>[]) enc kb (fun _ (_:Unit)=>[]) ib (fun _ _=>[]) hs h0 (fun h s _ hr=>k1 h s hr) fun _ _=>k2
theorem xU{β:Type}{kf:α->Option β}{q:β}[aM α](E:CO α)(j:Nat){t:TypeId}{s:AC}{i:Int}{ls:List α}(hs:kZ T n K cf m e L=.idx o d t s ls.length i Lv cf1 cf2 K' m' e' L')(hj:L'[j]?=some (ow s ls))(hz:gZ j cf1.BK=true)
  (k:∀x,idx ls i=some x->∀y:E.ex,Shp s ls.length->W (G (.mk P T hT n c B0 N X Q) K' (m'+1) e' (L'.set j .no++([.o (xH (s.v ls.length) ls i.toNat),.box m' (E.cs x y),wOf α m' s ls.length i.toNat]++E.Lx x y)) (cf1.ext [wOf α m' s ls.length i.toNat])) q (kf x)):W (G (.mk P T hT n c B0 N X Q) K m e L cf) q ((idx ls i).bind kf):=fun hF=>oe E j hs hj hz hF fun x h1 h2 y h3=>k x h1 y h3 h2
end
noncomputable section
variable {α β ex:Type} {fo:Option α} {kf:α->Option β} {q:β} {d:Option Nat} {f:FuncId} {xs xs0:List SV} {M:List Ch} {sv:α->ex->SV} {Lr:α->ex->List Ch}
theorem WZ(is:List Nat)
  (hs:cpS (kZ T n K cf m e L)=some (o,d,f,xs,cf1,cf2,K',m',e',L')) (hi:bB (fun i=>L'[i]?) is=some M) (hx:bB (rnP [] 0) xs=some xs0)
  (hk:(P5 M && (dU is && is.all fun j=>gZ j cf1.BK))=true)
  (hc:∀{κ:Ctx},HG c κ L' is->VS P κ f fo xs0 [] M sv Lr)
  (k:∀x,∀y:ex,W (G (.mk P T hT n c B0 N X Q) K' m' (dse d (sv x y) e') (P4 L' is++Lr x y) cf2) q (kf x)) (hn:∀x y,(P5 (Lr x y) && G6 0 (sv x y))=true:=by exact fun _ _=>rfl):W (G (.mk P T hT n c B0 N X Q) K m e L cf) q (fo.bind kf):=fun hF=>
 cw0 is hs hi hx hk hn (fun h _ hx=>hc h _ hx) hF fun x _ h y=>k x y h
theorem dT{c1:List SV}{a1:α->ex->List SV}(i1 n1 o1 k1:Nat)(is:List Nat)
  (hs:cpS (kZ T n K cf m e L)=some (o,d,f,xs,cf1,cf2,K',m',e',L')) (hb:aJO L' [(i1,n1,o1,k1)]=some [c1]) (hi:bB (fun i=>L'[i]?) is=some M) (hx:bB (rnP [(i1,n1,o1,k1)] 0) xs=some xs0)
  (hk:(P5 M && ([c1].all (G6.okC 0) && (dU (i1 :: is) && (i1 :: is).all fun j=>gZ j cf1.BK)))=true)
  (hc:∀{κ:Ctx},HG c κ L' (i1 :: is)->∀{b1:Nat×Nat},VS P κ f fo xs0 [b1] (.box 0 c1 :: M) sv (fun x y=>.box 0 (a1 x y) :: Lr x y))
  (k:∀x,∀y:ex,W (G (.mk P T hT n c B0 N X Q) K' m' (dse d (sv x y) e') (NQ L' (P4 L' (i1 :: is)++Lr x y) [(i1,n1,o1,k1)] [a1 x y]) cf2) q (kf x)) (hn:∀x y,(aBT [(i1,n1,o1,k1)] [a1 x y] && ([a1 x y].all (G6.okC 0) && (P5 (Lr x y) && G6 0 (sv x y))))=true:=by exact fun _ _=>rfl):W (G (.mk P T hT n c B0 N X Q) K m e L cf) q (fo.bind kf):=fun hF=>
 cw1 i1 n1 o1 k1 is hs hb hi hx hk hn (fun h _ _ hx=>hc h _ hx) hF fun x _ h y=>k x y h
theorem YQ{c1 c2:List SV}{a1 a2:α->ex->List SV}(i1 n1 o1 k1:Nat)(i2 n2 o2 k2:Nat)(is:List Nat)
  (hs:cpS (kZ T n K cf m e L)=some (o,d,f,xs,cf1,cf2,K',m',e',L')) (hb:aJO L' [(i1,n1,o1,k1),(i2,n2,o2,k2)]=some [c1,c2]) (hi:bB (fun i=>L'[i]?) is=some M) (hx:bB (rnP [(i1,n1,o1,k1),(i2,n2,o2,k2)] 0) xs=some xs0)
  (hk:(P5 M && ([c1,c2].all (G6.okC 0) && (dU (i1 :: i2 :: is) && (i1 :: i2 :: is).all fun j=>gZ j cf1.BK)))=true)
  (hc:∀{κ:Ctx},HG c κ L' (i1 :: i2 :: is)->∀{b1 b2:Nat×Nat},VS P κ f fo xs0 [b1,b2] (.box 0 c1 :: .box 1 c2 :: M) sv (fun x y=>.box 0 (a1 x y) :: .box 1 (a2 x y) :: Lr x y))
  (k:∀x,∀y:ex,W (G (.mk P T hT n c B0 N X Q) K' m' (dse d (sv x y) e') (NQ L' (P4 L' (i1 :: i2 :: is)++Lr x y) [(i1,n1,o1,k1),(i2,n2,o2,k2)] [a1 x y,a2 x y]) cf2) q (kf x)) (hn:∀x y,(aBT [(i1,n1,o1,k1),(i2,n2,o2,k2)] [a1 x y,a2 x y] && ([a1 x y,a2 x y].all (G6.okC 0) && (P5 (Lr x y) && G6 0 (sv x y))))=true:=by exact fun _ _=>rfl):W (G (.mk P T hT n c B0 N X Q) K m e L cf) q (fo.bind kf):=fun hF=>
 cw2 i1 n1 o1 k1 i2 n2 o2 k2 is hs hb hi hx hk hn (fun h _ _ _ hx=>hc h _ hx) hF fun x _ h y=>k x y h
end
theorem aEO{α β:Type}{iR:aM α}{C:K1 α}{sr:β->SV}{g:FuncId}{w:World}{p:α->Option β}(hc:∀args w,(callFunc g args).run P w=.ok (.enter g args) w)(hn:∀{κ:Ctx} {x y},C.sub κ.S0 κ.w0 x y->V0 P κ g (p x) [C.sv x y] sr):Fu1 P (dA w) C sr g [] p:=fu1 hc (by intro κ x y h q hq;exact hn h _ hq)
theorem aLT{α β:Type}{iR:aM α}{C:K1 α}{sr:β->SV}{g:FuncId}{w:World}{Bs:Bl}{cs:List (Nat×List SV)}{p:α->Option β}(hc:∀args w,(callFunc g args).run P w=.ok (.enter g args) w)(hB:∀w1,gP F0 w w1->mZ (dA w1) w1 Bs (roL 0 cs))(hl:bB (gI Bs) (aSI 0 cs)=some (aBR Bs))(hn:∀{w1 x y},gP F0 w w1->C.sub (PL w1) w1 x y->VS P (dA w1) g (p x) (C.sv x y :: aSI 0 cs) Bs (roL 0 cs) (fun r (_:Unit)=>sr r) (fun _ _=>[]))(hz:∀q,G6 0 (sr q)=true:=by exact fun _=>rfl):Fu1 P (dA w) C sr g (aBR Bs) p:=fk1 hc hB hl hz (by intro w1 x y h h' q hq;exact hn h h' _ hq)
noncomputable section
variable {α β:Type} {fo:Option α} {kf:α->Option β} {q:β} {d:Nat} {f g:FuncId} {xs:List SV} {sv:α->SV}
theorem aLU{n1:Nat}{c1:List SV}(is:List Nat)(hs:kZ T n K cf m e L=.callp o (some d) f xs cf1 cf2 K' m' e' L')(hk:kl L' is=[.ro n1 c1])(ho:(aJK [(n1,c1)] && okA xs.dropLast)=true)(hx:xs=xs.dropLast ++ [.f g [n1]])
  (hc:∀{w},HS c w L'->∀{b1:Nat×Nat},(∀w1,gP F0 w w1->mZ (dA w1) w1 [b1] [.ro 0 c1])->V0 P (dA w) f fo (xs.dropLast ++ [.k (.func (.func g) #[] (aBR [b1]).toArray)]) sv)
  (k:∀x,W (G (.mk P T hT n c B0 N X Q) K' m' ((d,sv x) :: e') L' cf2) q (kf x)):W (G (.mk P T hT n c B0 N X Q) K m e L cf) q (fo.bind kf):=fun hF=>
 a2U is hs hk ho hx (fun h _ h2 _ hx=>hc h h2 _ hx) hF fun x _ h=>k x h
end
end
end Go.Gv
end
noncomputable section
namespace Go.Gv
def pV(y:Nat×Nat):Value:=.pointer (some ⟨y.1,y.2,none⟩)
noncomputable section
variable {P:Program} {T:TT} {hT:HA P T} {n:Nat} {c:Ctx} {B0:Bl} {N:Act->World->Prop} {X:Nat->Act->World->Prop} {Q:Act->World->Prop} {K K':List Fr} {m m':Nat} {e e':SE} {L L':List Ch} {cf cf1 cf2:xT} {o:Oper}
abbrev VP(P:Program)(c:Ctx)(f:FuncId){ρ:Type}(F:Option ρ)(xs:List SV)(cs:ρ->List SV):Prop:=VS P c f F xs [] [] (fun _ (y:Nat×Nat)=>.k (pV y)) (fun r y=>[.o (PN [y] 0 (cs r))])
theorem rtP{fn:Func}{ρ:Type}{r r':ρ}{t:Nat}{hr:fn.results=[ResultVar.tmp t].toArray}{zz:Option ρ}{cs:ρ->List SV}(is:List Nat)(hz:zz=some r')(hs:kZ T n K cf m e L=.ret m' e' L')(hL:SN 0 m' e' L' is 1 [(t,.p 0 0)] [.box 0 (cs r')]=some ([(t,.p 0 0)],[.box 0 (cs r')]))(ho:G6.okC 0 (cs r')=true):W (G (.mk P T hT n c [] N X (QR P fn hr c [] (fun _ (y:Nat×Nat)=>.k (pV y)) (fun r y=>[.o (PN [y] 0 (cs r))]) r)) K m e L cf) r zz:=fun hF=>by
 subst hz;cases hF
 refine g7 (g:=.mk P T hT n c [] N X _) ?_
 rw [hs]
 intro a w hr'
 obtain⟨B,hm,hA,hS⟩:=qW.SN hr' is hL
 have hB:∃y,B=[y]:=by
  cases B with
  | nil=>simp at hm
  | cons y B => cases B with
   | nil=>exact⟨y,rfl⟩
   | cons z B=>simp at hm
 obtain⟨y,rfl⟩:=hB
 have hS:mZ c w [y] [.box 0 (cs r)]:=hS
 have hA:gL n [y] [(t,.p 0 0)] a:=hA
 have hv:aHE T [(t,.p 0 0)] [.box 0 (cs r)] [ResultVar.tmp t]=some (.p 0 0):=by simp [aHE,aRP,DW]
 obtain⟨v,h1,h2⟩:=aAS hr hT hA hS hv
 have hv':v=pV y:=by
  simp only [gI,gV,bX,List.getElem?_cons_zero] at h1
  cases h1;rfl
 subst hv'
 refine⟨hA.d,_,h2,y,by simp [gI,gV,bX,pV,Value.oneCell'],?_⟩
 obtain⟨⟨R,s1,s2⟩,s0⟩:=hS
 exact⟨⟨R,s1.imp (.cons (fun F h=>h) .nil),fun x hx=>by rcases List.mem_cons.1 hx with rfl | hx <;> first | trivial | simp at hx⟩,s0⟩
theorem cP{α β:Type}{fo:Option α}{kf:α->Option β}{q:β}{d:Nat}{f:FuncId}{xs:List SV}{cs:α->List SV}(hs:kZ T n K cf m e L=.call o (some d) f xs cf1 cf2 K' m' e' L')
  (hc:∀{w},HS c w L'->VP P (dA w) f fo xs cs) (k:∀x,W (G (.mk P T hT n c B0 N X Q) K' (m'+1) ((d,.p m' 0) :: e') (L' ++ [.box m' (cs x)]) cf2) q (kf x)) (hk:∀x,G6.okC 0 (cs x)=true:=by exact fun _=>rfl):W (G (.mk P T hT n c B0 N X Q) K m e L cf) q (fo.bind kf):=fun hF=>by
 refine g7 (g:=.mk P T hT n c B0 N X Q) ?_
 rw [hs]
 intro fo' args ats ho hd hf ⟨ys,hys,hxs⟩ hA0 hdn hE
 subst hxs
 cases hfo:fo with
 | none=>rw [hfo] at hF;cases hF
 | some x =>
  rw [hfo] at hF
  refine hE Unit (fun _=>m'+1) (fun _=>(d,.p m' 0) :: e') (fun _=>L' ++ [.box m' (cs x)]) (fun _=>zP _) (fun B a w next Q' hm hA hS hnext=>?_) (fun _=>k x hF)
  obtain⟨hcall,hrun⟩:=hc ⟨_,hS⟩ x hfo
  obtain⟨vs,h1,h2⟩:=YD hA hys
  obtain⟨v,h3,h4⟩:=eU hA hf
  simp [gI,bB] at h3
  subst h3
  have h5:=hrun vs (aAT hA0 (by rw [R8];exact h1)) (aSB w)
  have h6:=UY (w:=w) hcall ho h4 h2
  unfold Oper.wp
  rw [h6 _ a hA.env,Oper.upon_enter]
  refine Calls.mono h5 fun en w' ⟨v,hv,y,g1,g2⟩=>?_
  subst hv
  rw [hd]
  have hv':v=pV y:=by simpa [gI,gV,bX,pV,Value.oneCell'] using g1.symm
  subst hv'
  have hb:∀{F:cT},(PN [y] 0 (cs x)).P w' F->(PN ((UO (.mk P T hT n c B0 N X Q) cf1++B) ++ [y]) m' (cs x)).P w' F:=fun⟨b,z,us,k1,k2,k3⟩=>by
   simp only [List.getElem?_cons_zero,Option.some.injEq] at k1
   refine⟨y.1,y.2,us,?_,?_,by rw [k1];exact k3⟩
   ·rw [List.getElem?_append_right (by omega),hm];simp
   ·simpa using fO (fun x v h=>by simpa using gW (B:=[]) (UO (.mk P T hT n c B0 N X Q) cf1++B ++ [y]) h) (HB (hk x) k2)
  have g3:gI ((UO (.mk P T hT n c B0 N X Q) cf1++B) ++ [y]) (.p m' 0)=some (pV y):=by
   simp only [gI,gV,bX]
   rw [List.getElem?_append_right (by omega),hm]
   simp [pV]
  refine hnext () _ _ ⟨[y],by simp only [List.length_append,List.length_cons,List.length_nil] at hm ⊢;omega,hA.ext g3 (hA.env.put (by simpa [sB,Nat.blt_eq] using hdn) _),?_⟩
  obtain⟨⟨R,s1,s2⟩,s0⟩:=(hS.after (L2:=[.o (PN [y] 0 (cs x))]) rfl g2).app [y]
  refine⟨⟨R,s1.imp ?_,fun z hz=>?_⟩,s0⟩
  ·rw [List.map_append,List.map_append]
   exact jU.append (jU.refl _) (.cons (fun F h=>hb h) .nil)
  ·rcases List.mem_append.1 hz with hz | hz
   ·exact s2 z (List.mem_append_left _ hz)
   ·rcases List.mem_cons.1 hz with rfl | hz <;> first | trivial | simp at hz
def aY8(b:Bool)(off sz:Nat)(cs:List SV):Option SV:=match b with
 | true=>some (.g ((cs.drop off).take sz))
 | false => match cs[off]? with
  | some x => match x with
   | .g _=>none
   | .t _=>none
   | .f _ _=>none
   | .u=>none
   | y=>some y
  | none=>none
theorem a24{α:Type}{F0:Option α}{q:α}{t ix sz d:Nat}{b:Bool}{k:TK}{z cs:List SV}{Fs:Array Field}{F:Field}{x:Operand}{r:SV}{Lv:List Ch}(hu:P.underlying t=some (.struct Fs))(hf:Fs[ix]?=some F)(hl:BH T F.type=some ⟨k,b,sz,z⟩)(hs:opS (kZ T n K cf m e L)=some (o,Lv,cf1,cf2,K',m',e',L'))(ho:(o.op,o.dst)=(.field t x ix,some d))(hx:jF e' x=some (.g cs))(hr:aY8 b F.offset sz cs=some r)(hz:(!b || Nat.ble (F.offset+sz) cs.length)=true)
  (kk:W (G (.mk P T hT n c B0 N X Q) K' m' ((d,r) :: e') L' cf2) q F0):W (G (.mk P T hT n c B0 N X Q) K m e L cf) q F0:=fun hF=>
 pu hs (congrArg Prod.snd ho) (fun B a w hA _=>by
  obtain⟨v,h1,h2⟩:=eU hA hx
  simp only [gI,gV] at h1
  split at h1
  case h_2=>cases h1
  rename_i vs hv
  cases h1
  have hlen:=lV hv
  have h0:o.op=.field t x ix:=congrArg Prod.fst ho
  have hag:=hT.agg _ _ hl
  have hsz:=hT.size _ _ hl
  cases b with
  | true =>
   have hz':=Nat.le_of_ble_eq_true (by simpa using hz)
   simp only [aY8] at hr;cases hr
   refine⟨.agg ((vs.drop F.offset).take sz).toArray,by simp only [gI,gV,MF sz (ME F.offset hv)],fun _ a hA=>?_⟩
   have e:vs.toArray.extract F.offset (F.offset+sz)=((vs.drop F.offset).take sz).toArray:=by
    apply Array.ext'
    simp [List.extract_eq_take_drop]
   simp [execOp,h0,hA.eval h2,Instr.field,run_underlying hu,hf,part,asAgg,hag,hsz,e]
  | false =>
   simp only [aY8] at hr
   split at hr
   case h_2=>cases hr
   rename_i y hy
   obtain⟨u,h4,h5⟩:=MD hv hy
   have hr':r=y:=by cases y <;> simp at hr <;> exact hr.symm
   subst hr'
   refine⟨u,aM7 h4,fun _ a hA=>?_⟩
   simp [execOp,h0,hA.eval h2,Instr.field,run_underlying hu,hf,part,asAgg,hag,h5]) (kk hF)
end
end Go.Gv
end
noncomputable section
namespace Go.Gv
noncomputable section
variable {n:Nat} {c:Ctx} {B0:Bl} {m:Nat} {e:SE} {L:List Ch}
def kf(L xs:List Ch)(k:Nat):List Nat->List Ch
 | []=>[]
 | i :: is => match Nat.blt i k with
  | true => match L[i]? with
   | some x=>x :: kf L xs k is
   | none=>kf L xs k is
  | false => match xs[i - k]? with
   | some x=>x :: kf L xs k is
   | none=>kf L xs k is
end
end Go.Gv
end
noncomputable section
namespace Go.Gv
structure aE where
 Bytes:List Int
 Class:List Int
 deriving DecidableEq,Inhabited
instance:aM aE:=aM.via (fun d=>(d.Bytes,d.Class))
instance:Fits aE:=Fits.via (fun d=>(d.Bytes,d.Class))
structure aP where
 aS:List Int
 deriving DecidableEq,Inhabited
instance:aM aP:=aM.via (fun d=>(d.aS))
instance:Fits aP:=Fits.via (fun d=>(d.aS))
theorem aJY{S:cT}{w:World}{cs:List Value}{d:aP}(h:aM.rd S w cs d):∃v0:Value,cs=[v0]/\aM.rd S w [v0] d.aS:=by
 obtain⟨u0,q0⟩:=J6 h
 rw [q0] at h
 exact⟨u0,q0,h⟩
theorem BL(d:aP){v0:Value}:OP [v0] d [gN [v0] d.aS]:=(show OP (α:=(List Int)) _ (d.aS) _ from aLB)
theorem _root_.Go.Gv.St.aS0{c:Ctx}{L:List Chunk}{R:List Fact}{w:World}{s:Value}{l:List aP}{i:Nat}{x:aP}(h:St c w L R)(j:Nat)(hj:R[j]?=some (BG [s] l))(hi:l[i]?=some x):∃v0:Value,b7 w (PW s) (PM 1 i s) [v0]/\St c w L (R ++ [BG [v0] x.aS]):=by
 obtain⟨S,hS,hk⟩:=h.aQR hj
 obtain⟨ec,h1,h2⟩:=aI3 hS hi
 obtain⟨v0,q,q0⟩:=aJY h2
 rw [q] at h1
 exact⟨v0,h1,hk _ (by intro f hf;simp only [List.mem_cons,List.not_mem_nil,or_false] at hf;subst hf;exact q0)⟩
structure aC where
 Global:List aP
 cL:List aP
 deriving DecidableEq,Inhabited
instance:aM aC:=aM.via (fun d=>(d.Global,d.cL))
instance:Fits aC:=Fits.via (fun d=>(d.Global,d.cL))
structure Mem where
 aE:aE
 aC:aC
 deriving DecidableEq,Inhabited
instance:aM Mem:=aM.via (fun d=>(d.aE,d.aC))
instance:Fits Mem:=Fits.via (fun d=>(d.aE,d.aC))
structure oV where
 On:Bool
 aG:Int
 dC:Bool
 Seen:Int
 deriving DecidableEq,Inhabited
instance:aM oV:=aM.via (fun d=>(d.On,d.aG,d.dC,d.Seen))
instance:Fits oV:=Fits.via (fun d=>(d.On,d.aG,d.dC,d.Seen))
theorem aY9{S:cT}{w:World}{cs:List Value}{d:oV}(h:aM.rd S w cs d):cs=[.bool (d.On),.int .i64 (d.aG),.bool (d.dC),.int .i64 (d.Seen)]:=by
 obtain⟨c0,r0,e0,h0,n0⟩:=h
 have q0:c0=[_]:=h0
 obtain⟨c1,r1,e1,h1,n1⟩:=n0
 have q1:c1=[_]:=h1
 obtain⟨c2,r2,e2,h2,n2⟩:=n1
 have q2:c2=[_]:=h2
 have q3:r2=[_]:=n2
 exact by rw [e0,e1,e2,q0,q1,q2,q3];rfl
theorem aS1{S:cT}{w:World}(d:oV):aM.rd S w [.bool (d.On),.int .i64 (d.aG),.bool (d.dC),.int .i64 (d.Seen)] d:=⟨[.bool (d.On)],[.int .i64 (d.aG),.bool (d.dC),.int .i64 (d.Seen)],rfl,rfl,⟨[.int .i64 (d.aG)],[.bool (d.dC),.int .i64 (d.Seen)],rfl,rfl,⟨[.bool (d.dC)],[.int .i64 (d.Seen)],rfl,rfl,rfl⟩⟩⟩
instance:Flat oV:=⟨fun h=>Flat.own_of (α:=Bool×Int×Bool×Int) h,fun h=>Flat.no (α:=Bool×Int×Bool×Int) h⟩
theorem aZA(d:oV):OP [.bool (d.On),.int .i64 (d.aG),.bool (d.dC),.int .i64 (d.Seen)] d []:=(show OP (α:=Bool×Int×Bool×Int) _ (d.On,d.aG,d.dC,d.Seen) _ from (kD (c1:=[.bool (d.On)]) (c2:=[.int .i64 (d.aG),.bool (d.dC),.int .i64 (d.Seen)]) (A:=[]) (B:=[]) (gQ rfl) (kD (c1:=[.int .i64 (d.aG)]) (c2:=[.bool (d.dC),.int .i64 (d.Seen)]) (A:=[]) (B:=[]) (gQ rfl) (kD (c1:=[.bool (d.dC)]) (c2:=[.int .i64 (d.Seen)]) (A:=[]) (B:=[]) (gQ rfl) (gQ rfl) rfl) rfl) rfl))
structure aB where
 aG:Int
 cG:List oV
 deriving DecidableEq,Inhabited
instance:aM aB:=aM.via (fun d=>(d.aG,d.cG))
instance:Fits aB:=Fits.via (fun d=>(d.aG,d.cG))
structure cZ where
 Handle:Int
 aG:Int
 deriving DecidableEq,Inhabited
instance:aM cZ:=aM.via (fun d=>(d.Handle,d.aG))
instance:Fits cZ:=Fits.via (fun d=>(d.Handle,d.aG))
theorem aN2{S:cT}{w:World}{cs:List Value}{d:cZ}(h:aM.rd S w cs d):cs=[.int .i64 (d.Handle),.int .i64 (d.aG)]:=by
 obtain⟨c0,r0,e0,h0,n0⟩:=h
 have q0:c0=[_]:=h0
 have q1:r0=[_]:=n0
 exact by rw [e0,q0,q1];rfl
theorem aWF{S:cT}{w:World}(d:cZ):aM.rd S w [.int .i64 (d.Handle),.int .i64 (d.aG)] d:=⟨[.int .i64 (d.Handle)],[.int .i64 (d.aG)],rfl,rfl,rfl⟩
instance:Flat cZ:=⟨fun h=>Flat.own_of (α:=Int×Int) h,fun h=>Flat.no (α:=Int×Int) h⟩
theorem aWG(d:cZ):OP [.int .i64 (d.Handle),.int .i64 (d.aG)] d []:=(show OP (α:=Int×Int) _ (d.Handle,d.aG) _ from (kD (c1:=[.int .i64 (d.Handle)]) (c2:=[.int .i64 (d.aG)]) (A:=[]) (B:=[]) (gQ rfl) (gQ rfl) rfl))
theorem aWH{S:cT}{w:World}{s:Value}{l:List cZ}{i:Nat}{x:cZ}(h:aM.rd S w [s] l)(hi:l[i]?=some x):b7 w (PW s) (PM 2 i s) [.int .i64 (x.Handle),.int .i64 (x.aG)]:=by
 obtain⟨ec,h1,h2⟩:=aI3 h hi
 rw [aN2 h2] at h1;exact h1
structure aY where
 Rows:List cZ
 deriving DecidableEq,Inhabited
instance:aM aY:=aM.via (fun d=>(d.Rows))
instance:Fits aY:=Fits.via (fun d=>(d.Rows))
theorem aJZ{S:cT}{w:World}{cs:List Value}{d:aY}(h:aM.rd S w cs d):∃v0:Value,cs=[v0]/\aM.rd S w [v0] d.Rows:=by
 obtain⟨u0,q0⟩:=J6 h
 rw [q0] at h
 exact⟨u0,q0,h⟩
theorem aBY(d:aY){v0:Value}:OP [v0] d [gN [v0] d.Rows]:=(show OP (α:=(List cZ)) _ (d.Rows) _ from aLB)
theorem _root_.Go.Gv.St.aJ0{c:Ctx}{L:List Chunk}{R:List Fact}{w:World}{s:Value}{l:List aY}{i:Nat}{x:aY}(h:St c w L R)(j:Nat)(hj:R[j]?=some (BG [s] l))(hi:l[i]?=some x):∃v0:Value,b7 w (PW s) (PM 1 i s) [v0]/\St c w L (R ++ [BG [v0] x.Rows]):=by
 obtain⟨S,hS,hk⟩:=h.aQR hj
 obtain⟨ec,h1,h2⟩:=aI3 hS hi
 obtain⟨v0,q,q0⟩:=aJZ h2
 rw [q] at h1
 exact⟨v0,h1,hk _ (by intro f hf;simp only [List.mem_cons,List.not_mem_nil,or_false] at hf;subst hf;exact q0)⟩
structure aA where
 Mem:Mem
 aB:aB
 aL:List aY
 iS:List Int
 deriving DecidableEq,Inhabited
instance:aM aA:=aM.via (fun d=>(d.Mem,d.aB,d.aL,d.iS))
instance:Fits aA:=Fits.via (fun d=>(d.Mem,d.aB,d.aL,d.iS))
structure dB where
 Kind:Int
 Cell:Int
 gX:Int
 dV:Int
 deriving DecidableEq,Inhabited
instance:aM dB:=aM.via (fun d=>(d.Kind,d.Cell,d.gX,d.dV))
instance:Fits dB:=Fits.via (fun d=>(d.Kind,d.Cell,d.gX,d.dV))
theorem aS2{S:cT}{w:World}{cs:List Value}{d:dB}(h:aM.rd S w cs d):cs=[.int .i64 (d.Kind),.int .i64 (d.Cell),.int .i64 (d.gX),.int .i64 (d.dV)]:=by
 obtain⟨c0,r0,e0,h0,n0⟩:=h
 have q0:c0=[_]:=h0
 obtain⟨c1,r1,e1,h1,n1⟩:=n0
 have q1:c1=[_]:=h1
 obtain⟨c2,r2,e2,h2,n2⟩:=n1
 have q2:c2=[_]:=h2
 have q3:r2=[_]:=n2
 exact by rw [e0,e1,e2,q0,q1,q2,q3];rfl
theorem aHV{S:cT}{w:World}(d:dB):aM.rd S w [.int .i64 (d.Kind),.int .i64 (d.Cell),.int .i64 (d.gX),.int .i64 (d.dV)] d:=⟨[.int .i64 (d.Kind)],[.int .i64 (d.Cell),.int .i64 (d.gX),.int .i64 (d.dV)],rfl,rfl,⟨[.int .i64 (d.Cell)],[.int .i64 (d.gX),.int .i64 (d.dV)],rfl,rfl,⟨[.int .i64 (d.gX)],[.int .i64 (d.dV)],rfl,rfl,rfl⟩⟩⟩
instance:Flat dB:=⟨fun h=>Flat.own_of (α:=Int×Int×Int×Int) h,fun h=>Flat.no (α:=Int×Int×Int×Int) h⟩
theorem aZB(d:dB):OP [.int .i64 (d.Kind),.int .i64 (d.Cell),.int .i64 (d.gX),.int .i64 (d.dV)] d []:=(show OP (α:=Int×Int×Int×Int) _ (d.Kind,d.Cell,d.gX,d.dV) _ from (kD (c1:=[.int .i64 (d.Kind)]) (c2:=[.int .i64 (d.Cell),.int .i64 (d.gX),.int .i64 (d.dV)]) (A:=[]) (B:=[]) (gQ rfl) (kD (c1:=[.int .i64 (d.Cell)]) (c2:=[.int .i64 (d.gX),.int .i64 (d.dV)]) (A:=[]) (B:=[]) (gQ rfl) (kD (c1:=[.int .i64 (d.gX)]) (c2:=[.int .i64 (d.dV)]) (A:=[]) (B:=[]) (gQ rfl) (gQ rfl) rfl) rfl) rfl))
structure Sub where
 Kind:Int
 A:Int
 Pc:Int
 E:Int
 Row:Int
 B:Int
 H:Int
 Out:Int
 Code:Int
 cO:Bool
 deriving DecidableEq,Inhabited
instance:aM Sub:=aM.via (fun d=>(d.Kind,d.A,d.Pc,d.E,d.Row,d.B,d.H,d.Out,d.Code,d.cO))
instance:Fits Sub:=Fits.via (fun d=>(d.Kind,d.A,d.Pc,d.E,d.Row,d.B,d.H,d.Out,d.Code,d.cO))
theorem aZC{S:cT}{w:World}{cs:List Value}{d:Sub}(h:aM.rd S w cs d):cs=[.int .i64 (d.Kind),.int .i64 (d.A),.int .i64 (d.Pc),.int .i64 (d.E),.int .i64 (d.Row),.int .i64 (d.B),.int .i64 (d.H),.int .i64 (d.Out),.int .i64 (d.Code),.bool (d.cO)]:=by
 obtain⟨c0,r0,e0,h0,n0⟩:=h
 have q0:c0=[_]:=h0
 obtain⟨c1,r1,e1,h1,n1⟩:=n0
 have q1:c1=[_]:=h1
 obtain⟨c2,r2,e2,h2,n2⟩:=n1
 have q2:c2=[_]:=h2
 obtain⟨c3,r3,e3,h3,n3⟩:=n2
 have q3:c3=[_]:=h3
 obtain⟨c4,r4,e4,h4,n4⟩:=n3
 have q4:c4=[_]:=h4
 obtain⟨c5,r5,e5,h5,n5⟩:=n4
 have q5:c5=[_]:=h5
 obtain⟨c6,r6,e6,h6,n6⟩:=n5
 have q6:c6=[_]:=h6
 obtain⟨c7,r7,e7,h7,n7⟩:=n6
 have q7:c7=[_]:=h7
 obtain⟨c8,r8,e8,h8,n8⟩:=n7
 have q8:c8=[_]:=h8
 have q9:r8=[_]:=n8
 exact by rw [e0,e1,e2,e3,e4,e5,e6,e7,e8,q0,q1,q2,q3,q4,q5,q6,q7,q8,q9];rfl
theorem aS3{S:cT}{w:World}(d:Sub):aM.rd S w [.int .i64 (d.Kind),.int .i64 (d.A),.int .i64 (d.Pc),.int .i64 (d.E),.int .i64 (d.Row),.int .i64 (d.B),.int .i64 (d.H),.int .i64 (d.Out),.int .i64 (d.Code),.bool (d.cO)] d:=⟨[.int .i64 (d.Kind)],[.int .i64 (d.A),.int .i64 (d.Pc),.int .i64 (d.E),.int .i64 (d.Row),.int .i64 (d.B),.int .i64 (d.H),.int .i64 (d.Out),.int .i64 (d.Code),.bool (d.cO)],rfl,rfl,⟨[.int .i64 (d.A)],[.int .i64 (d.Pc),.int .i64 (d.E),.int .i64 (d.Row),.int .i64 (d.B),.int .i64 (d.H),.int .i64 (d.Out),.int .i64 (d.Code),.bool (d.cO)],rfl,rfl,⟨[.int .i64 (d.Pc)],[.int .i64 (d.E),.int .i64 (d.Row),.int .i64 (d.B),.int .i64 (d.H),.int .i64 (d.Out),.int .i64 (d.Code),.bool (d.cO)],rfl,rfl,⟨[.int .i64 (d.E)],[.int .i64 (d.Row),.int .i64 (d.B),.int .i64 (d.H),.int .i64 (d.Out),.int .i64 (d.Code),.bool (d.cO)],rfl,rfl,⟨[.int .i64 (d.Row)],[.int .i64 (d.B),.int .i64 (d.H),.int .i64 (d.Out),.int .i64 (d.Code),.bool (d.cO)],rfl,rfl,⟨[.int .i64 (d.B)],[.int .i64 (d.H),.int .i64 (d.Out),.int .i64 (d.Code),.bool (d.cO)],rfl,rfl,⟨[.int .i64 (d.H)],[.int .i64 (d.Out),.int .i64 (d.Code),.bool (d.cO)],rfl,rfl,⟨[.int .i64 (d.Out)],[.int .i64 (d.Code),.bool (d.cO)],rfl,rfl,⟨[.int .i64 (d.Code)],[.bool (d.cO)],rfl,rfl,rfl⟩⟩⟩⟩⟩⟩⟩⟩⟩
instance:Flat Sub:=⟨fun h=>Flat.own_of (α:=Int×Int×Int×Int×Int×Int×Int×Int×Int×Bool) h,fun h=>Flat.no (α:=Int×Int×Int×Int×Int×Int×Int×Int×Int×Bool) h⟩
structure bA where
 cN:Bool
 Op:dB
 aI:Int
 Pc:Int
 Sub:Sub
 H:Int
 Old:Int
 dV:Int
 Code:Int
 deriving DecidableEq,Inhabited
instance:aM bA:=aM.via (fun d=>(d.cN,d.Op,d.aI,d.Pc,d.Sub,d.H,d.Old,d.dV,d.Code))
instance:Fits bA:=Fits.via (fun d=>(d.cN,d.Op,d.aI,d.Pc,d.Sub,d.H,d.Old,d.dV,d.Code))
theorem aZD{S:cT}{w:World}{cs:List Value}{d:bA}(h:aM.rd S w cs d):cs=[.bool (d.cN),.int .i64 (d.Op.Kind),.int .i64 (d.Op.Cell),.int .i64 (d.Op.gX),.int .i64 (d.Op.dV),.int .i64 (d.aI),.int .i64 (d.Pc),.int .i64 (d.Sub.Kind),.int .i64 (d.Sub.A),.int .i64 (d.Sub.Pc),.int .i64 (d.Sub.E),.int .i64 (d.Sub.Row),.int .i64 (d.Sub.B),.int .i64 (d.Sub.H),.int .i64 (d.Sub.Out),.int .i64 (d.Sub.Code),.bool (d.Sub.cO),.int .i64 (d.H),.int .i64 (d.Old),.int .i64 (d.dV),.int .i64 (d.Code)]:=by
 obtain⟨c0,r0,e0,h0,n0⟩:=h
 have q0:c0=[_]:=h0
 obtain⟨c1,r1,e1,h1,n1⟩:=n0
 have q1:=aS2 h1
 obtain⟨c2,r2,e2,h2,n2⟩:=n1
 have q2:c2=[_]:=h2
 obtain⟨c3,r3,e3,h3,n3⟩:=n2
 have q3:c3=[_]:=h3
 obtain⟨c4,r4,e4,h4,n4⟩:=n3
 have q4:=aZC h4
 obtain⟨c5,r5,e5,h5,n5⟩:=n4
 have q5:c5=[_]:=h5
 obtain⟨c6,r6,e6,h6,n6⟩:=n5
 have q6:c6=[_]:=h6
 obtain⟨c7,r7,e7,h7,n7⟩:=n6
 have q7:c7=[_]:=h7
 have q8:r7=[_]:=n7
 exact by rw [e0,e1,e2,e3,e4,e5,e6,e7,q0,q1,q2,q3,q4,q5,q6,q7,q8];rfl
theorem tQ{S:cT}{w:World}(d:bA):aM.rd S w [.bool (d.cN),.int .i64 (d.Op.Kind),.int .i64 (d.Op.Cell),.int .i64 (d.Op.gX),.int .i64 (d.Op.dV),.int .i64 (d.aI),.int .i64 (d.Pc),.int .i64 (d.Sub.Kind),.int .i64 (d.Sub.A),.int .i64 (d.Sub.Pc),.int .i64 (d.Sub.E),.int .i64 (d.Sub.Row),.int .i64 (d.Sub.B),.int .i64 (d.Sub.H),.int .i64 (d.Sub.Out),.int .i64 (d.Sub.Code),.bool (d.Sub.cO),.int .i64 (d.H),.int .i64 (d.Old),.int .i64 (d.dV),.int .i64 (d.Code)] d:=⟨[.bool (d.cN)],[.int .i64 (d.Op.Kind),.int .i64 (d.Op.Cell),.int .i64 (d.Op.gX),.int .i64 (d.Op.dV),.int .i64 (d.aI),.int .i64 (d.Pc),.int .i64 (d.Sub.Kind),.int .i64 (d.Sub.A),.int .i64 (d.Sub.Pc),.int .i64 (d.Sub.E),.int .i64 (d.Sub.Row),.int .i64 (d.Sub.B),.int .i64 (d.Sub.H),.int .i64 (d.Sub.Out),.int .i64 (d.Sub.Code),.bool (d.Sub.cO),.int .i64 (d.H),.int .i64 (d.Old),.int .i64 (d.dV),.int .i64 (d.Code)],rfl,rfl,⟨[.int .i64 (d.Op.Kind),.int .i64 (d.Op.Cell),.int .i64 (d.Op.gX),.int .i64 (d.Op.dV)],[.int .i64 (d.aI),.int .i64 (d.Pc),.int .i64 (d.Sub.Kind),.int .i64 (d.Sub.A),.int .i64 (d.Sub.Pc),.int .i64 (d.Sub.E),.int .i64 (d.Sub.Row),.int .i64 (d.Sub.B),.int .i64 (d.Sub.H),.int .i64 (d.Sub.Out),.int .i64 (d.Sub.Code),.bool (d.Sub.cO),.int .i64 (d.H),.int .i64 (d.Old),.int .i64 (d.dV),.int .i64 (d.Code)],rfl,(aHV _),⟨[.int .i64 (d.aI)],[.int .i64 (d.Pc),.int .i64 (d.Sub.Kind),.int .i64 (d.Sub.A),.int .i64 (d.Sub.Pc),.int .i64 (d.Sub.E),.int .i64 (d.Sub.Row),.int .i64 (d.Sub.B),.int .i64 (d.Sub.H),.int .i64 (d.Sub.Out),.int .i64 (d.Sub.Code),.bool (d.Sub.cO),.int .i64 (d.H),.int .i64 (d.Old),.int .i64 (d.dV),.int .i64 (d.Code)],rfl,rfl,⟨[.int .i64 (d.Pc)],[.int .i64 (d.Sub.Kind),.int .i64 (d.Sub.A),.int .i64 (d.Sub.Pc),.int .i64 (d.Sub.E),.int .i64 (d.Sub.Row),.int .i64 (d.Sub.B),.int .i64 (d.Sub.H),.int .i64 (d.Sub.Out),.int .i64 (d.Sub.Code),.bool (d.Sub.cO),.int .i64 (d.H),.int .i64 (d.Old),.int .i64 (d.dV),.int .i64 (d.Code)],rfl,rfl,⟨[.int .i64 (d.Sub.Kind),.int .i64 (d.Sub.A),.int .i64 (d.Sub.Pc),.int .i64 (d.Sub.E),.int .i64 (d.Sub.Row),.int .i64 (d.Sub.B),.int .i64 (d.Sub.H),.int .i64 (d.Sub.Out),.int .i64 (d.Sub.Code),.bool (d.Sub.cO)],[.int .i64 (d.H),.int .i64 (d.Old),.int .i64 (d.dV),.int .i64 (d.Code)],rfl,(aS3 _),⟨[.int .i64 (d.H)],[.int .i64 (d.Old),.int .i64 (d.dV),.int .i64 (d.Code)],rfl,rfl,⟨[.int .i64 (d.Old)],[.int .i64 (d.dV),.int .i64 (d.Code)],rfl,rfl,⟨[.int .i64 (d.dV)],[.int .i64 (d.Code)],rfl,rfl,rfl⟩⟩⟩⟩⟩⟩⟩⟩
instance:Flat bA:=⟨fun h=>Flat.own_of (α:=Bool×dB×Int×Int×Sub×Int×Int×Int×Int) h,fun h=>Flat.no (α:=Bool×dB×Int×Int×Sub×Int×Int×Int×Int) h⟩
theorem aZE(d:bA):OP [.bool (d.cN),.int .i64 (d.Op.Kind),.int .i64 (d.Op.Cell),.int .i64 (d.Op.gX),.int .i64 (d.Op.dV),.int .i64 (d.aI),.int .i64 (d.Pc),.int .i64 (d.Sub.Kind),.int .i64 (d.Sub.A),.int .i64 (d.Sub.Pc),.int .i64 (d.Sub.E),.int .i64 (d.Sub.Row),.int .i64 (d.Sub.B),.int .i64 (d.Sub.H),.int .i64 (d.Sub.Out),.int .i64 (d.Sub.Code),.bool (d.Sub.cO),.int .i64 (d.H),.int .i64 (d.Old),.int .i64 (d.dV),.int .i64 (d.Code)] d []:=(show OP (α:=Bool×dB×Int×Int×Sub×Int×Int×Int×Int) _ (d.cN,d.Op,d.aI,d.Pc,d.Sub,d.H,d.Old,d.dV,d.Code) _ from (kD (c1:=[.bool (d.cN)]) (c2:=[.int .i64 (d.Op.Kind),.int .i64 (d.Op.Cell),.int .i64 (d.Op.gX),.int .i64 (d.Op.dV),.int .i64 (d.aI),.int .i64 (d.Pc),.int .i64 (d.Sub.Kind),.int .i64 (d.Sub.A),.int .i64 (d.Sub.Pc),.int .i64 (d.Sub.E),.int .i64 (d.Sub.Row),.int .i64 (d.Sub.B),.int .i64 (d.Sub.H),.int .i64 (d.Sub.Out),.int .i64 (d.Sub.Code),.bool (d.Sub.cO),.int .i64 (d.H),.int .i64 (d.Old),.int .i64 (d.dV),.int .i64 (d.Code)]) (A:=[]) (B:=[]) (gQ rfl) (kD (c1:=[.int .i64 (d.Op.Kind),.int .i64 (d.Op.Cell),.int .i64 (d.Op.gX),.int .i64 (d.Op.dV)]) (c2:=[.int .i64 (d.aI),.int .i64 (d.Pc),.int .i64 (d.Sub.Kind),.int .i64 (d.Sub.A),.int .i64 (d.Sub.Pc),.int .i64 (d.Sub.E),.int .i64 (d.Sub.Row),.int .i64 (d.Sub.B),.int .i64 (d.Sub.H),.int .i64 (d.Sub.Out),.int .i64 (d.Sub.Code),.bool (d.Sub.cO),.int .i64 (d.H),.int .i64 (d.Old),.int .i64 (d.dV),.int .i64 (d.Code)]) (A:=[]) (B:=[]) (gQ (aHV _)) (kD (c1:=[.int .i64 (d.aI)]) (c2:=[.int .i64 (d.Pc),.int .i64 (d.Sub.Kind),.int .i64 (d.Sub.A),.int .i64 (d.Sub.Pc),.int .i64 (d.Sub.E),.int .i64 (d.Sub.Row),.int .i64 (d.Sub.B),.int .i64 (d.Sub.H),.int .i64 (d.Sub.Out),.int .i64 (d.Sub.Code),.bool (d.Sub.cO),.int .i64 (d.H),.int .i64 (d.Old),.int .i64 (d.dV),.int .i64 (d.Code)]) (A:=[]) (B:=[]) (gQ rfl) (kD (c1:=[.int .i64 (d.Pc)]) (c2:=[.int .i64 (d.Sub.Kind),.int .i64 (d.Sub.A),.int .i64 (d.Sub.Pc),.int .i64 (d.Sub.E),.int .i64 (d.Sub.Row),.int .i64 (d.Sub.B),.int .i64 (d.Sub.H),.int .i64 (d.Sub.Out),.int .i64 (d.Sub.Code),.bool (d.Sub.cO),.int .i64 (d.H),.int .i64 (d.Old),.int .i64 (d.dV),.int .i64 (d.Code)]) (A:=[]) (B:=[]) (gQ rfl) (kD (c1:=[.int .i64 (d.Sub.Kind),.int .i64 (d.Sub.A),.int .i64 (d.Sub.Pc),.int .i64 (d.Sub.E),.int .i64 (d.Sub.Row),.int .i64 (d.Sub.B),.int .i64 (d.Sub.H),.int .i64 (d.Sub.Out),.int .i64 (d.Sub.Code),.bool (d.Sub.cO)]) (c2:=[.int .i64 (d.H),.int .i64 (d.Old),.int .i64 (d.dV),.int .i64 (d.Code)]) (A:=[]) (B:=[]) (gQ (aS3 _)) (kD (c1:=[.int .i64 (d.H)]) (c2:=[.int .i64 (d.Old),.int .i64 (d.dV),.int .i64 (d.Code)]) (A:=[]) (B:=[]) (gQ rfl) (kD (c1:=[.int .i64 (d.Old)]) (c2:=[.int .i64 (d.dV),.int .i64 (d.Code)]) (A:=[]) (B:=[]) (gQ rfl) (kD (c1:=[.int .i64 (d.dV)]) (c2:=[.int .i64 (d.Code)]) (A:=[]) (B:=[]) (gQ rfl) (gQ rfl) rfl) rfl) rfl) rfl) rfl) rfl) rfl) rfl))
structure Queue where
 iC:List dB
 deriving DecidableEq,Inhabited
instance:aM Queue:=aM.via (fun d=>(d.iC))
instance:Fits Queue:=Fits.via (fun d=>(d.iC))
theorem aS4{S:cT}{w:World}{cs:List Value}{d:Queue}(h:aM.rd S w cs d):∃v0:Value,cs=[v0]/\aM.rd S w [v0] d.iC:=by
 obtain⟨u0,q0⟩:=J6 h
 rw [q0] at h
 exact⟨u0,q0,h⟩
theorem aS5(d:Queue){v0:Value}:OP [v0] d [gN [v0] d.iC]:=(show OP (α:=(List dB)) _ (d.iC) _ from aLB)
structure Ev where
 Kind:Int
 Who:Int
 aI:Int
 Cell:Int
 Handle:Int
 dV:Int
 Code:Int
 deriving DecidableEq,Inhabited
instance:aM Ev:=aM.via (fun d=>(d.Kind,d.Who,d.aI,d.Cell,d.Handle,d.dV,d.Code))
instance:Fits Ev:=Fits.via (fun d=>(d.Kind,d.Who,d.aI,d.Cell,d.Handle,d.dV,d.Code))
theorem a1K{S:cT}{w:World}{cs:List Value}{d:Ev}(h:aM.rd S w cs d):cs=[.int .i64 (d.Kind),.int .i64 (d.Who),.int .i64 (d.aI),.int .i64 (d.Cell),.int .i64 (d.Handle),.int .i64 (d.dV),.int .i64 (d.Code)]:=by
 obtain⟨c0,r0,e0,h0,n0⟩:=h
 have q0:c0=[_]:=h0
 obtain⟨c1,r1,e1,h1,n1⟩:=n0
 have q1:c1=[_]:=h1
 obtain⟨c2,r2,e2,h2,n2⟩:=n1
 have q2:c2=[_]:=h2
 obtain⟨c3,r3,e3,h3,n3⟩:=n2
 have q3:c3=[_]:=h3
 obtain⟨c4,r4,e4,h4,n4⟩:=n3
 have q4:c4=[_]:=h4
 obtain⟨c5,r5,e5,h5,n5⟩:=n4
 have q5:c5=[_]:=h5
 have q6:r5=[_]:=n5
 exact by rw [e0,e1,e2,e3,e4,e5,q0,q1,q2,q3,q4,q5,q6];rfl
instance:Flat Ev:=⟨fun h=>Flat.own_of (α:=Int×Int×Int×Int×Int×Int×Int) h,fun h=>Flat.no (α:=Int×Int×Int×Int×Int×Int×Int) h⟩
theorem a1L(d:Ev):OP [.int .i64 (d.Kind),.int .i64 (d.Who),.int .i64 (d.aI),.int .i64 (d.Cell),.int .i64 (d.Handle),.int .i64 (d.dV),.int .i64 (d.Code)] d []:=(show OP (α:=Int×Int×Int×Int×Int×Int×Int) _ (d.Kind,d.Who,d.aI,d.Cell,d.Handle,d.dV,d.Code) _ from (kD (c1:=[.int .i64 (d.Kind)]) (c2:=[.int .i64 (d.Who),.int .i64 (d.aI),.int .i64 (d.Cell),.int .i64 (d.Handle),.int .i64 (d.dV),.int .i64 (d.Code)]) (A:=[]) (B:=[]) (gQ rfl) (kD (c1:=[.int .i64 (d.Who)]) (c2:=[.int .i64 (d.aI),.int .i64 (d.Cell),.int .i64 (d.Handle),.int .i64 (d.dV),.int .i64 (d.Code)]) (A:=[]) (B:=[]) (gQ rfl) (kD (c1:=[.int .i64 (d.aI)]) (c2:=[.int .i64 (d.Cell),.int .i64 (d.Handle),.int .i64 (d.dV),.int .i64 (d.Code)]) (A:=[]) (B:=[]) (gQ rfl) (kD (c1:=[.int .i64 (d.Cell)]) (c2:=[.int .i64 (d.Handle),.int .i64 (d.dV),.int .i64 (d.Code)]) (A:=[]) (B:=[]) (gQ rfl) (kD (c1:=[.int .i64 (d.Handle)]) (c2:=[.int .i64 (d.dV),.int .i64 (d.Code)]) (A:=[]) (B:=[]) (gQ rfl) (kD (c1:=[.int .i64 (d.dV)]) (c2:=[.int .i64 (d.Code)]) (A:=[]) (B:=[]) (gQ rfl) (gQ rfl) rfl) rfl) rfl) rfl) rfl) rfl))
structure aD where
 aA:aA
 Cells:List Int
 aU:List bA
 bK:List Queue
 Log:List Ev
 aI:Int
 deriving DecidableEq,Inhabited
instance:aM aD:=aM.via (fun d=>(d.aA,d.Cells,d.aU,d.bK,d.Log,d.aI))
instance:Fits aD:=Fits.via (fun d=>(d.aA,d.Cells,d.aU,d.bK,d.Log,d.aI))
structure Span where
 aS6:Int
 To:Int
 deriving DecidableEq,Inhabited
instance:aM Span:=aM.via (fun d=>(d.aS6,d.To))
instance:Fits Span:=Fits.via (fun d=>(d.aS6,d.To))
instance:Flat Span:=⟨fun h=>Flat.own_of (α:=Int×Int) h,fun h=>Flat.no (α:=Int×Int) h⟩
structure dZ where
 b:List UInt8
 i:Int
 h:Int
 deriving DecidableEq,Inhabited
instance:aM dZ:=aM.via (fun d=>(d.b,d.i,d.h))
instance:Fits dZ:=Fits.via (fun d=>(d.b,d.i,d.h))
structure Reader where
 left:aOS
 bad:Bool
 deriving DecidableEq,Inhabited
instance:aM Reader:=aM.via (fun d=>(d.left,d.bad))
instance:Fits Reader:=Fits.via (fun d=>(d.left,d.bad))
instance:Flat Reader:=⟨fun h=>Flat.own_of (α:=aOS×Bool) h,fun h=>Flat.no (α:=aOS×Bool) h⟩
structure GK where
 bK:List Queue
 uC:List Int
 deriving DecidableEq,Inhabited
instance:aM GK:=aM.via (fun d=>(d.bK,d.uC))
instance:Fits GK:=Fits.via (fun d=>(d.bK,d.uC))
end Go.Gv
end
noncomputable section
namespace Go.Gv
noncomputable section
def aBZ(code:List UInt8):Option Bool:=
 some (decide (1048576 < (code.length:Int)))
def GL(s:List dB):Option (List dB):=
 need (([]:List dB).length+s.length<=1073741824) (some (([]:List dB)++s))
def W0(x5:List Queue):Option (List Queue):=
 some x5
def D5(todo:List Queue):((List Queue)×Int)->Option (Step ((List Queue)×Int) (List Queue))
 | (x3,x4)=>(if decide (x4 < (todo.length:Int)) then (idx todo x4).bind fun x6=>(GL x6.iC).bind fun x7=>need (x3.length+([(⟨x7⟩:Queue)]).length<=1073741824) (some (.next (x3++([(⟨x7⟩:Queue)]),bG (x4+1)))) else some (.stop (x3)))
def W1:(List Queue)->Option (List Queue)
 | x5=>W0 x5
def xX(todo:List Queue):Option (List Queue):=
 (loop (D5 todo) (([]:List Queue),0)).bind (W1)
def fP(s:List Int):Option (List Int):=
 need (([]:List Int).length+s.length<=1073741824) (some (([]:List Int)++s))
def tB(h:aE):Option aE:=
 (fP h.Bytes).bind fun x1=>(fP h.Class).bind fun x2=>some (⟨x1,x2⟩:aE)
def U2(x5 x10:List aP):Option aC:=
 some (⟨x5,x10⟩:aC)
def BM(x8:Int)(x12:List aP):Option (Step (Int×(List aP)) (List aP)):=
 some (.next (bG (x8+1),x12))
def BN(l:aC):(Int×(List aP))->Option (Step (Int×(List aP)) (List aP))
 | (x8,x9)=>(if decide (x8 < (l.cL.length:Int)) then (idx l.cL x8).bind fun x11=>(fP x11.aS).bind fun x13=>need (x9.length+([(⟨x13⟩:aP)]).length<=1073741824)<|BM x8 (x9++([(⟨x13⟩:aP)])) else some (.stop (x9)))
def U3(x5:List aP):(List aP)->Option aC
 | x10=>U2 x5 x10
def J8(l:aC)(x5:List aP):Option aC:=
 (loop (BN l) (0,[])).bind (U3 x5)
def BO(x3:Int)(x15:List aP):Option (Step (Int×(List aP)) (List aP)):=
 some (.next (bG (x3+1),x15))
def BP(l:aC):(Int×(List aP))->Option (Step (Int×(List aP)) (List aP))
 | (x3,x4)=>(if decide (x3 < (l.Global.length:Int)) then (idx l.Global x3).bind fun x14=>(fP x14.aS).bind fun x16=>need (x4.length+([(⟨x16⟩:aP)]).length<=1073741824)<|BO x3 (x4++([(⟨x16⟩:aP)])) else some (.stop (x4)))
def J9(l:aC):(List aP)->Option aC
 | x5=>J8 l x5
def iO(l:aC):Option aC:=
 (loop (BP l) (0,[])).bind (J9 l)
def BQ(m:Mem):Option Mem:=
 (tB m.aE).bind fun x1=>(iO m.aC).bind fun x2=>some (⟨x1,x2⟩:Mem)
def wE(s:List oV):Option (List oV):=
 need (([]:List oV).length+s.length<=1073741824) (some (([]:List oV)++s))
def kQ(c:aB):Option aB:=
 (wE c.cG).bind fun x1=>some (⟨c.aG,x1⟩:aB)
def tY(s:List cZ):Option (List cZ):=
 need (([]:List cZ).length+s.length<=1073741824) (some (([]:List cZ)++s))
def U4(x5:List aY):Option (List aY):=
 some x5
def BR(l:List aY):((List aY)×Int)->Option (Step ((List aY)×Int) (List aY))
 | (x3,x4)=>(if decide (x4 < (l.length:Int)) then (idx l x4).bind fun x6=>(tY x6.Rows).bind fun x7=>need (x3.length+([(⟨x7⟩:aY)]).length<=1073741824) (some (.next (x3++([(⟨x7⟩:aY)]),bG (x4+1)))) else some (.stop (x3)))
def U5:(List aY)->Option (List aY)
 | x5=>U4 x5
def kR(l:List aY):Option (List aY):=
 (loop (BR l) (([]:List aY),0)).bind (U5)
def ER(b:aA):Option aA:=
 (BQ b.Mem).bind fun x1=>(kQ b.aB).bind fun x2=>(kR b.aL).bind fun x3=>(fP b.iS).bind fun x4=>some (⟨x1,x2,x3,x4⟩:aA)
def D6(s:List bA):Option (List bA):=
 need (([]:List bA).length+s.length<=1073741824) (some (([]:List bA)++s))
def GM(s:List Ev):Option (List Ev):=
 need (([]:List Ev).length+s.length<=1073741824) (some (([]:List Ev)++s))
def uK(s:aD):Option aD:=
 (ER s.aA).bind fun x1=>(fP s.Cells).bind fun x2=>(D6 s.aU).bind fun x3=>(xX s.bK).bind fun x4=>(GM s.Log).bind fun x5=>some (⟨x1,x2,x3,x4,x5,s.aI⟩:aD)
def xI:Option Int:=
 some (-1)
def j5(s:List Queue)(f:(Queue->Option Bool)):Int->Option (Step Int (Out Unit Int))
 | x2=>(if decide (x2 < (s.length:Int)) then (idx s x2).bind fun x3=>(f x3).bind fun x4=>(if x4 then some (.stop (Out.ret x2)) else some (.next (bG (x2+1)))) else some (.stop (Out.brk ())))
def nC:(Out Unit Int)->Option Int
 | .brk ()=>xI
 | .ret r=>some r
def rB(s:List Queue)(f:(Queue->Option Bool)):Option Int:=
 (loop (j5 s f) 0).bind (nC)
def iH(s:List Queue)(f:(Queue->Option Bool)):Option Bool:=
 (rB s f).bind fun x1=>some (decide (0<=x1))
def BS:Option Int:=
 some (-1)
def l5(s:List dB)(f:(dB->Option Bool)):Int->Option (Step Int (Out Unit Int))
 | x2=>(if decide (x2 < (s.length:Int)) then (idx s x2).bind fun x3=>(f x3).bind fun x4=>(if x4 then some (.stop (Out.ret x2)) else some (.next (bG (x2+1)))) else some (.stop (Out.brk ())))
def rC:(Out Unit Int)->Option Int
 | .brk ()=>BS
 | .ret r=>some r
def xO(s:List dB)(f:(dB->Option Bool)):Option Int:=
 (loop (l5 s f) 0).bind (rC)
def l6(s:List dB)(f:(dB->Option Bool)):Option Bool:=
 (xO s f).bind fun x1=>some (decide (0<=x1))
def pU(x1:Bool):Option Bool:=
 some x1
def cK(n low high:Int):Option Bool:=
 (if decide (low<=n) then pU (decide (n<=high)) else pU false)
def HD(x4:Bool):Option Bool:=
 some x4
def HE(x7:Bool):Option Bool:=
 some x7
def BT(o_:dB)(x3:Bool):Option Bool:=
 (if x3 then some false else (if o_.Kind == 1 then (cK o_.gX 0 100).bind fun x5=>(if x5 then (cK o_.dV 0 65535).bind fun x6=>HD x6 else HD false) else (if o_.gX == 0 then HE (o_.dV == 0) else HE false)))
def nX(o_:dB)(x1:Bool):Option Bool:=
 (cK o_.Kind 1 7).bind fun x2=>(if !x2 then some false else (if x1 then (cK o_.Cell 0 1).bind fun x8=>(if !x8 then BT o_ true else BT o_ false) else BT o_ (o_.Cell != 0)))
def IJ(o_:dB):Option Bool:=
 (if o_.Kind == 1 then nX o_ true else (if o_.Kind == 2 then nX o_ true else (if o_.Kind == 3 then nX o_ true else nX o_ (o_.Kind == 7))))
def zQ(o_:dB):Option Bool:=
 (IJ o_).bind fun x1=>some (!x1)
def wF(x1:Bool):Option Bool:=
 some x1
def ES(q:Queue):Option Bool:=
 (if decide (12 < (q.iC.length:Int)) then wF true else (l6 q.iC (fun y0=>zQ y0)).bind fun x2=>wF x2)
def BU(x1:Bool):Option Bool:=
 some x1
def FQ(todo:List Queue):Option Bool:=
 (if (todo.length:Int) == 3 then (iH todo (fun y0=>ES y0)).bind fun x2=>BU (!x2) else BU false)
def A5:Option Int:=
 some (-1)
def iZ(s:List Int)(f:(Int->Option Bool)):Int->Option (Step Int (Out Unit Int))
 | x2=>(if decide (x2 < (s.length:Int)) then (idx s x2).bind fun x3=>(f x3).bind fun x4=>(if x4 then some (.stop (Out.ret x2)) else some (.next (bG (x2+1)))) else some (.stop (Out.brk ())))
def pW:(Out Unit Int)->Option Int
 | .brk ()=>A5
 | .ret r=>some r
def uL(s:List Int)(f:(Int->Option Bool)):Option Int:=
 (loop (iZ s f) 0).bind (pW)
def eO(s:List Int)(f:(Int->Option Bool)):Option Bool:=
 (uL s f).bind fun x1=>some (decide (0<=x1))
def P7(x:Int):Option Bool:=
 (cK x 0 255).bind fun x1=>some x1
def BV(x:Int):Option Bool:=
 (P7 x).bind fun x1=>some (!x1)
def zR(x1:Bool):Option Bool:=
 some x1
def HF(b:List Int):Option Bool:=
 (if decide ((b.length:Int)<=1000) then (eO b (fun y0=>BV y0)).bind fun x2=>zR (!x2) else zR false)
def ET(c:Int):Option Bool:=
 (cK c (-1) 2).bind fun x1=>some (!x1)
def pX(x1:Bool):Option Bool:=
 some x1
def FR(h:aE):Option Bool:=
 (if (h.Bytes.length:Int) == 384 then (HF h.Bytes).bind fun x2=>(if x2 then (if (h.Class.length:Int) == 6 then (eO h.Class (fun y0=>ET y0)).bind fun x3=>pX (!x3) else pX false) else pX false) else pX false)
def YR(x5:Int):Option Int:=
 some x5
def sC(b:List Int)(at_ width:Int):(Int×Int)->Option (Step (Int×Int) Int)
 | (x3,x4)=>(if decide (x4 < (((b.take ((bG (at_+width)).toNat)).drop at_.toNat).length:Int)) then (idx ((b.take ((bG (at_+width)).toNat)).drop at_.toNat) x4).bind fun x6=>some (.next (bG ((bG (256 * x3))+x6),bG (x4+1))) else some (.stop (x3)))
def YS:Int->Option Int
 | x5=>YR x5
def l7(b:List Int)(at_ width:Int):Option Int:=
 need (0<=(at_:Int)/\(at_:Int)<=(bG (at_+width):Int)/\(bG (at_+width):Int)<=(b.length:Int)) ((loop (sC b at_ width) (0,0)).bind (YS))
def EU(x:Int):Option Bool:=
 some (x != 0)
def FT(b:List Int):Option Bool:=
 (eO b (fun y0=>EU y0)).bind fun x1=>some (!x1)
def kE(c:Int):Option Bool:=
 (cK c 0 2).bind fun x1=>some x1
def A6(c:Int):Option Int:=
 (kE c).bind fun x1=>(if !x1 then some 0 else (idx ([8,16,40]:List Int) c).bind fun x2=>some x2)
def tC(c:Int):Option Int:=
 (kE c).bind fun x1=>(if !x1 then some 0 else (A6 c).bind fun x2=>some (bG (4+x2)))
def nY(c:Int):Option Int:=
 (kE c).bind fun x1=>(if !x1 then some 0 else (tC c).bind fun x2=>need (x2≠0) (some (bG (Int.tdiv 56 x2))))
def aB0:Option Bool:=
 some true
def pY(h:aE)(page x1 x4:Int):Int->Option (Step Int (Out Unit Bool))
 | x6=>(if decide (x6 < x4) then (tC x1).bind fun x7=>(l7 ((h.Bytes.take ((bG ((bG (page+1)) * 64)).toNat)).drop ((bG (page * 64)).toNat)) (bG (8+(bG (x6 * x7)))) 4).bind fun x8=>(cK x8 1 7).bind fun x9=>(if !x9 then some (.stop (Out.ret false)) else some (.next (bG (x6+1)))) else some (.stop (Out.brk ())))
def aB1:(Out Unit Bool)->Option Bool
 | .brk ()=>aB0
 | .ret r=>some r
def jL(h:aE)(page x1:Int)(x3:Bool):Option Bool:=
 (if x3 then some false else (nY x1).bind fun x4=>(loop (pY h page x1 x4) 0).bind (aB1))
def KA(h:aE)(page:Int):Option Bool:=
 (idx h.Class page).bind fun x1=>need (0<=(bG (page * 64):Int)/\(bG (page * 64):Int)<=(bG ((bG (page+1)) * 64):Int)/\(bG ((bG (page+1)) * 64):Int)<=(h.Bytes.length:Int)) ((if decide (x1 < 0) then (FT ((h.Bytes.take ((bG ((bG (page+1)) * 64)).toNat)).drop ((bG (page * 64)).toNat))).bind fun x2=>some x2 else (idx ((h.Bytes.take ((bG ((bG (page+1)) * 64)).toNat)).drop ((bG (page * 64)).toNat)) 0).bind fun x10=>(if x10 != 171 then jL h page x1 true else (idx ((h.Bytes.take ((bG ((bG (page+1)) * 64)).toNat)).drop ((bG (page * 64)).toNat)) 1).bind fun x11=>(if x11 != x1 then jL h page x1 true else (idx ((h.Bytes.take ((bG ((bG (page+1)) * 64)).toNat)).drop ((bG (page * 64)).toNat)) 2).bind fun x12=>(nY x1).bind fun x13=>(if x12 != x13 then jL h page x1 true else need (0<=(3:Int)/\(3:Int)<=(8:Int)/\(8:Int)<=(((h.Bytes.take ((bG ((bG (page+1)) * 64)).toNat)).drop ((bG (page * 64)).toNat)).length:Int)) ((FT ((((h.Bytes.take ((bG ((bG (page+1)) * 64)).toNat)).drop ((bG (page * 64)).toNat)).take ((8:Int).toNat)).drop ((3:Int).toNat))).bind fun x14=>jL h page x1 (!x14)))))))
def aB2:Option Bool:=
 some true
def uM(h:aE):Int->Option (Step Int (Out Unit Bool))
 | x3=>(if decide (x3 < 6) then (KA h x3).bind fun x4=>(if !x4 then some (.stop (Out.ret false)) else some (.next (bG (x3+1)))) else some (.stop (Out.brk ())))
def aB3:(Out Unit Bool)->Option Bool
 | .brk ()=>aB2
 | .ret r=>some r
def FU(h:aE):Option Bool:=
 (FR h).bind fun x1=>(if !x1 then some false else (loop (uM h) 0).bind (aB3))
def mG(slot:Int):Option Bool:=
 (cK slot 0 23).bind fun x1=>some x1
def rD(x10:List Raw):Option (List Raw):=
 some x10
def iE(slices:List (List Raw)):((List Raw)×Int)->Option (Step ((List Raw)×Int) (List Raw))
 | (x8,x9)=>(if decide (x9 < (slices.length:Int)) then (idx slices x9).bind fun x11=>need (x8.length+x11.length<=1073741824) (some (.next (x8++x11,bG (x9+1)))) else some (.stop (x8)))
def NR:(List Raw)->Option (List Raw)
 | x10=>rD x10
def l8(slices:List (List Raw))(x5:Int):Option (List Raw):=
 need (0<=x5/\x5<=1073741824) ((loop (iE slices) ([],0)).bind (NR))
def gA(slices:List (List Raw)):(Int×Int)->Option (Step (Int×Int) Int)
 | (x3,x4)=>(if decide (x4 < (slices.length:Int)) then (idx slices x4).bind fun x12=>(if decide ((bG (x3+(x12.length:Int))) < 0) then none else some (.next (bG (x3+(x12.length:Int)),bG (x4+1)))) else some (.stop (x3)))
def BW(slices:List (List Raw)):Int->Option (List Raw)
 | x5=>l8 slices x5
def pE(slices:List (List Raw)):Option (List Raw):=
 (loop (gA slices) (0,0)).bind (BW slices)
theorem JY{u1 u2:List Raw}(h:u1.length+u2.length<=1073741824):loop (gA [u1,u2]) (0,0)=some ((u1.length+u2.length:Nat):Int):=by
 have e1:bG (u1.length:Int)=u1.length:=IS (by omega)
 have e2:bG ((u1.length:Int)+(u2.length:Int))=((u1.length+u2.length:Nat):Int):=by rw [IS (by omega)];rfl
 have e3:bG (0+1)=1:=IS (by omega)
 have e4:bG 2=2:=IS (by omega)
 have n1:¬(u1.length:Int) < 0:=by omega
 have n2:¬((u1.length+u2.length:Nat):Int) < 0:=by omega
 rw [bW (s':=((u1.length:Int),1)) ?_,bW (s':=(((u1.length+u2.length:Nat):Int),2)) ?_,bS (r:=((u1.length+u2.length:Nat):Int)) ?_]
 ·simp [gA]
 ·simp [gA,idx,e2,e4]
  omega
 ·simp [gA,idx,e1,n1]
  exact e3
theorem MI{u1 u2:List Raw}{n1 n2:Nat}(hl:u1.length=n1/\u2.length=n2)(h:n1+n2<=1073741824):pE [u1,u2]=some (u1++u2):=by
 obtain⟨rfl,rfl⟩:=hl
 have e3:bG (0+1)=1:=IS (by omega)
 have e4:bG 2=2:=IS (by omega)
 unfold pE
 rw [JY h]
 simp only [aK,BW,l8]
 rw [aQ (by omega),bW (s':=(u1,1)) ?_,bW (s':=(u1++u2,2)) ?_,bS (r:=u1++u2) ?_]
 ·rfl
 ·simp [iE]
 ·simp [iE,idx,e4,aQ h]
 ·have h1:u1.length<=1073741824:=by omega
  simp [iE,idx,aQ h1]
  exact e3
def GN:Option Bool:=
 some true
def zT(x4:Int)(x12:List Bool):Option (Step (Int×(List Bool)) (Out Unit Bool)):=
 some (.next (bG (x4+1),x12))
def nF(x10:Int)(x11:List Bool)(x13:Int)(x14:Bool):Option (Step (Int×(List Bool)) (Out (List Bool) Bool)):=
 (if x14 then some (.stop (Out.ret false)) else need (0<=(x13:Int)/\(x13:Int) < 24) ((idx (x11:List Bool) x13).bind fun x15=>some (.next (bG (x10+1),x11.set (x13.toNat) true))))
def lL(x6:aP):(Int×(List Bool))->Option (Step (Int×(List Bool)) (Out (List Bool) Bool))
 | (x10,x11)=>(if decide (x10 < (x6.aS.length:Int)) then (idx x6.aS x10).bind fun x13=>(mG x13).bind fun x16=>(if !x16 then nF x10 x11 x13 true else need (0<=(x13:Int)/\(x13:Int) < 24) ((idx (x11:List Bool) x13).bind fun x17=>nF x10 x11 x13 x17)) else some (.stop (Out.brk x11)))
def OU(x4:Int):(Out (List Bool) Bool)->Option (Step (Int×(List Bool)) (Out Unit Bool))
 | .brk x12=>zT x4 x12
 | .ret r=>some (.stop (Out.ret r))
def lM(x4:Int)(x5:List Bool)(x6:aP)(x7:Bool):Option (Step (Int×(List Bool)) (Out Unit Bool)):=
 (if x7 then some (.stop (Out.ret false)) else (loop (lL x6) (0,x5)).bind (OU x4))
def lN(l:aC):(Int×(List Bool))->Option (Step (Int×(List Bool)) (Out Unit Bool))
 | (x4,x5)=>(if decide (x4 < ((l.cL++l.Global).length:Int)) then (idx (l.cL++l.Global) x4).bind fun x6=>(if decide (x4 < (l.cL.length:Int)) then lM x4 x5 x6 (decide (2 < (x6.aS.length:Int))) else lM x4 x5 x6 false) else some (.stop (Out.brk ())))
def YT:(Out Unit Bool)->Option Bool
 | .brk ()=>GN
 | .ret r=>some r
def sD(l:aC)(x1:Bool):Option Bool:=
 (if x1 then some false else need (l.cL.length+l.Global.length<=1073741824) ((loop (lN l) (0,[false,false,false,false,false,false,false,false,false,false,false,false,false,false,false,false,false,false,false,false,false,false,false,false])).bind (YT)))
def kG(l:aC):Option Bool:=
 (if (l.Global.length:Int) != 3 then sD l true else sD l ((l.cL.length:Int) != 9))
def xY(slot c:Int)(x1:Bool):Option Int:=
 (if x1 then some (-1) else (tC c).bind fun x2=>some (bG ((bG ((bG ((bG (Int.tdiv slot 4)) * 64))+8))+(bG ((Int.tmod slot 4) * x2)))))
def uN(slot c:Int):Option Int:=
 (mG slot).bind fun x3=>(if !x3 then xY slot c true else (kE c).bind fun x4=>(if !x4 then xY slot c true else (nY c).bind fun x5=>xY slot c (decide (x5<=(Int.tmod slot 4)))))
def zU(h:aE)(slot:Int)(x1:Bool):Option Int:=
 (if x1 then some (-1) else (idx h.Class (bG (Int.tdiv slot 4))).bind fun x2=>some x2)
def nZ(h:aE)(slot:Int):Option Int:=
 (mG slot).bind fun x3=>(if !x3 then zU h slot true else (idx h.Class (bG (Int.tdiv slot 4))).bind fun x4=>(uN slot x4).bind fun x5=>zU h slot (decide (x5 < 0)))
def rF(h:aE)(slot:Int):Option Int:=
 (FR h).bind fun x1=>(if !x1 then some (-1) else (nZ h slot).bind fun x2=>some x2)
def AR(h:aE)(slot:Int):Option Int:=
 (rF h slot).bind fun x1=>(if decide (x1 < 0) then some 0 else (uN slot x1).bind fun x2=>(l7 h.Bytes x2 4).bind fun x3=>some x3)
def W2:Option Bool:=
 some true
def wG(x2:Int)(x4:Bool):Option (Step Int (Out Unit Bool)):=
 (if x4 then some (.stop (Out.ret false)) else some (.next (bG (x2+1))))
def mL(h:aE)(s:aP)(c:Int):Int->Option (Step Int (Out Unit Bool))
 | x2=>(if decide (x2 < (s.aS.length:Int)) then (idx s.aS x2).bind fun x3=>(nZ h x3).bind fun x5=>(if x5 != c then wG x2 true else (AR h x3).bind fun x6=>wG x2 (decide (6 < x6))) else some (.stop (Out.brk ())))
def W3:(Out Unit Bool)->Option Bool
 | .brk ()=>W2
 | .ret r=>some r
def xZ(h:aE)(s:aP)(c:Int):Option Bool:=
 (loop (mL h s c) 0).bind (W3)
def aEP:Option Bool:=
 some true
def tD(m:Mem):Int->Option (Step Int (Out Unit Bool))
 | x5=>(if decide (x5 < (m.aC.cL.length:Int)) then (idx m.aC.cL x5).bind fun x6=>(xZ m.aE x6 (Int.tmod x5 3)).bind fun x7=>(if !x7 then some (.stop (Out.ret false)) else some (.next (bG (x5+1)))) else some (.stop (Out.brk ())))
def aEQ:(Out Unit Bool)->Option Bool
 | .brk ()=>aEP
 | .ret r=>some r
def SW(m:Mem):Option Bool:=
 (loop (tD m) 0).bind (aEQ)
def tE(m:Mem):Int->Option (Step Int (Out Unit Bool))
 | x3=>(if decide (x3 < (m.aC.Global.length:Int)) then (idx m.aC.Global x3).bind fun x8=>(xZ m.aE x8 x3).bind fun x9=>(if !x9 then some (.stop (Out.ret false)) else some (.next (bG (x3+1)))) else some (.stop (Out.brk ())))
def SX(m:Mem):(Out Unit Bool)->Option Bool
 | .brk ()=>SW m
 | .ret r=>some r
def EV(m:Mem)(x1:Bool):Option Bool:=
 (if x1 then some false else (loop (tE m) 0).bind (SX m))
def IU(m:Mem):Option Bool:=
 (FU m.aE).bind fun x10=>(if !x10 then EV m true else (kG m.aC).bind fun x11=>EV m (!x11))
def A7:Option Int:=
 some (-1)
def i5(s:List oV)(f:(oV->Option Bool)):Int->Option (Step Int (Out Unit Int))
 | x2=>(if decide (x2 < (s.length:Int)) then (idx s x2).bind fun x3=>(f x3).bind fun x4=>(if x4 then some (.stop (Out.ret x2)) else some (.next (bG (x2+1)))) else some (.stop (Out.brk ())))
def pZ:(Out Unit Int)->Option Int
 | .brk ()=>A7
 | .ret r=>some r
def uO(s:List oV)(f:(oV->Option Bool)):Option Int:=
 (loop (i5 s f) 0).bind (pZ)
def lA(s:List oV)(f:(oV->Option Bool)):Option Bool:=
 (uO s f).bind fun x1=>some (decide (0<=x1))
def lB(x1:Bool):Option Bool:=
 some x1
def uP(p:oV)(k0:aB):Option Bool:=
 (cK p.aG 0 k0.aG).bind fun x2=>(if !x2 then lB true else (cK p.Seen 0 2).bind fun x3=>(if !x3 then lB true else (if !p.On then lB (!(decide (p=(⟨false,0,false,0⟩:oV)))) else lB false)))
def sG(x1:Bool):Option Bool:=
 some x1
def oA(c:aB):Option Bool:=
 (cK c.aG 0 100000).bind fun x2=>(if x2 then (if (c.cG.length:Int) == 3 then (lA c.cG (fun y0=>uP y0 c)).bind fun x3=>sG (!x3) else sG false) else sG false)
def mM(x1:Bool):Option Bool:=
 some x1
def hQ(h:Int):Option Bool:=
 (cK h 32 223).bind fun x2=>(if x2 then mM (decide ((Int.tmod h 32) < 24)) else mM false)
def BX(x5:Int):Option Int:=
 some x5
def jM(l:List aY):(Int×Int)->Option (Step (Int×Int) Int)
 | (x3,x4)=>(if decide (x4 < (l.length:Int)) then (idx l x4).bind fun x6=>some (.next (bG (x3+(x6.Rows.length:Int)),bG (x4+1))) else some (.stop (x3)))
def U6:Int->Option Int
 | x5=>BX x5
def uQ(l:List aY):Option Int:=
 (loop (jM l) (0,0)).bind (U6)
def zV(l:List aY):Option Bool:=
 (uQ l).bind fun x5=>some (decide (x5<=24))
def zW(x3:Int)(x11:List Bool):Option (Step (Int×(List Bool)) (Out Unit Bool)):=
 some (.next (bG (x3+1),x11))
def jW(x9:Int)(x10:List Bool)(x12:cZ)(x13:Bool):Option (Step (Int×(List Bool)) (Out (List Bool) Bool)):=
 (if x13 then some (.stop (Out.ret false)) else need (0<=(Int.tmod x12.Handle 32:Int)/\(Int.tmod x12.Handle 32:Int) < 24) ((idx (x10:List Bool) (Int.tmod x12.Handle 32)).bind fun x14=>some (.next (bG (x9+1),x10.set ((Int.tmod x12.Handle 32).toNat) true))))
def lO(x6:aY):(Int×(List Bool))->Option (Step (Int×(List Bool)) (Out (List Bool) Bool))
 | (x9,x10)=>(if decide (x9 < (x6.Rows.length:Int)) then (idx x6.Rows x9).bind fun x12=>(hQ x12.Handle).bind fun x15=>(if !x15 then jW x9 x10 x12 true else (cK x12.aG 0 100000).bind fun x16=>(if !x16 then jW x9 x10 x12 true else need (0<=(Int.tmod x12.Handle 32:Int)/\(Int.tmod x12.Handle 32:Int) < 24) ((idx (x10:List Bool) (Int.tmod x12.Handle 32)).bind fun x17=>jW x9 x10 x12 x17))) else some (.stop (Out.brk x10)))
def OV(x3:Int):(Out (List Bool) Bool)->Option (Step (Int×(List Bool)) (Out Unit Bool))
 | .brk x11=>zW x3 x11
 | .ret r=>some (.stop (Out.ret r))
def lP(l:List aY):(Int×(List Bool))->Option (Step (Int×(List Bool)) (Out Unit Bool))
 | (x3,x4)=>(if decide (x3 < (l.length:Int)) then (idx l x3).bind fun x6=>(loop (lO x6) (0,x4)).bind (OV x3) else some (.stop (Out.brk ())))
def OW(l:List aY):(Out Unit Bool)->Option Bool
 | .brk ()=>zV l
 | .ret r=>some r
def l9(l:List aY):Option Bool:=
 (if (l.length:Int) != 3 then some false else (loop (lP l) (0,[false,false,false,false,false,false,false,false,false,false,false,false,false,false,false,false,false,false,false,false,false,false,false,false])).bind (OW l))
def uR(x1:Bool):Option Bool:=
 some x1
def qX(h:Int):Option Bool:=
 (if h == 0 then uR true else (hQ h).bind fun x2=>uR x2)
def HH(h:Int):Option Bool:=
 (qX h).bind fun x1=>some (!x1)
def EW(x1:Bool):Option Bool:=
 some x1
def D7(z:List Int):Option Bool:=
 (if (z.length:Int) == 3 then (eO z (fun y0=>HH y0)).bind fun x2=>EW (!x2) else EW false)
def xJ:Option Int:=
 some (-1)
def j6(s:List aY)(f:(aY->Option Bool)):Int->Option (Step Int (Out Unit Int))
 | x2=>(if decide (x2 < (s.length:Int)) then (idx s x2).bind fun x3=>(f x3).bind fun x4=>(if x4 then some (.stop (Out.ret x2)) else some (.next (bG (x2+1)))) else some (.stop (Out.brk ())))
def nD:(Out Unit Int)->Option Int
 | .brk ()=>xJ
 | .ret r=>some r
def rG(s:List aY)(f:(aY->Option Bool)):Option Int:=
 (loop (j6 s f) 0).bind (nD)
def iI(s:List aY)(f:(aY->Option Bool)):Option Bool:=
 (rG s f).bind fun x1=>some (decide (0<=x1))
def yA:Option Int:=
 some (-1)
def kH(s:List cZ)(f:(cZ->Option Bool)):Int->Option (Step Int (Out Unit Int))
 | x2=>(if decide (x2 < (s.length:Int)) then (idx s x2).bind fun x3=>(f x3).bind fun x4=>(if x4 then some (.stop (Out.ret x2)) else some (.next (bG (x2+1)))) else some (.stop (Out.brk ())))
def oW:(Out Unit Int)->Option Int
 | .brk ()=>yA
 | .ret r=>some r
def tR(s:List cZ)(f:(cZ->Option Bool)):Option Int:=
 (loop (kH s f) 0).bind (oW)
def iP(s:List cZ)(f:(cZ->Option Bool)):Option Bool:=
 (tR s f).bind fun x1=>some (decide (0<=x1))
def G7:Option Int:=
 some (-1)
def eR(s:List Int)(v:Int):Int->Option (Step Int (Out Unit Int))
 | x2=>(if decide (x2 < (s.length:Int)) then (idx s x2).bind fun x3=>(if v == x3 then some (.stop (Out.ret x2)) else some (.next (bG (x2+1)))) else some (.stop (Out.brk ())))
def pG:(Out Unit Int)->Option Int
 | .brk ()=>G7
 | .ret r=>some r
def mN(s:List Int)(v:Int):Option Int:=
 (loop (eR s v) 0).bind (pG)
def pH(s:List Int)(v:Int):Option Bool:=
 (mN s v).bind fun x1=>some (decide (0<=x1))
def oX(s:aP)(k0:Int):Option Bool:=
 (pH s.aS k0).bind fun x1=>some x1
def xK:Option Int:=
 some (-1)
def j7(s:List aP)(f:(aP->Option Bool)):Int->Option (Step Int (Out Unit Int))
 | x2=>(if decide (x2 < (s.length:Int)) then (idx s x2).bind fun x3=>(f x3).bind fun x4=>(if x4 then some (.stop (Out.ret x2)) else some (.next (bG (x2+1)))) else some (.stop (Out.brk ())))
def nE:(Out Unit Int)->Option Int
 | .brk ()=>xK
 | .ret r=>some r
def rH(s:List aP)(f:(aP->Option Bool)):Option Int:=
 (loop (j7 s f) 0).bind (nE)
def iJ(s:List aP)(f:(aP->Option Bool)):Option Bool:=
 (rH s f).bind fun x1=>some (decide (0<=x1))
def BY(x1:Bool):Option Bool:=
 some x1
def FV(l:aC)(slot:Int):Option Bool:=
 (iJ l.Global (fun y0=>oX y0 slot)).bind fun x2=>(if x2 then BY true else (iJ l.cL (fun y0=>oX y0 slot)).bind fun x3=>BY x3)
def HI(m:Mem)(slot:Int):Option Int:=
 (nZ m.aE slot).bind fun x1=>(if decide (x1 < 0) then some 0 else (FV m.aC slot).bind fun x2=>(if x2 then some 1 else (AR m.aE slot).bind fun x3=>(if decide (6 < x3) then some 2 else some 3)))
def uS(x1:Bool):Option Bool:=
 some x1
def A8(m:Mem)(h:Int):Option Bool:=
 (hQ h).bind fun x2=>(if x2 then (HI m (Int.tmod h 32)).bind fun x3=>(if x3 == 3 then (AR m.aE (Int.tmod h 32)).bind fun x4=>uS (x4 == (bG (Int.tdiv h 32))) else uS false) else uS false)
def rI(x1:Bool):Option Bool:=
 some x1
def zX(r_:cZ)(k0:aA):Option Bool:=
 (A8 k0.Mem r_.Handle).bind fun x2=>(if !x2 then rI true else rI (decide (k0.aB.aG < r_.aG)))
def EX(l:aY)(k0:aA):Option Bool:=
 (iP l.Rows (fun y0=>zX y0 k0)).bind fun x1=>some x1
def p7(b:aA)(x1:Bool):Option Bool:=
 (if x1 then some false else (iI b.aL (fun y0=>EX y0 b)).bind fun x2=>some (!x2))
def KB(b:aA):Option Bool:=
 (IU b.Mem).bind fun x3=>(if !x3 then p7 b true else (oA b.aB).bind fun x4=>(if !x4 then p7 b true else (l9 b.aL).bind fun x5=>(if !x5 then p7 b true else (D7 b.iS).bind fun x6=>p7 b (!x6))))
def uT(h:Int):Option Bool:=
 (qX h).bind fun x1=>some (!x1)
def A9:Option Int:=
 some (-1)
def lC(s:List bA)(f:(bA->Option Bool)):Int->Option (Step Int (Out Unit Int))
 | x2=>(if decide (x2 < (s.length:Int)) then (idx s x2).bind fun x3=>(f x3).bind fun x4=>(if x4 then some (.stop (Out.ret x2)) else some (.next (bG (x2+1)))) else some (.stop (Out.brk ())))
def p8:(Out Unit Int)->Option Int
 | .brk ()=>A9
 | .ret r=>some r
def uU(s:List bA)(f:(bA->Option Bool)):Option Int:=
 (loop (lC s f) 0).bind (p8)
def i6(s:List bA)(f:(bA->Option Bool)):Option Bool:=
 (uU s f).bind fun x1=>some (decide (0<=x1))
def yC(x1:Bool):Option Bool:=
 some x1
def NS(j:bA):Option Bool:=
 (if !j.cN then some (decide (j=(⟨false,(⟨0,0,0,0⟩:dB),0,0,(⟨0,0,0,0,0,0,0,0,0,false⟩:Sub),0,0,0,0⟩:bA))) else (IJ j.Op).bind fun x2=>(if x2 then (qX j.H).bind fun x3=>(if x3 then (qX j.Old).bind fun x4=>yC x4 else yC false) else yC false))
def BZ(j:bA):Option Bool:=
 (NS j).bind fun x1=>some (!x1)
def iU(x1:Bool):Option Bool:=
 some x1
def wH(s:aD):Option Bool:=
 (KB s.aA).bind fun x2=>(if x2 then (if (s.Cells.length:Int) == 2 then (if (s.aU.length:Int) == 3 then (FQ s.bK).bind fun x3=>(if x3 then (cK s.aI 0 1000000).bind fun x4=>(if x4 then (eO s.Cells (fun y0=>uT y0)).bind fun x5=>(if !x5 then (i6 s.aU (fun y0=>BZ y0)).bind fun x6=>iU (!x6) else iU false) else iU false) else iU false) else iU false) else iU false) else iU false)
def P8(j:bA):Option Bool:=
 some j.cN
def P9(q:Queue):Option Bool:=
 some (decide (0 < (q.iC.length:Int)))
def HJ(x1:Bool):Option Bool:=
 some x1
def MJ(s:aD):Option Bool:=
 (i6 s.aU (fun y0=>P8 y0)).bind fun x2=>(if !x2 then (iH s.bK (fun y0=>P9 y0)).bind fun x3=>HJ (!x3) else HJ false)
def jX(kind a_:Int):Option Sub:=
 some (⟨kind,a_,0,0,0,0,0,0,0,false⟩:Sub)
def dR(s:aD)(kind w_ handle val code:Int)(x1:bA):Option aD:=
 some ({s with Log:=s.Log++([(⟨kind,w_,x1.aI,x1.Op.Cell,handle,val,code⟩:Ev)])}:aD)
def dD(s:aD)(kind w_ handle val code:Int):Option aD:=
 (idx s.aU w_).bind fun x1=>need (s.Log.length+([(⟨kind,w_,x1.aI,x1.Op.Cell,handle,val,code⟩:Ev)]).length<=1073741824)<|dR s kind w_ handle val code x1
def wI(s:List dB)(i j:Int):Option (List dB):=
 need (0<=(i:Int)/\(i:Int)<=(j:Int)/\(j:Int)<=((s.length:Int):Int)/\((s.length:Int):Int)<=(s.length:Int)) ((if i == j then some s else need (0<=(i:Int)/\(i:Int)<=(s.length:Int)) (need (0<=(j:Int)/\(j:Int)<=(s.length:Int)) (need (i.toNat<=j.toNat) (need (0<=(((((dI s i.toNat (s.drop j.toNat)).take (i.toNat+(s.length - j.toNat))).drop 0).length:Int):Int)/\(((((dI s i.toNat (s.drop j.toNat)).take (i.toNat+(s.length - j.toNat))).drop 0).length:Int):Int)<=((s.length:Int):Int)/\((s.length:Int):Int)<=((dI s i.toNat (s.drop j.toNat)).length:Int)) (some (((dI s i.toNat (s.drop j.toNat)).take (i.toNat+(s.length - j.toNat))).drop 0)))))))
def bR(j:bA)(code:Int):Option bA:=
 some ({j with Pc:=9,Code:=code}:bA)
def d7(s:aD)(w_:Int)(x4:(List dB))(x5:bA):Option aD:=
 (idx s.aU w_).bind fun x6=>(dD ({s with aU:=s.aU.set w_.toNat x5,bK:=s.bK.set w_.toNat (⟨x4⟩:Queue),aI:=bG (s.aI+1)}:aD) 1 w_ 0 0 0).bind fun x7=>some x7
def jS(s:aD)(w_:Int)(x3:dB)(x4:(List dB))(x9:Bool):Option aD:=
 (if x9 then (jX 5 0).bind fun x10=>(idx s.aA.aB.cG w_).bind fun x11=>(if x11.On then (bR (⟨true,x3,bG (s.aI+1),0,x10,0,0,0,0⟩:bA) 1).bind fun x12=>d7 s w_ x4 x12 else d7 s w_ x4 (⟨true,x3,bG (s.aI+1),0,x10,0,0,0,0⟩:bA)) else (if x3.Kind == 4 then (jX 3 0).bind fun x13=>d7 s w_ x4 (⟨true,x3,bG (s.aI+1),0,x13,0,0,0,0⟩:bA) else d7 s w_ x4 (⟨true,x3,bG (s.aI+1),0,(⟨0,0,0,0,0,0,0,0,0,false⟩:Sub),0,0,0,0⟩:bA)))
def pI(s:aD)(w_:Int)(x1:Bool):Option aD:=
 (if x1 then some s else (idx s.bK w_).bind fun x2=>(idx x2.iC 0).bind fun x3=>(wI x2.iC 0 1).bind fun x4=>(if x3.Kind == 1 then (jX 1 x3.gX).bind fun x8=>d7 s w_ x4 (⟨true,x3,bG (s.aI+1),0,x8,0,0,0,0⟩:bA) else (if x3.Kind == 2 then jS s w_ x3 x4 true else jS s w_ x3 x4 (x3.Kind == 5))))
def wJ(s:aD)(w_:Int):Option aD:=
 (idx s.bK w_).bind fun x14=>(if (x14.iC.length:Int) == 0 then pI s w_ true else pI s w_ (s.aI == 1000000))
def bH(s:Sub)(code:Int):Option Sub:=
 some ({s with Code:=code,cO:=true}:Sub)
def YU:Option Int:=
 some (-1)
def zY(x2:Int)(x3:Bool):Option (Step Int (Out Unit Int)):=
 (if x3 then some (.stop (Out.ret x2)) else some (.next (bG (x2+1))))
def jY(size:Int):Int->Option (Step Int (Out Unit Int))
 | x2=>(if decide (x2 < 3) then (if decide (1<=size) then (A6 x2).bind fun x4=>zY x2 (decide (size<=x4)) else zY x2 false) else some (.stop (Out.brk ())))
def YV:(Out Unit Int)->Option Int
 | .brk ()=>YU
 | .ret r=>some r
def HK(size:Int):Option Int:=
 (loop (jY size) 0).bind (YV)
def fZ(w_:Int):Option Bool:=
 (cK w_ 0 2).bind fun x1=>some x1
def EY(w_ c:Int)(x1:Bool):Option Int:=
 (if x1 then some (-1) else some (bG ((bG (w_ * 3))+c)))
def IV(w_ c:Int):Option Int:=
 (fZ w_).bind fun x2=>(if !x2 then EY w_ c true else (kE c).bind fun x3=>EY w_ c (!x3))
def uV(s:aP):Option (Int×aP):=
 (if decide ((bG ((s.aS.length:Int) - 1)) < 0) then some ((-1),s) else (idx s.aS (bG ((s.aS.length:Int) - 1))).bind fun x1=>need (0<=(bG ((s.aS.length:Int) - 1):Int)/\(bG ((s.aS.length:Int) - 1):Int)<=(bG ((s.aS.length:Int) - 1):Int)/\(bG ((s.aS.length:Int) - 1):Int)<=(s.aS.length:Int)) (some (x1,(⟨(s.aS.take ((bG ((s.aS.length:Int) - 1)).toNat)).drop 0⟩:aP))))
def zZ(x1:aC)(x2:Int)(x3:Bool):Option (aC×Int):=
 (if x3 then some (x1,(-1)) else (idx x1.cL x2).bind fun x4=>(uV x4).bind fun x5=>some ((⟨x1.Global,x1.cL.set x2.toNat x5.2⟩:aC),x5.1))
def HL(l:aC)(w_ c:Int):Option (aC×Int):=
 (iO l).bind fun x1=>(IV w_ c).bind fun x2=>(kG l).bind fun x6=>(if !x6 then zZ x1 x2 true else zZ x1 x2 (decide (x2 < 0)))
def rJ(c:Int)(x1:aC)(x2:Bool):Option (aC×Int):=
 (if x2 then some (x1,(-1)) else (idx x1.Global c).bind fun x3=>(uV x3).bind fun x4=>some ((⟨x1.Global.set c.toNat x4.2,x1.cL⟩:aC),x4.1))
def z6(l:aC)(c:Int):Option (aC×Int):=
 (iO l).bind fun x1=>(kG l).bind fun x5=>(if !x5 then rJ c x1 true else (kE c).bind fun x6=>rJ c x1 (!x6))
def kI(width:Int):Option Bool:=
 (cK width 1 7).bind fun x1=>some x1
def aER(x8:List UInt8):Option (List UInt8):=
 some x8
def EZ:(Int×(List UInt8)×Int)->Option (Step (Int×(List UInt8)×Int) (List UInt8))
 | (x5,x6,x7)=>(if decide (0<=x7) then (idx x6 x7).bind fun x9=>some (.next (uI .i64 x5 8,x6.set x7.toNat (u8 x5),bG (x7 - 1))) else some (.stop (x6)))
def aES:(List UInt8)->Option (List UInt8)
 | x8=>aER x8
def yD(n width:Int)(x1:Bool):Option (List UInt8):=
 (if x1 then some ([]) else need (0<=(width:Int)/\(width:Int)<=4294967296) ((loop (EZ) (n,List.replicate (width.toNat) 0,bG (width - 1))).bind (aES)))
def AS(n width:Int):Option (List UInt8):=
 (kI width).bind fun x10=>(if !x10 then yD n width true else (if decide (n < 0) then yD n width true else need (0<=(IntKind.u64.wrap (bG (8 * width)):Int)) (yD n width (decide ((aF9 .i64 1 (IntKind.u64.wrap (bG (8 * width))))<=n)))))
def QA(b x5:List Int):Option (List Int):=
 need (x5.length=b.length) (some x5)
def B4(b:List Int)(at_:Int)(text:List UInt8):((List Int)×Int)->Option (Step ((List Int)×Int) (List Int))
 | (x3,x4)=>need (x3.length=b.length) ((if decide (x4 < (text.length:Int)) then (idx text x4).bind fun x6=>(idx x3 (bG (at_+x4))).bind fun x7=>some (.next (x3.set ((bG (at_+x4)).toNat) (x6.toNat:Int),bG (x4+1))) else some (.stop (x3))))
def QB(b:List Int):(List Int)->Option (List Int)
 | x5=>QA b x5
def uW(b:List Int)(at_:Int)(text:List UInt8):Option (List Int):=
 (loop (B4 b at_ text) (b,0)).bind (QB b)
def B5(page index:Int)(x1:Bool):Option Int:=
 (if x1 then some (-1) else some (bG ((bG (page * 4))+index)))
def KC(page index:Int):Option Int:=
 (cK page 0 5).bind fun x2=>(if !x2 then B5 page index true else (cK index 0 3).bind fun x3=>B5 page index (!x3))
def aET(c:Int)(x1:aE)(x2:Int)(x13 x14:List Int):Option (aE×(List Int)):=
 some ((⟨x14,x1.Class.set x2.toNat c⟩:aE),x13)
def K2(x10:List Int)(x11 x15:Int)(x16:List Int):Option (Step ((List Int)×Int×(List Int)) ((List Int)×(List Int))):=
 need (x10.length+([x15]).length<=1073741824) (some (.next (x10++([x15]),bG (x11+1),x16)))
def E1(c x2 x6:Int):((List Int)×Int×(List Int))->Option (Step ((List Int)×Int×(List Int)) ((List Int)×(List Int)))
 | (x10,x11,x12)=>(if decide (x11 < x6) then (KC x2 x11).bind fun x15=>(uN x15 c).bind fun x17=>(AS 1 4).bind fun x18=>(uW x12 x17 x18).bind fun x19=>K2 x10 x11 x15 x19 else some (.stop ((x10,x12))))
def aEU(c:Int)(x1:aE)(x2:Int):((List Int)×(List Int))->Option (aE×(List Int))
 | (x13,x14)=>aET c x1 x2 x13 x14
def K3(c:Int)(x1:aE)(x2:Int)(x5:List Int):Option (aE×(List Int)):=
 (nY c).bind fun x6=>(loop (E1 c x2 x6) (([]:List Int),0,x5)).bind (aEU c x1 x2)
def yE(c:Int)(x1:aE)(x2:Int)(x3:Bool):Option (aE×(List Int)):=
 (if x3 then some (x1,([]:List Int)) else (idx x1.Class x2).bind fun x4=>need (0<=(bG (x2 * 64):Int)/\(bG (x2 * 64):Int)<=(x1.Bytes.length:Int))<|(nY c).bind fun x20=>K3 c x1 x2 (dI x1.Bytes ((bG (x2 * 64)).toNat) ([171,c,x20]:List Int)))
def D8(h:aE)(c:Int):Option (aE×(List Int)):=
 (tB h).bind fun x1=>(mN h.Class (-1)).bind fun x2=>(FU h).bind fun x21=>(if !x21 then yE c x1 x2 true else (kE c).bind fun x22=>(if !x22 then yE c x1 x2 true else yE c x1 x2 (decide (x2 < 0))))
def GO(x4:Int)(x5:Mem):Option (Mem×Int):=
 some (x5,x4)
def GP(c:Int)(x1:aE×(List Int))(x2:Mem):Option (Mem×Int):=
 (if (x1.2.length:Int) == 0 then some (x2,(-1)) else (idx x2.aC.Global c).bind fun x3=>need (0<=(1:Int)/\(1:Int)<=(x1.2.length:Int)) (need (x3.aS.length+((x1.2.take x1.2.length).drop ((1:Int).toNat)).length<=1073741824) ((idx x1.2 0).bind fun x6=>GO x6 (⟨x2.aE,(⟨x2.aC.Global.set c.toNat (⟨x3.aS++((x1.2.take x1.2.length).drop ((1:Int).toNat))⟩:aP),x2.aC.cL⟩:aC)⟩:Mem))))
def HM(m:Mem)(c:Int):Option (Mem×Int):=
 (D8 m.aE c).bind fun x1=>(iO m.aC).bind fun x7=>GP c x1 (⟨x1.1,x7⟩:Mem)
def wK(slot gen:Int)(x1:Bool):Option Int:=
 (if x1 then some 0 else some (bG ((bG (gen * 32))+slot)))
def K4(slot gen:Int):Option Int:=
 (mG slot).bind fun x2=>(if !x2 then wK slot gen true else (cK gen 1 6).bind fun x3=>wK slot gen (!x3))
def E2(m:Mem)(slot:Int):Option Int:=
 (AR m.aE slot).bind fun x1=>(K4 slot x1).bind fun x2=>some x2
def iM(s:Sub)(x3:Int)(x4:aA):Option (Sub×aA):=
 (if decide (0<=x3) then (E2 x4.Mem x3).bind fun x5=>(bH ({s with Out:=x5}:Sub) 0).bind fun x6=>some (x6,x4) else (if s.Pc == 3 then (bH s 3).bind fun x7=>some (x7,x4) else some (({s with Pc:=bG (s.Pc+1)}:Sub),x4)))
def mY(s:Sub)(b:aA)(x1:Int)(x9:Bool):Option (Sub×aA):=
 (if x9 then (z6 b.Mem.aC x1).bind fun x10=>iM s x10.2 ({b with Mem:=(⟨b.Mem.aE,x10.1⟩:Mem)}:aA) else (if s.Pc == 2 then (HM b.Mem x1).bind fun x11=>iM s x11.2 ({b with Mem:=x11.1}:aA) else (bH s 1).bind fun x12=>some (x12,b)))
def rK(s:Sub)(b:aA)(w_:Int):Option (Sub×aA):=
 (HK s.A).bind fun x1=>(if decide (x1 < 0) then (bH s 2).bind fun x2=>some (x2,b) else (if s.Pc == 0 then (HL b.Mem.aC w_ x1).bind fun x8=>iM s x8.2 ({b with Mem:=(⟨b.Mem.aE,x8.1⟩:Mem)}:aA) else (if s.Pc == 1 then mY s b x1 true else mY s b x1 (s.Pc == 3))))
def pJ(x1:Bool):Option Bool:=
 some x1
def qA(r_:cZ)(k0:Int):Option Bool:=
 (hQ r_.Handle).bind fun x2=>(if x2 then pJ ((Int.tmod r_.Handle 32) == k0) else pJ false)
def B6(own:aY)(k0:Int):Option Bool:=
 (iP own.Rows (fun y0=>qA y0 k0)).bind fun x1=>some x1
def HN(l:List aY)(slot:Int):Option Bool:=
 (iI l (fun y0=>B6 y0 slot)).bind fun x1=>some x1
def wL(l:List aY)(w_ h e_:Int)(x1:Bool):Option ((List aY)×Bool):=
 (if x1 then (kR l).bind fun x2=>some (x2,false) else (kR l).bind fun x3=>(idx x3 w_).bind fun x4=>need (x4.Rows.length+([(⟨h,e_⟩:cZ)]).length<=1073741824) ((l9 (x3.set w_.toNat (⟨x4.Rows++([(⟨h,e_⟩:cZ)])⟩:aY))).bind fun x5=>(if !x5 then (kR l).bind fun x6=>some (x6,false) else some (x3.set w_.toNat (⟨x4.Rows++([(⟨h,e_⟩:cZ)])⟩:aY),true))))
def E3(l:List aY)(w_ h e_:Int):Option ((List aY)×Bool):=
 (l9 l).bind fun x7=>(if !x7 then wL l w_ h e_ true else (fZ w_).bind fun x8=>wL l w_ h e_ (!x8))
def mA(s:Sub)(b:aA)(w_:Int)(x3:Bool):Option (Sub×aA):=
 (if x3 then (bH s 4).bind fun x4=>some (x4,b) else (E3 b.aL w_ s.A s.E).bind fun x5=>(bH s 0).bind fun x6=>some (x6,({b with aL:=x5.1}:aA)))
def mB(s:Sub)(b:aA)(w_:Int)(x1:Bool):Option (Sub×aA):=
 (if x1 then (bH s 1).bind fun x2=>some (x2,b) else (A8 b.Mem s.A).bind fun x7=>(if !x7 then mA s b w_ true else (HN b.aL (Int.tmod s.A 32)).bind fun x8=>mA s b w_ x8))
def pK(s:Sub)(b:aA)(w_:Int):Option (Sub×aA):=
 (if s.Pc == 0 then some (({s with Pc:=1,E:=b.aB.aG}:Sub),b) else (if s.Pc != 1 then mB s b w_ true else (cK s.E 0 b.aB.aG).bind fun x9=>mB s b w_ (!x9)))
def qB(w_:Int)(x1:aB)(x4:Bool):Option (aB×Bool):=
 (if x4 then some (x1,true) else (idx x1.cG w_).bind fun x5=>(if decide (x5.Seen < 2) then some ((⟨x1.aG,x1.cG.set w_.toNat ({x5 with Seen:=bG (x5.Seen+1)}:oV)⟩:aB),false) else some ((⟨x1.aG,x1.cG.set w_.toNat ({x5 with dC:=true,Seen:=0}:oV)⟩:aB),true)))
def B7(w_ e_:Int)(x1:aB)(x2:Bool):Option (aB×Bool):=
 (if x2 then some (x1,false) else (idx x1.cG w_).bind fun x3=>(if !x3.On then qB w_ x1 true else (if x3.dC then qB w_ x1 true else qB w_ x1 (x3.aG == e_))))
def KD(c:aB)(w_ e_:Int):Option (aB×Bool):=
 (kQ c).bind fun x1=>(oA c).bind fun x6=>(if !x6 then B7 w_ e_ x1 true else (fZ w_).bind fun x7=>B7 w_ e_ x1 (!x7))
def B8(x1:aB)(x2:Bool):Option (aB×Bool):=
 (if x2 then some (x1,false) else some ((⟨bG (x1.aG+1),x1.cG⟩:aB),true))
def SF(c:aB)(e_:Int):Option (aB×Bool):=
 (kQ c).bind fun x1=>(oA c).bind fun x3=>(if !x3 then B8 x1 true else (if c.aG != e_ then B8 x1 true else B8 x1 (c.aG == 100000)))
def lD(s:Sub)(b:aA)(x4:aB×Bool)(x5:Int):Option (Sub×aA):=
 (bH ({s with Out:=x5}:Sub) 0).bind fun x6=>some (x6,({b with aB:=x4.1}:aA))
def lE(s:Sub)(b:aA)(x1:Bool):Option (Sub×aA):=
 (if x1 then (KD b.aB s.B s.E).bind fun x2=>(if !x2.2 then (bH s 8).bind fun x3=>some (x3,({b with aB:=x2.1}:aA)) else (if (bG (s.B+1)) == 3 then some (({s with Pc:=2,B:=bG (s.B+1)}:Sub),({b with aB:=x2.1}:aA)) else some (({s with B:=bG (s.B+1)}:Sub),({b with aB:=x2.1}:aA)))) else (if s.Pc == 2 then (SF b.aB s.E).bind fun x4=>(if x4.2 then lD s b x4 1 else lD s b x4 s.Out) else (bH s 1).bind fun x7=>some (x7,b)))
def oC(s:Sub)(b:aA):Option (Sub×aA):=
 (if s.Pc == 0 then some (({s with Pc:=1,E:=b.aB.aG,B:=0}:Sub),b) else (if s.Pc == 1 then (fZ s.B).bind fun x8=>lE s b x8 else lE s b false))
def B9(x1:Bool):Option Bool:=
 some x1
def FW(l:List aY)(w_ i:Int):Option Bool:=
 (fZ w_).bind fun x2=>(if x2 then (idx l w_).bind fun x3=>(cK i 0 (bG ((x3.Rows.length:Int) - 1))).bind fun x4=>B9 x4 else B9 false)
def HO(x1:Bool):Option Bool:=
 some x1
def MK(r_:cZ)(e_:Int):Option Bool:=
 (if decide (2<=e_) then HO (decide (r_.aG<=(bG (e_ - 2)))) else HO false)
def FX(s:Sub)(b:aA):Option (Sub×aA):=
 (bH s 0).bind fun x3=>some (x3,b)
def fA(s:Sub)(b:aA)(w_:Int):Int->Option (Step Int (Out Unit (Sub×aA)))
 | x2=>(idx b.aL w_).bind fun x4=>(if decide (x2 < (x4.Rows.length:Int)) then (idx x4.Rows x2).bind fun x5=>(MK x5 s.E).bind fun x6=>(if x6 then some (.stop (Out.ret (({s with Pc:=2,Row:=x2,B:=0,H:=x5.Handle}:Sub),b))) else some (.next (bG (x2+1)))) else some (.stop (Out.brk ())))
def QC(s:Sub)(b:aA):(Out Unit (Sub×aA))->Option (Sub×aA)
 | .brk ()=>FX s b
 | .ret r=>some r
def oD(s:Sub)(b:aA)(w_:Int):Option (Sub×aA):=
 (loop (fA s b w_) (if s.Row < 0 then 0 else s.Row)).bind (QC s b)
def AT(s:List cZ)(i j:Int):Option (List cZ):=
 need (0<=(i:Int)/\(i:Int)<=(j:Int)/\(j:Int)<=((s.length:Int):Int)/\((s.length:Int):Int)<=(s.length:Int)) ((if i == j then some s else need (0<=(i:Int)/\(i:Int)<=(s.length:Int)) (need (0<=(j:Int)/\(j:Int)<=(s.length:Int)) (need (i.toNat<=j.toNat) (need (0<=(((((dI s i.toNat (s.drop j.toNat)).take (i.toNat+(s.length - j.toNat))).drop 0).length:Int):Int)/\(((((dI s i.toNat (s.drop j.toNat)).take (i.toNat+(s.length - j.toNat))).drop 0).length:Int):Int)<=((s.length:Int):Int)/\((s.length:Int):Int)<=((dI s i.toNat (s.drop j.toNat)).length:Int)) (some (((dI s i.toNat (s.drop j.toNat)).take (i.toNat+(s.length - j.toNat))).drop 0)))))))
def z7(w_ i:Int)(x1:(List aY))(x2:Bool):Option ((List aY)×Bool):=
 (if x2 then some (x1,false) else (idx x1 w_).bind fun x3=>(AT x3.Rows i (bG (i+1))).bind fun x4=>some (x1.set w_.toNat (⟨x4⟩:aY),true))
def HP(l:List aY)(w_ i:Int):Option ((List aY)×Bool):=
 (kR l).bind fun x1=>(l9 l).bind fun x5=>(if !x5 then z7 w_ i x1 true else (FW l w_ i).bind fun x6=>z7 w_ i x1 (!x6))
def IW(x3 x5:List Int):Option (aE×Bool):=
 some ((⟨x5,x3⟩:aE),true)
def CA(slot gen x1:Int)(x2 x3:List Int)(x4:Bool):Option (aE×Bool):=
 (if x4 then some ((⟨x2,x3⟩:aE),false) else (uN slot x1).bind fun x6=>(AS gen 4).bind fun x7=>(uW x2 x6 x7).bind fun x8=>IW x3 x8)
def IX(slot gen x1:Int)(x2 x3:List Int):Option (aE×Bool):=
 (if decide (x1 < 0) then CA slot gen x1 x2 x3 true else (cK gen 1 7).bind fun x9=>CA slot gen x1 x2 x3 (!x9))
def QD(h:aE)(slot gen:Int):Option (aE×Bool):=
 (tB h).bind fun x10=>(rF h slot).bind fun x11=>IX slot gen x11 x10.Bytes x10.Class
def wM(c slot:Int)(x1:aC)(x2:Int)(x3:Bool):Option (aC×Bool):=
 (if x3 then some (x1,false) else (idx x1.cL x2).bind fun x4=>(if decide (2<=(x4.aS.length:Int)) then (idx x1.Global c).bind fun x5=>need (x5.aS.length+([slot]).length<=1073741824) (some ((⟨x1.Global.set c.toNat (⟨x5.aS++([slot])⟩:aP),x1.cL⟩:aC),true)) else need (x4.aS.length+([slot]).length<=1073741824) (some ((⟨x1.Global,x1.cL.set x2.toNat (⟨x4.aS++([slot])⟩:aP)⟩:aC),true))))
def W4(l:aC)(w_ c slot:Int):Option (aC×Bool):=
 (iO l).bind fun x1=>(IV w_ c).bind fun x2=>(kG l).bind fun x6=>(if !x6 then wM c slot x1 x2 true else (if decide (x2 < 0) then wM c slot x1 x2 true else (mG slot).bind fun x7=>(if !x7 then wM c slot x1 x2 true else (FV l slot).bind fun x8=>wM c slot x1 x2 x8)))
def K5(x3:Mem):Option Mem:=
 some x3
def K6(m:Mem)(w_ h:Int)(x2:Mem):Option Mem:=
 (if decide ((bG ((bG (Int.tdiv h 32))+1))<=6) then (nZ m.aE (Int.tmod h 32)).bind fun x4=>(W4 m.aC w_ x4 (Int.tmod h 32)).bind fun x5=>K5 (⟨x2.aE,x5.1⟩:Mem) else K5 x2)
def NT(m:Mem)(w_ h:Int):Option Mem:=
 (QD m.aE (Int.tmod h 32) (bG ((bG (Int.tdiv h 32))+1))).bind fun x1=>(iO m.aC).bind fun x6=>K6 m w_ h (⟨x1.1,x6⟩:Mem)
def dO(s:Sub)(b:aA)(w_:Int)(x5:Bool):Option (Sub×aA):=
 (if x5 then (HP b.aL w_ s.Row).bind fun x6=>(NT b.Mem w_ s.H).bind fun x7=>some (({s with Pc:=1,Out:=bG (s.Out+1)}:Sub),({b with Mem:=x7,aL:=x6.1}:aA)) else (bH s 1).bind fun x8=>some (x8,b))
def eP(s:Sub)(b:aA)(w_:Int)(x1 x3:Bool):Option (Sub×aA):=
 (if x3 then (idx b.iS s.B).bind fun x4=>(if x4 == s.H then some (({s with Pc:=1,Row:=bG (s.Row+1)}:Sub),b) else (if (bG (s.B+1)) == 3 then some (({s with Pc:=3,B:=bG (s.B+1)}:Sub),b) else some (({s with B:=bG (s.B+1)}:Sub),b))) else (if s.Pc == 3 then (if x1 then (idx b.aL w_).bind fun x9=>(idx x9.Rows s.Row).bind fun x10=>(MK x10 s.E).bind fun x11=>dO s b w_ x11 else dO s b w_ false) else dO s b w_ false))
def fQ(s:Sub)(b:aA)(w_:Int)(x1:Bool):Option (Sub×aA):=
 (if s.Pc == 0 then some (({s with Pc:=1,E:=b.aB.aG,Row:=0}:Sub),b) else (if s.Pc == 1 then (oD s b w_).bind fun x2=>some (x2.1,x2.2) else (if s.Pc == 2 then (fZ s.B).bind fun x12=>(if x12 then eP s b w_ x1 x1 else eP s b w_ x1 false) else eP s b w_ x1 false)))
def oE(s:Sub)(b:aA)(w_:Int):Option (Sub×aA):=
 (FW b.aL w_ s.Row).bind fun x13=>(if x13 then (idx b.aL w_).bind fun x14=>(idx x14.Rows s.Row).bind fun x15=>fQ s b w_ (x15.Handle == s.H) else fQ s b w_ false)
def yF(w_ e_:Int)(x1:aB)(x2:Bool):Option (aB×Bool):=
 (if x2 then some (x1,false) else (idx x1.cG w_).bind fun x3=>some ((⟨x1.aG,x1.cG.set w_.toNat (⟨true,e_,false,0⟩:oV)⟩:aB),true))
def NU(c:aB)(w_ e_:Int):Option (aB×Bool):=
 (kQ c).bind fun x1=>(oA c).bind fun x4=>(if !x4 then yF w_ e_ x1 true else (fZ w_).bind fun x5=>(if !x5 then yF w_ e_ x1 true else (cK e_ 0 c.aG).bind fun x6=>yF w_ e_ x1 (!x6)))
def xP(s:Sub)(b:aA)(x1:Bool)(x2:Int)(x3:List oV):Option (Sub×aA):=
 (if !x1 then (bH s 1).bind fun x4=>some (x4,b) else some (({s with Pc:=2}:Sub),({b with aB:=(⟨x2,x3⟩:aB)}:aA)))
def wN(s:Sub)(b:aA)(w_:Int):Option (Sub×aA):=
 (if s.Pc == 0 then some (({s with Pc:=1,E:=b.aB.aG}:Sub),b) else (if s.Pc == 1 then (NU b.aB w_ s.E).bind fun x5=>xP s b x5.2 x5.1.aG x5.1.cG else (if s.Pc == 2 then (if b.aB.aG == s.E then (bH s 0).bind fun x6=>some (x6,b) else some (({s with Pc:=0}:Sub),b)) else (bH s 1).bind fun x7=>some (x7,b))))
def kJ(s:Sub)(b:aA)(w_:Int):Option (Sub×aA):=
 (if s.cO then some (s,b) else (if s.Kind == 1 then (rK s b w_).bind fun x1=>some (x1.1,x1.2) else (if s.Kind == 2 then (pK s b w_).bind fun x2=>some (x2.1,x2.2) else (if s.Kind == 3 then (oC s b).bind fun x3=>some (x3.1,x3.2) else (if s.Kind == 4 then (oE s b w_).bind fun x4=>some (x4.1,x4.2) else (if s.Kind == 5 then (wN s b w_).bind fun x5=>some (x5.1,x5.2) else (bH s 1).bind fun x6=>some (x6,b)))))))
def dM(j:bA)(pc:Int):Option bA:=
 some ({j with Pc:=pc,Code:=0}:bA)
def HQ(slot c:Int):Option Int:=
 (uN slot c).bind fun x1=>(if decide (x1 < 0) then some (-1) else some (bG (x1+4)))
def NV(slot c:Int):Option Span:=
 (HQ slot c).bind fun x1=>(if decide (x1 < 0) then some (⟨0,0⟩:Span) else (A6 c).bind fun x2=>some (⟨x1,bG (x1+x2)⟩:Span))
def wO(h:aE)(slot at_ width:Int):Option Int:=
 (nZ h slot).bind fun x1=>(NV slot x1).bind fun x2=>(cK at_ 0 (bG ((bG (x2.To - x2.aS6)) - width))).bind fun x3=>(if !x3 then some (-1) else some (bG (x2.aS6+at_)))
def CB(m:Mem)(h at_ width:Int)(x1:Bool):Option (Int×Int):=
 (if x1 then some (0,1) else (A8 m h).bind fun x2=>(if !x2 then some (0,4) else (wO m.aE (Int.tmod h 32) at_ width).bind fun x3=>(if decide (x3 < 0) then some (0,2) else (l7 m.aE.Bytes x3 width).bind fun x4=>some (x4,0))))
def QE(m:Mem)(h at_ width:Int):Option (Int×Int):=
 (IU m).bind fun x5=>(if !x5 then CB m h at_ width true else (kI width).bind fun x6=>CB m h at_ width (!x6))
def OX(x4:Mem):Option (Mem×Int):=
 some (x4,0)
def HR(m:Mem)(h at_ width n:Int):Option (Mem×Int):=
 (BQ m).bind fun x1=>(AS n width).bind fun x2=>(QE m h at_ width).bind fun x3=>(if x3.2 != 0 then some (x1,x3.2) else (if x2 == ([]) then some (x1,1) else (wO m.aE (Int.tmod h 32) at_ width).bind fun x5=>(uW x1.aE.Bytes x5 x2).bind fun x6=>OX (⟨(⟨x6,x1.aE.Class⟩:aE),x1.aC⟩:Mem)))
def CC(s:aD)(w_ x7:Int)(x8:Mem):Option aD:=
 (if x7 != 0 then (idx s.aU w_).bind fun x9=>(bR x9 x7).bind fun x10=>some ({s with aU:=s.aU.set w_.toNat x10}:aD) else (idx s.aU w_).bind fun x11=>(dM x11 2).bind fun x12=>some ({s with aA:=(⟨x8,s.aA.aB,s.aA.aL,s.aA.iS⟩:aA),aU:=s.aU.set w_.toNat x12}:aD))
def CD(w_:Int)(x17:aD):Option aD:=
 (idx x17.aU w_).bind fun x18=>(if x18.Old == 0 then (bR x18 0).bind fun x19=>some ({x17 with aU:=x17.aU.set w_.toNat x19}:aD) else (jX 2 x18.Old).bind fun x20=>(dM ({x18 with Sub:=x20}:bA) 3).bind fun x21=>some ({x17 with aU:=x17.aU.set w_.toNat x21}:aD))
def CE(s:aD)(w_:Int)(x14:bA)(x15:Int)(x16:List Int):Option aD:=
 (idx (s.aU.set w_.toNat ({x14 with Old:=x15}:bA)) w_).bind fun x22=>(dD ({s with Cells:=x16,aU:=s.aU.set w_.toNat ({x14 with Old:=x15}:bA)}:aD) 2 w_ x22.H x22.Op.dV 0).bind fun x23=>CD w_ x23
def CF(s:aD)(w_:Int):Option aD:=
 (idx s.aU w_).bind fun x1=>(if x1.Pc == 0 then (kJ x1.Sub s.aA w_).bind fun x2=>(if !x2.1.cO then some ({s with aA:=x2.2,aU:=s.aU.set w_.toNat ({x1 with Sub:=x2.1}:bA)}:aD) else (if x2.1.Code != 0 then (bR ({x1 with Sub:=x2.1}:bA) x2.1.Code).bind fun x3=>some ({s with aA:=x2.2,aU:=s.aU.set w_.toNat x3}:aD) else (hQ x2.1.Out).bind fun x4=>(if !x4 then (bR ({x1 with Sub:=x2.1}:bA) 1).bind fun x5=>some ({s with aA:=x2.2,aU:=s.aU.set w_.toNat x5}:aD) else (dM ({x1 with Sub:=x2.1,H:=x2.1.Out}:bA) 1).bind fun x6=>some ({s with aA:=x2.2,aU:=s.aU.set w_.toNat x6}:aD)))) else (if x1.Pc == 1 then (HR s.aA.Mem x1.H 0 4 x1.Op.dV).bind fun x13=>CC s w_ x13.2 x13.1 else (if x1.Pc == 2 then (idx s.aU w_).bind fun x14=>(idx s.Cells x14.Op.Cell).bind fun x15=>(idx (s.aU.set w_.toNat ({x14 with Old:=x15}:bA)) w_).bind fun x24=>(idx s.Cells x24.Op.Cell).bind fun x25=>CE s w_ x14 x15 (s.Cells.set x24.Op.Cell.toNat x24.H) else (if x1.Pc == 3 then (kJ x1.Sub s.aA w_).bind fun x26=>(if x26.1.cO then (bR ({x1 with Sub:=x26.1}:bA) x26.1.Code).bind fun x27=>some ({s with aA:=x26.2,aU:=s.aU.set w_.toNat x27}:aD) else some ({s with aA:=x26.2,aU:=s.aU.set w_.toNat ({x1 with Sub:=x26.1}:bA)}:aD)) else (bR x1 1).bind fun x28=>some ({s with aU:=s.aU.set w_.toNat x28}:aD)))))
def uX(s:aD)(w_:Int):Option aD:=
 (idx s.aU w_).bind fun x1=>(idx s.aU w_).bind fun x2=>(idx s.Cells x2.Op.Cell).bind fun x3=>(dD ({s with aU:=s.aU.set w_.toNat ({x2 with H:=x3}:bA)}:aD) 3 w_ x3 0 0).bind fun x4=>some x4
def sH(b:aA)(h at_ width:Int)(x1:Bool):Option (Int×Bool):=
 (if x1 then some (0,false) else (wO b.Mem.aE (Int.tmod h 32) at_ width).bind fun x2=>(if decide (x2 < 0) then some (0,false) else (l7 b.Mem.aE.Bytes x2 width).bind fun x3=>some (x3,true)))
def HT(b:aA)(h at_ width:Int):Option (Int×Bool):=
 (hQ h).bind fun x4=>(if !x4 then sH b h at_ width true else (rF b.Mem.aE (Int.tmod h 32)).bind fun x5=>(if decide (x5 < 0) then sH b h at_ width true else (kI width).bind fun x6=>sH b h at_ width (!x6)))
def lQ(s:aD)(w_:Int):Option aD:=
 (idx s.aU w_).bind fun x1=>(HT s.aA x1.H 0 4).bind fun x2=>some ({s with aU:=s.aU.set w_.toNat ({x1 with dV:=x2.1}:bA)}:aD)
def j8(x1:Bool):Option Bool:=
 some x1
def rL(p:oV):Option Bool:=
 (if p.On then j8 (!p.dC) else j8 false)
def lW(s:aD)(w_ pc:Int):Option aD:=
 (idx s.aU w_).bind fun x1=>(dM x1 pc).bind fun x2=>(idx s.aA.aB.cG w_).bind fun x3=>(rL x3).bind fun x4=>(if !x4 then some ({s with aU:=s.aU.set w_.toNat ({x2 with dV:=0,Code:=6}:bA)}:aD) else some ({s with aU:=s.aU.set w_.toNat x2}:aD))
def yG(w_:Int)(x1:aB)(x2:Bool):Option (aB×Bool):=
 (if x2 then some (x1,false) else (idx x1.cG w_).bind fun x3=>some ((⟨x1.aG,x1.cG.set w_.toNat (⟨false,0,false,0⟩:oV)⟩:aB),true))
def NW(c:aB)(w_:Int):Option (aB×Bool):=
 (kQ c).bind fun x1=>(oA c).bind fun x4=>(if !x4 then yG w_ x1 true else (fZ w_).bind fun x5=>(if !x5 then yG w_ x1 true else (idx c.cG w_).bind fun x6=>yG w_ x1 (!x6.On)))
def sI(b:aA)(w_:Int):Option (Bool×aA):=
 (NW b.aB w_).bind fun x1=>some (x1.2,({b with aB:=x1.1}:aA))
def CG(s:aD)(w_:Int):Option aD:=
 (idx s.aU w_).bind fun x1=>(if x1.Pc == 0 then (kJ x1.Sub s.aA w_).bind fun x2=>(if x2.1.cO then (dM ({x1 with Sub:=x2.1}:bA) 1).bind fun x3=>some ({s with aA:=x2.2,aU:=s.aU.set w_.toNat x3}:aD) else some ({s with aA:=x2.2,aU:=s.aU.set w_.toNat ({x1 with Sub:=x2.1}:bA)}:aD)) else (if x1.Pc == 1 then (uX s w_).bind fun x4=>(idx x4.aU w_).bind fun x5=>(dM x5 2).bind fun x6=>(if x6.H == 0 then some ({x4 with aU:=x4.aU.set w_.toNat ({x6 with Pc:=4,Code:=8}:bA)}:aD) else some ({x4 with aU:=x4.aU.set w_.toNat x6}:aD)) else (if x1.Pc == 2 then (lQ s w_).bind fun x7=>(idx x7.aU w_).bind fun x8=>(dM x8 3).bind fun x9=>some ({x7 with aU:=x7.aU.set w_.toNat x9}:aD) else (if x1.Pc == 3 then (lW s w_ 4).bind fun x10=>some x10 else (if x1.Pc == 4 then (sI s.aA w_).bind fun x11=>(bR x1 x1.Code).bind fun x12=>some ({s with aA:=x11.2,aU:=s.aU.set w_.toNat x12}:aD) else (bR x1 1).bind fun x13=>some ({s with aU:=s.aU.set w_.toNat x13}:aD))))))
def sJ(w_ h:Int)(x1:(List Int))(x2:Bool):Option ((List Int)×Bool):=
 (if x2 then some (x1,false) else (idx x1 w_).bind fun x3=>some (x1.set w_.toNat h,true))
def HU(z:List Int)(w_ h:Int):Option ((List Int)×Bool):=
 (fP z).bind fun x1=>(D7 z).bind fun x4=>(if !x4 then sJ w_ h x1 true else (fZ w_).bind fun x5=>(if !x5 then sJ w_ h x1 true else (hQ h).bind fun x6=>sJ w_ h x1 (!x6)))
def yH(w_:Int)(x1:(List Int))(x2:Bool):Option ((List Int)×Bool):=
 (if x2 then some (x1,false) else (idx x1 w_).bind fun x3=>some (x1.set w_.toNat 0,true))
def NX(z:List Int)(w_:Int):Option ((List Int)×Bool):=
 (fP z).bind fun x1=>(D7 z).bind fun x4=>(if !x4 then yH w_ x1 true else (fZ w_).bind fun x5=>(if !x5 then yH w_ x1 true else (idx z w_).bind fun x6=>yH w_ x1 (x6 == 0)))
def CH(s:aD)(w_:Int)(x7:List Int):Option aD:=
 (idx s.aU w_).bind fun x8=>(dM x8 2).bind fun x9=>some ({s with aA:=(⟨s.aA.Mem,s.aA.aB,s.aA.aL,x7⟩:aA),aU:=s.aU.set w_.toNat x9}:aD)
def CI(s:aD)(w_:Int)(x11:Bool):Option aD:=
 (if x11 then (idx s.aU w_).bind fun x12=>(dM x12 0).bind fun x13=>some ({s with aU:=s.aU.set w_.toNat x13}:aD) else (idx s.aU w_).bind fun x14=>(dD s 3 w_ x14.H 0 0).bind fun x15=>(idx x15.aU w_).bind fun x16=>(dM x16 3).bind fun x17=>some ({x15 with aU:=x15.aU.set w_.toNat x17}:aD))
def CJ(s:aD)(w_:Int):Option aD:=
 (idx s.aU w_).bind fun x1=>(if x1.Pc == 0 then (idx s.aU w_).bind fun x2=>(idx s.Cells x2.Op.Cell).bind fun x3=>(dM ({x2 with H:=x3}:bA) 1).bind fun x4=>(if x4.H == 0 then (dD ({s with aU:=s.aU.set w_.toNat x4}:aD) 3 w_ 0 0 0).bind fun x5=>(idx x5.aU w_).bind fun x6=>some ({x5 with aU:=x5.aU.set w_.toNat ({x6 with Pc:=4,Code:=8}:bA)}:aD) else some ({s with aU:=s.aU.set w_.toNat x4}:aD)) else (if x1.Pc == 1 then (HU s.aA.iS w_ x1.H).bind fun x10=>CH s w_ x10.1 else (if x1.Pc == 2 then (idx s.aU w_).bind fun x18=>(idx s.Cells x18.Op.Cell).bind fun x19=>CI s w_ (x19 != x18.H) else (if x1.Pc == 3 then (lQ s w_).bind fun x20=>(idx x20.aU w_).bind fun x21=>(dM x21 4).bind fun x22=>some ({x20 with aU:=x20.aU.set w_.toNat x22}:aD) else (if x1.Pc == 4 then (NX s.aA.iS w_).bind fun x23=>(bR x1 x1.Code).bind fun x24=>some ({s with aA:=(⟨s.aA.Mem,s.aA.aB,s.aA.aL,x23.1⟩:aA),aU:=s.aU.set w_.toNat x24}:aD) else (bR x1 1).bind fun x25=>some ({s with aU:=s.aU.set w_.toNat x25}:aD))))))
def rM(s:aD)(w_:Int)(x5:Bool):Option aD:=
 (if x5 then (idx s.aU w_).bind fun x6=>(bR x6 6).bind fun x7=>some ({s with aU:=s.aU.set w_.toNat x7}:aD) else (idx s.aU w_).bind fun x8=>(if x8.Pc == 0 then (uX s w_).bind fun x9=>(idx x9.aU w_).bind fun x10=>(dM x10 1).bind fun x11=>(if x11.H == 0 then (bR x11 8).bind fun x12=>some ({x9 with aU:=x9.aU.set w_.toNat x12}:aD) else some ({x9 with aU:=x9.aU.set w_.toNat x11}:aD)) else (if x8.Pc == 1 then (lQ s w_).bind fun x13=>(idx x13.aU w_).bind fun x14=>(dM x14 2).bind fun x15=>some ({x13 with aU:=x13.aU.set w_.toNat x15}:aD) else (if x8.Pc == 2 then (lW s w_ 9).bind fun x16=>some x16 else (bR x8 1).bind fun x17=>some ({s with aU:=s.aU.set w_.toNat x17}:aD)))))
def rN(s:aD)(w_:Int)(x1:oV)(x2:Bool):Option aD:=
 (if x2 then (idx s.aU w_).bind fun x3=>(bR x3 5).bind fun x4=>some ({s with aU:=s.aU.set w_.toNat x4}:aD) else (idx s.aU w_).bind fun x18=>(if x18.Pc == 0 then rM s w_ x1.dC else rM s w_ false))
def AU(s:aD)(w_:Int)(x1:oV):Option aD:=
 (idx s.aU w_).bind fun x19=>(if x19.Pc == 0 then rN s w_ x1 (!x1.On) else rN s w_ x1 false)
def z8(s:aD)(w_:Int):Option aD:=
 (idx s.aU w_).bind fun x20=>(idx s.aA.aB.cG w_).bind fun x21=>AU s w_ x21
def pL(w_ x3:Int)(x4:aD):Option aD:=
 (idx x4.aU w_).bind fun x5=>(bR x5 x3).bind fun x6=>some ({x4 with aU:=x4.aU.set w_.toNat x6}:aD)
def pM(s:aD)(w_:Int)(x17:Bool):Option aD:=
 (if x17 then (idx s.aU w_).bind fun x18=>(kJ x18.Sub s.aA w_).bind fun x19=>(if x19.1.cO then (bR ({x18 with Sub:=x19.1,dV:=x19.1.Out}:bA) x19.1.Code).bind fun x20=>some ({s with aA:=x19.2,aU:=s.aU.set w_.toNat x20}:aD) else some ({s with aA:=x19.2,aU:=s.aU.set w_.toNat ({x18 with Sub:=x19.1}:bA)}:aD)) else (idx s.aU w_).bind fun x21=>(bR x21 1).bind fun x22=>some ({s with aU:=s.aU.set w_.toNat x22}:aD))
def pN(s:aD)(w_:Int)(x12:Bool):Option aD:=
 (if x12 then (idx s.aU w_).bind fun x13=>(kJ x13.Sub s.aA w_).bind fun x14=>(if x14.1.cO then (jX 4 0).bind fun x15=>(dM ({x13 with Sub:=x15}:bA) 1).bind fun x16=>some ({s with aA:=x14.2,aU:=s.aU.set w_.toNat x16}:aD) else some ({s with aA:=x14.2,aU:=s.aU.set w_.toNat ({x13 with Sub:=x14.1}:bA)}:aD)) else (idx s.aU w_).bind fun x23=>(if x23.Op.Kind == 4 then pM s w_ (x23.Pc == 1) else pM s w_ false))
def pO(s:aD)(w_:Int)(x8:Bool):Option aD:=
 (if x8 then (idx s.aU w_).bind fun x9=>(kJ x9.Sub s.aA w_).bind fun x10=>(if x10.1.cO then (bR ({x9 with Sub:=x10.1}:bA) x10.1.Code).bind fun x11=>some ({s with aA:=x10.2,aU:=s.aU.set w_.toNat x11}:aD) else some ({s with aA:=x10.2,aU:=s.aU.set w_.toNat ({x9 with Sub:=x10.1}:bA)}:aD)) else (idx s.aU w_).bind fun x24=>(if x24.Op.Kind == 4 then pN s w_ (x24.Pc == 0) else pN s w_ false))
def pP(s:aD)(w_:Int)(x2:Bool):Option aD:=
 (if x2 then (sI s.aA w_).bind fun x7=>(if !x7.1 then pL w_ 5 ({s with aA:=x7.2}:aD) else pL w_ 0 ({s with aA:=x7.2}:aD)) else (idx s.aU w_).bind fun x25=>(if x25.Op.Kind == 5 then pO s w_ (x25.Pc == 0) else pO s w_ false))
def wP(s:aD)(w_:Int):Option aD:=
 (idx s.aU w_).bind fun x1=>(if x1.Op.Kind == 6 then pP s w_ (x1.Pc == 0) else pP s w_ false)
def nG(s:aD)(w_:Int):Option aD:=
 (idx s.aU w_).bind fun x1=>(if !x1.cN then (wJ s w_).bind fun x2=>some x2 else (if x1.Pc == 9 then (dD s 4 w_ x1.H x1.dV x1.Code).bind fun x3=>(idx x3.aU w_).bind fun x4=>some ({x3 with aU:=x3.aU.set w_.toNat (⟨false,(⟨0,0,0,0⟩:dB),0,0,(⟨0,0,0,0,0,0,0,0,0,false⟩:Sub),0,0,0,0⟩:bA)}:aD) else (if x1.Op.Kind == 1 then (CF s w_).bind fun x5=>some x5 else (if x1.Op.Kind == 2 then (CG s w_).bind fun x6=>some x6 else (if x1.Op.Kind == 3 then (CJ s w_).bind fun x7=>some x7 else (if x1.Op.Kind == 7 then (z8 s w_).bind fun x8=>some x8 else (wP s w_).bind fun x9=>some x9))))))
def aB4(x7:aD):Option aD:=
 some x7
def qD(x5:Int)(x8:Bool)(x9:aD):Option (Step (Int×aD) aD):=
 (if x8 then (nG x9 (Int.tmod x5 3)).bind fun x10=>some (.next (bG (x5+1),x10)) else some (.stop (x9)))
def uY:(Int×aD)->Option (Step (Int×aD) aD)
 | (x5,x6)=>(if decide (x5 < 3000) then (MJ x6).bind fun x11=>qD x5 (!x11) x6 else qD x5 false x6)
def aB5:aD->Option aD
 | x7=>aB4 x7
def FY(s:aD):Option aD:=
 (uK s).bind fun x1=>(wH s).bind fun x2=>(if !x2 then some x1 else (loop (uY) (0,x1)).bind (aB5))
def OY(x y:Int):Option (Int×Int):=
 some (IntKind.u64.wrap ((IntKind.u64.wrap ((IntKind.u64.wrap ((uI .u64 x 32) * (uI .u64 y 32)))+(uI .u64 (IntKind.u64.wrap ((IntKind.u64.wrap ((uI .u64 x 32) * (gY .and .u64 y 4294967295)))+(uI .u64 (IntKind.u64.wrap ((gY .and .u64 x 4294967295) * (gY .and .u64 y 4294967295))) 32))) 32)))+(uI .u64 (IntKind.u64.wrap ((gY .and .u64 (IntKind.u64.wrap ((IntKind.u64.wrap ((uI .u64 x 32) * (gY .and .u64 y 4294967295)))+(uI .u64 (IntKind.u64.wrap ((gY .and .u64 x 4294967295) * (gY .and .u64 y 4294967295))) 32))) 4294967295)+(IntKind.u64.wrap ((gY .and .u64 x 4294967295) * (uI .u64 y 32))))) 32)),IntKind.u64.wrap (x * y))
def tF(x y:Int):Option (Int×Int):=
 (OY x y).bind fun x1=>some (x1.1,x1.2)
def QF(x7:List Int):Option (List Int):=
 some x7
def kS:((List Int)×Int)->Option (Step ((List Int)×Int) (List Int))
 | (x5,x6)=>(if decide (x6 < (x5.length:Int)) then need (0<=(x6:Int)/\(x6:Int)<=(x5.length:Int)) (need (0<=(x6:Int)/\(x6:Int)<=(x5.length:Int)) (some (.next (dI x5 x6.toNat ((x5.take x6.toNat).drop 0),bG (x6+((min ((x5.take x6.toNat).drop 0).length (x5.length - x6.toNat):Nat):Int)))))) else some (.stop (x5)))
def QG:(List Int)->Option (List Int)
 | x7=>QF x7
def oF(x:List Int)(x1:Int×Int)(x2:Bool):Option (List Int):=
 (if x2 then none else need (0<=(IntKind.i64.wrap x1.2:Int)/\(IntKind.i64.wrap x1.2:Int)<=4294967296) ((loop (kS) (dI (List.replicate ((IntKind.i64.wrap x1.2).toNat) 0) 0 x,((min x.length ((List.replicate ((IntKind.i64.wrap x1.2).toNat) 0:List Int).length - 0):Nat):Int))).bind (QG)))
def tZ(x:List Int)(count:Int):Option (List Int):=
 (if decide (count < 0) then none else (tF (IntKind.u64.wrap (x.length:Int)) (IntKind.u64.wrap count)).bind fun x1=>(if decide (0 < x1.1) then oF x x1 true else oF x x1 (decide (9223372036854775807 < x1.2))))
def OZ(x1:List Int):Option aE:=
 some (⟨List.replicate ((384:Int).toNat) 0,x1⟩:aE)
def HV:Option aE:=
 need (0<=(384:Int)/\(384:Int)<=4294967296)<|(tZ ([(-1)]) 6).bind fun x2=>OZ x2
def ML:Option aC:=
 some (⟨List.replicate ((3:Int).toNat) (⟨[]⟩:aP),List.replicate ((9:Int).toNat) (⟨[]⟩:aP)⟩:aC)
def K7:Option aC:=
 need (0<=(3:Int)/\(3:Int)<=4294967296)<|need (0<=(9:Int)/\(9:Int)<=4294967296)<|ML
def QH:Option Mem:=
 (HV).bind fun x1=>(K7).bind fun x2=>some (⟨x1,x2⟩:Mem)
def K8:Option aB:=
 need (0<=(3:Int)/\(3:Int)<=4294967296) (some (⟨0,List.replicate ((3:Int).toNat) (⟨false,0,false,0⟩:oV)⟩:aB))
def K9:Option (List aY):=
 need (0<=(3:Int)/\(3:Int)<=4294967296) (some (List.replicate ((3:Int).toNat) (⟨[]⟩:aY)))
def QI:Option (List Int):=
 need (0<=(3:Int)/\(3:Int)<=4294967296) (some (List.replicate ((3:Int).toNat) 0))
def HW:Option aA:=
 (QH).bind fun x1=>(K8).bind fun x2=>(K9).bind fun x3=>(QI).bind fun x4=>some (⟨x1,x2,x3,x4⟩:aA)
def MM(x2:aD):Option aD:=
 some ({x2 with Log:=[]}:aD)
def E4(todo:List Queue):Option aD:=
 (FQ todo).bind fun x1=>(if !x1 then some (⟨(⟨(⟨(⟨[],[]⟩:aE),(⟨[],[]⟩:aC)⟩:Mem),(⟨0,[]⟩:aB),[],[]⟩:aA),[],[],[],[],0⟩:aD) else (HW).bind fun x3=>need (0<=(2:Int)/\(2:Int)<=4294967296)<|need (0<=(3:Int)/\(3:Int)<=4294967296)<|(xX todo).bind fun x4=>MM (⟨x3,List.replicate ((2:Int).toNat) 0,List.replicate ((3:Int).toNat) (⟨false,(⟨0,0,0,0⟩:dB),0,0,(⟨0,0,0,0,0,0,0,0,0,false⟩:Sub),0,0,0,0⟩:bA),x4,[],0⟩:aD))
def aB6(x5:List cZ):Option (List cZ):=
 some x5
def uZ(l:List aY):((List cZ)×Int)->Option (Step ((List cZ)×Int) (List cZ))
 | (x3,x4)=>(if decide (x4 < (l.length:Int)) then (idx l x4).bind fun x6=>need (x3.length+x6.Rows.length<=1073741824) (some (.next (x3++x6.Rows,bG (x4+1)))) else some (.stop (x3)))
def aB7:(List cZ)->Option (List cZ)
 | x5=>aB6 x5
def vA(l:List aY):Option (List cZ):=
 (loop (uZ l) (([]:List cZ),0)).bind (aB7)
def CK(l:List aY):Option Int:=
 (vA l).bind fun x1=>some (x1.length:Int)
def SO(x7:List dB):Option (List dB):=
 some x7
def lX:((List dB)×Int)->Option (Step ((List dB)×Int) (List dB))
 | (x5,x6)=>(if decide (x6 < (x5.length:Int)) then need (0<=(x6:Int)/\(x6:Int)<=(x5.length:Int)) (need (0<=(x6:Int)/\(x6:Int)<=(x5.length:Int)) (some (.next (dI x5 x6.toNat ((x5.take x6.toNat).drop 0),bG (x6+((min ((x5.take x6.toNat).drop 0).length (x5.length - x6.toNat):Nat):Int)))))) else some (.stop (x5)))
def SP:(List dB)->Option (List dB)
 | x7=>SO x7
def pQ(x:List dB)(x1:Int×Int)(x2:Bool):Option (List dB):=
 (if x2 then none else need (0<=(IntKind.i64.wrap x1.2:Int)/\(IntKind.i64.wrap x1.2:Int)<=4294967296) ((loop (lX) (dI (List.replicate ((IntKind.i64.wrap x1.2).toNat) (⟨0,0,0,0⟩:dB)) 0 x,((min x.length ((List.replicate ((IntKind.i64.wrap x1.2).toNat) (⟨0,0,0,0⟩:dB):List dB).length - 0):Nat):Int))).bind (SP)))
def wQ(x:List dB)(count:Int):Option (List dB):=
 (if decide (count < 0) then none else (tF (IntKind.u64.wrap (x.length:Int)) (IntKind.u64.wrap count)).bind fun x1=>(if decide (0 < x1.1) then pQ x x1 true else pQ x x1 (decide (9223372036854775807 < x1.2))))
def IY(x8:aD):Option aD:=
 some x8
def AV(x6:Int)(x9:aD):Option (Step (Int×aD) aD):=
 some (.next (bG (x6+1),x9))
def mR(n:Int)(x3:aD):(Int×aD)->Option (Step (Int×aD) aD)
 | (x6,x7)=>(if decide (x6 < (x3.bK.length:Int)) then (idx x7.bK x6).bind fun x10=>(wQ ([(⟨4,0,0,0⟩:dB)]) n).bind fun x11=>need (x10.iC.length+x11.length<=1073741824)<|AV x6 ({x7 with bK:=x7.bK.set x6.toNat (⟨x10.iC++x11⟩:Queue)}:aD) else some (.stop (x7)))
def IZ:aD->Option aD
 | x8=>IY x8
def mS(n:Int)(x2:Bool)(x3:aD):Option aD:=
 (if x2 then some x3 else (loop (mR n x3) (0,x3)).bind (IZ))
def z9(s:aD)(n:Int):Option aD:=
 (uK s).bind fun x1=>(wH s).bind fun x12=>(if !x12 then mS n true x1 else (MJ s).bind fun x13=>(if !x13 then mS n true x1 else (cK n 0 12).bind fun x14=>mS n (!x14) x1))
def NY(s:aD)(n:Int):Option aD:=
 (z9 s n).bind fun x1=>(FY x1).bind fun x2=>some x2
def HX(x1:Bool):Option Bool:=
 some x1
def bU(x low high:Int):Option Bool:=
 (if decide (low<=x) then HX (decide (x<=high)) else HX false)
def O0(b:List Int):Option Bool:=
 some (decide ((b.length:Int)<=1000))
def nH(b:List Int):Int->Option (Step Int (Out Unit Bool))
 | x2=>(if decide (x2 < (b.length:Int)) then (idx b x2).bind fun x3=>(bU x3 0 255).bind fun x4=>(if !x4 then some (.stop (Out.ret false)) else some (.next (bG (x2+1)))) else some (.stop (Out.brk ())))
def GQ(b:List Int):(Out Unit Bool)->Option Bool
 | .brk ()=>O0 b
 | .ret r=>some r
def HY(b:List Int):Option Bool:=
 (loop (nH b) 0).bind (GQ b)
def YW:Option Bool:=
 some true
def nI(h:aE):Int->Option (Step Int (Out Unit Bool))
 | x3=>(if decide (x3 < 6) then (idx h.Class x3).bind fun x4=>(bU x4 (-1) 2).bind fun x5=>(if !x5 then some (.stop (Out.ret false)) else some (.next (bG (x3+1)))) else some (.stop (Out.brk ())))
def YX:(Out Unit Bool)->Option Bool
 | .brk ()=>YW
 | .ret r=>some r
def sK(h:aE)(x1:Bool):Option Bool:=
 (if x1 then some false else (loop (nI h) 0).bind (YX))
def HZ(h:aE):Option Bool:=
 (if (h.Bytes.length:Int) != 384 then sK h true else (if (h.Class.length:Int) != 6 then sK h true else (HY h.Bytes).bind fun x6=>sK h (!x6)))
def aB8(x5:Int):Option Int:=
 some x5
def vB(b:List Int)(at_ width:Int):(Int×Int)->Option (Step (Int×Int) Int)
 | (x3,x4)=>(if decide (x4 < width) then (idx b (bG (at_+x4))).bind fun x6=>some (.next (bG ((bG (x3 * 256))+x6),bG (x4+1))) else some (.stop (x3)))
def aB9:Int->Option Int
 | x5=>aB8 x5
def vC(b:List Int)(at_ width:Int):Option Int:=
 (loop (vB b at_ width) (0,0)).bind (aB9)
def oG(c:Int):Option Int:=
 (if c == 0 then some 8 else (if c == 1 then some 16 else (if c == 2 then some 40 else some 0)))
def yI(c:Int):Option Int:=
 (bU c 0 2).bind fun x1=>(if !x1 then some 0 else (oG c).bind fun x2=>some (bG (4+x2)))
def mC(c:Int):Option Int:=
 (bU c 0 2).bind fun x1=>(if !x1 then some 0 else (yI c).bind fun x2=>need (x2≠0) (some (bG (Int.tdiv 56 x2))))
def BA(slot:Int):Option Int:=
 (bU slot 0 23).bind fun x1=>(if !x1 then some (-1) else some (bG (Int.tdiv slot 4)))
def wR(slot:Int):Option Int:=
 (bU slot 0 23).bind fun x1=>(if !x1 then some (-1) else some (Int.tmod slot 4))
def E5(slot c:Int)(x1:Bool):Option Int:=
 (if x1 then some (-1) else (BA slot).bind fun x2=>(wR slot).bind fun x3=>(yI c).bind fun x4=>some (bG ((bG ((bG (x2 * 64))+8))+(bG (x3 * x4)))))
def vD(slot c:Int):Option Int:=
 (BA slot).bind fun x5=>(if decide (x5 < 0) then E5 slot c true else (wR slot).bind fun x6=>(mC c).bind fun x7=>(bU x6 0 (bG (x7 - 1))).bind fun x8=>E5 slot c (!x8))
def vF(page index:Int)(x1:Bool):Option Int:=
 (if x1 then some (-1) else some (bG ((bG (page * 4))+index)))
def qY(page index:Int):Option Int:=
 (bU page 0 5).bind fun x2=>(if !x2 then vF page index true else (bU index 0 3).bind fun x3=>vF page index (!x3))
def aCA:Option Bool:=
 some true
def qE(h:aE)(p:Int):Int->Option (Step Int (Out Unit Bool))
 | x3=>(if decide (x3 < (bG ((bG (p * 64))+64))) then (idx h.Bytes x3).bind fun x4=>(if x4 != 0 then some (.stop (Out.ret false)) else some (.next (bG (x3+1)))) else some (.stop (Out.brk ())))
def aCB:(Out Unit Bool)->Option Bool
 | .brk ()=>aCA
 | .ret r=>some r
def aCC:Option Bool:=
 some true
def qF(h:aE)(p x1:Int):Int->Option (Step Int (Out Unit Bool))
 | x9=>(mC x1).bind fun x10=>(if decide (x9 < x10) then (qY p x9).bind fun x11=>(vD x11 x1).bind fun x12=>(vC h.Bytes x12 4).bind fun x13=>(bU x13 1 7).bind fun x14=>(if !x14 then some (.stop (Out.ret false)) else some (.next (bG (x9+1)))) else some (.stop (Out.brk ())))
def aCD:(Out Unit Bool)->Option Bool
 | .brk ()=>aCC
 | .ret r=>some r
def QJ(h:aE)(p x1:Int):Option Bool:=
 (loop (qF h p x1) 0).bind (aCD)
def qG(h:aE)(p:Int):Int->Option (Step Int (Out Unit Bool))
 | x7=>(if decide (x7 < (bG ((bG (p * 64))+8))) then (idx h.Bytes x7).bind fun x15=>(if x15 != 0 then some (.stop (Out.ret false)) else some (.next (bG (x7+1)))) else some (.stop (Out.brk ())))
def QK(h:aE)(p x1:Int):(Out Unit Bool)->Option Bool
 | .brk ()=>QJ h p x1
 | .ret r=>some r
def kT(h:aE)(p x1:Int)(x5:Bool):Option Bool:=
 (if x5 then some false else (loop (qG h p) (bG ((bG (p * 64))+3))).bind (QK h p x1))
def KE(h:aE)(p:Int):Option Bool:=
 (idx h.Class p).bind fun x1=>(if decide (x1 < 0) then (loop (qE h p) (bG (p * 64))).bind (aCB) else (idx h.Bytes (bG (p * 64))).bind fun x16=>(if x16 != 171 then kT h p x1 true else (idx h.Bytes (bG ((bG (p * 64))+1))).bind fun x17=>(if x17 != x1 then kT h p x1 true else (idx h.Bytes (bG ((bG (p * 64))+2))).bind fun x18=>(mC x1).bind fun x19=>kT h p x1 (x18 != x19))))
def aCE:Option Bool:=
 some true
def vG(h:aE):Int->Option (Step Int (Out Unit Bool))
 | x3=>(if decide (x3 < 6) then (KE h x3).bind fun x4=>(if !x4 then some (.stop (Out.ret false)) else some (.next (bG (x3+1)))) else some (.stop (Out.brk ())))
def aCF:(Out Unit Bool)->Option Bool
 | .brk ()=>aCE
 | .ret r=>some r
def KF(h:aE):Option Bool:=
 (HZ h).bind fun x1=>(if !x1 then some false else (loop (vG h) 0).bind (aCF))
def aEV:Option Bool:=
 some false
def tG(l:List Int)(x:Int):Int->Option (Step Int (Out Unit Bool))
 | x2=>(if decide (x2 < (l.length:Int)) then (idx l x2).bind fun x3=>(if x3 == x then some (.stop (Out.ret true)) else some (.next (bG (x2+1)))) else some (.stop (Out.brk ())))
def aEW:(Out Unit Bool)->Option Bool
 | .brk ()=>aEV
 | .ret r=>some r
def D9(l:List Int)(x:Int):Option Bool:=
 (loop (tG l x) 0).bind (aEW)
def aEX(x10:List Int):Option (List Int):=
 some x10
def yJ(l:aC):((List Int)×Int)->Option (Step ((List Int)×Int) (List Int))
 | (x8,x9)=>(if decide (x9 < (l.cL.length:Int)) then (idx l.cL x9).bind fun x11=>need (x8.length+x11.aS.length<=1073741824) (some (.next (x8++x11.aS,bG (x9+1)))) else some (.stop (x8)))
def aEY:(List Int)->Option (List Int)
 | x10=>aEX x10
def SY(l:aC)(x5:List Int):Option (List Int):=
 (loop (yJ l) (x5,0)).bind (aEY)
def yK(l:aC):((List Int)×Int)->Option (Step ((List Int)×Int) (List Int))
 | (x3,x4)=>(if decide (x4 < (l.Global.length:Int)) then (idx l.Global x4).bind fun x12=>need (x3.length+x12.aS.length<=1073741824) (some (.next (x3++x12.aS,bG (x4+1)))) else some (.stop (x3)))
def SZ(l:aC):(List Int)->Option (List Int)
 | x5=>SY l x5
def I0(l:aC):Option (List Int):=
 (loop (yK l) (([]:List Int),0)).bind (SZ l)
def YY:Option Bool:=
 some true
def AA(x6:Int)(x7:Bool):Option (Step Int (Out Unit Bool)):=
 (if x7 then some (.stop (Out.ret false)) else some (.next (bG (x6+1))))
def nJ(x4:(List Int)):Int->Option (Step Int (Out Unit Bool))
 | x6=>(if decide (x6 < (x4.length:Int)) then (idx x4 x6).bind fun x8=>(bU x8 0 23).bind fun x9=>(if !x9 then AA x6 true else need (0<=(x6:Int)/\(x6:Int)<=(x4.length:Int)) ((idx x4 x6).bind fun x10=>(D9 ((x4.take x6.toNat).drop 0) x10).bind fun x11=>AA x6 x11)) else some (.stop (Out.brk ())))
def YZ:(Out Unit Bool)->Option Bool
 | .brk ()=>YY
 | .ret r=>some r
def O1(l:aC):Option Bool:=
 (I0 l).bind fun x4=>(loop (nJ x4) 0).bind (YZ)
def nK(l:aC):Int->Option (Step Int (Out Unit Bool))
 | x3=>(if decide (x3 < (l.cL.length:Int)) then (idx l.cL x3).bind fun x12=>(if decide (2 < (x12.aS.length:Int)) then some (.stop (Out.ret false)) else some (.next (bG (x3+1)))) else some (.stop (Out.brk ())))
def O2(l:aC):(Out Unit Bool)->Option Bool
 | .brk ()=>O1 l
 | .ret r=>some r
def AB(l:aC)(x1:Bool):Option Bool:=
 (if x1 then some false else (loop (nK l) 0).bind (O2 l))
def H0(l:aC):Option Bool:=
 (if (l.Global.length:Int) != 3 then AB l true else AB l ((l.cL.length:Int) != 9))
def sL(h:aE)(x1:Int)(x2:Bool):Option Int:=
 (if x2 then some (-1) else (idx h.Class x1).bind fun x3=>some x3)
def mD(h:aE)(slot:Int):Option Int:=
 (BA slot).bind fun x1=>(if decide (x1 < 0) then sL h x1 true else (idx h.Class x1).bind fun x4=>(if decide (x4 < 0) then sL h x1 true else (idx h.Class x1).bind fun x5=>(wR slot).bind fun x6=>(mC x5).bind fun x7=>sL h x1 (decide (x7<=x6))))
def vH(h:aE)(slot:Int):Option Int:=
 (mD h slot).bind fun x1=>(vD slot x1).bind fun x2=>(vC h.Bytes x2 4).bind fun x3=>some x3
def W5:Option Bool:=
 some true
def wS(x2:Int)(x3:Bool):Option (Step Int (Out Unit Bool)):=
 (if x3 then some (.stop (Out.ret false)) else some (.next (bG (x2+1))))
def mO(h:aE)(l:List Int)(c:Int):Int->Option (Step Int (Out Unit Bool))
 | x2=>(if decide (x2 < (l.length:Int)) then (idx l x2).bind fun x4=>(mD h x4).bind fun x5=>(if x5 != c then wS x2 true else (idx l x2).bind fun x6=>(vH h x6).bind fun x7=>wS x2 (decide (6 < x7))) else some (.stop (Out.brk ())))
def W6:(Out Unit Bool)->Option Bool
 | .brk ()=>W5
 | .ret r=>some r
def yL(h:aE)(l:List Int)(c:Int):Option Bool:=
 (loop (mO h l c) 0).bind (W6)
def yN(w_ c:Int)(x1:Bool):Option Int:=
 (if x1 then some (-1) else some (bG ((bG (w_ * 3))+c)))
def vI(w_ c:Int):Option Int:=
 (bU w_ 0 2).bind fun x2=>(if !x2 then yN w_ c true else (bU c 0 2).bind fun x3=>yN w_ c (!x3))
def aEZ:Option Bool:=
 some true
def S1(x3:Int):Option (Step Int (Out Unit Bool)):=
 some (.next (bG (x3+1)))
def yO(m:Mem)(x3:Int):Int->Option (Step Int (Out Unit Bool))
 | x7=>(if decide (x7 < 3) then (vI x7 x3).bind fun x8=>(idx m.aC.cL x8).bind fun x9=>(yL m.aE x9.aS x3).bind fun x10=>(if !x10 then some (.stop (Out.ret false)) else some (.next (bG (x7+1)))) else some (.stop (Out.brk ())))
def S2(x3:Int):(Out Unit Bool)->Option (Step Int (Out Unit Bool))
 | .brk ()=>S1 x3
 | .ret r=>some (.stop (Out.ret r))
def yP(m:Mem):Int->Option (Step Int (Out Unit Bool))
 | x3=>(if decide (x3 < 3) then (idx m.aC.Global x3).bind fun x4=>(yL m.aE x4.aS x3).bind fun x5=>(if !x5 then some (.stop (Out.ret false)) else (loop (yO m x3) 0).bind (S2 x3)) else some (.stop (Out.brk ())))
def aE0:(Out Unit Bool)->Option Bool
 | .brk ()=>aEZ
 | .ret r=>some r
def E6(m:Mem)(x1:Bool):Option Bool:=
 (if x1 then some false else (loop (yP m) 0).bind (aE0))
def I1(m:Mem):Option Bool:=
 (KF m.aE).bind fun x11=>(if !x11 then E6 m true else (H0 m.aC).bind fun x12=>E6 m (!x12))
def wT(x1:Bool):Option Bool:=
 some x1
def hU(h:Int):Option Bool:=
 (bU h 32 223).bind fun x2=>(if x2 then wT (decide ((Int.tmod h 32) < 24)) else wT false)
def eX(h:Int):Option Int:=
 (hU h).bind fun x1=>(if !x1 then some (-1) else some (Int.tmod h 32))
def KG(l:aC)(slot:Int):Option Bool:=
 (I0 l).bind fun x1=>(D9 x1 slot).bind fun x2=>some x2
def CL(m:Mem)(slot:Int):Option Int:=
 (mD m.aE slot).bind fun x1=>(if decide (x1 < 0) then some 0 else (KG m.aC slot).bind fun x2=>(if x2 then some 1 else (vH m.aE slot).bind fun x3=>(if decide (6 < x3) then some 2 else some 3)))
def CM(h:Int):Option Int:=
 (hU h).bind fun x1=>(if !x1 then some 0 else some (bG (Int.tdiv h 32)))
def sM(x1:Bool):Option Bool:=
 some x1
def rO(m:Mem)(h:Int):Option Bool:=
 (hU h).bind fun x2=>(if x2 then (eX h).bind fun x3=>(CL m x3).bind fun x4=>(if x4 == 3 then (eX h).bind fun x5=>(vH m.aE x5).bind fun x6=>(CM h).bind fun x7=>sM (x6 == x7) else sM false) else sM false)
def O3:Option Bool:=
 some true
def lR(x3:Int)(x5:Bool):Option (Step Int (Out Unit Bool)):=
 (if x5 then some (.stop (Out.ret false)) else some (.next (bG (x3+1))))
def sN(c:aB):Int->Option (Step Int (Out Unit Bool))
 | x3=>(if decide (x3 < 3) then (idx c.cG x3).bind fun x4=>(if !x4.On then (if !(decide (x4=(⟨false,0,false,0⟩:oV))) then lR x3 true else (bU x4.aG 0 c.aG).bind fun x6=>(if !x6 then lR x3 true else (bU x4.Seen 0 2).bind fun x7=>lR x3 (!x7))) else (bU x4.aG 0 c.aG).bind fun x8=>(if !x8 then lR x3 true else (bU x4.Seen 0 2).bind fun x9=>lR x3 (!x9))) else some (.stop (Out.brk ())))
def GR:(Out Unit Bool)->Option Bool
 | .brk ()=>O3
 | .ret r=>some r
def nL(c:aB)(x1:Bool):Option Bool:=
 (if x1 then some false else (loop (sN c) 0).bind (GR))
def oH(c:aB):Option Bool:=
 (bU c.aG 0 100000).bind fun x10=>(if !x10 then nL c true else nL c ((c.cG.length:Int) != 3))
def Y0:Option Bool:=
 some true
def sO(x5:List Int)(x6 x8:Int)(x9:Bool):Option (Step ((List Int)×Int) (Out Unit Bool)):=
 (if x9 then some (.stop (Out.ret false)) else need (x5.length+([x8]).length<=1073741824) (some (.next (x5++([x8]),bG (x6+1)))))
def sP(x1:(List cZ)):((List Int)×Int)->Option (Step ((List Int)×Int) (Out Unit Bool))
 | (x5,x6)=>(if decide (x6 < (x1.length:Int)) then (idx x1 x6).bind fun x7=>(eX x7.Handle).bind fun x8=>(if decide (x8 < 0) then sO x5 x6 x8 true else (bU x7.aG 0 100000).bind fun x10=>(if !x10 then sO x5 x6 x8 true else (D9 x5 x8).bind fun x11=>sO x5 x6 x8 x11)) else some (.stop (Out.brk ())))
def Y1:(Out Unit Bool)->Option Bool
 | .brk ()=>Y0
 | .ret r=>some r
def AD(x1:(List cZ))(x2:Bool):Option Bool:=
 (if x2 then some false else (loop (sP x1) (([]:List Int),0)).bind (Y1))
def H3(l:List aY):Option Bool:=
 (vA l).bind fun x1=>(if (l.length:Int) != 3 then AD x1 true else AD x1 (decide (24 < (x1.length:Int))))
def S3(z:List Int):Option Bool:=
 some ((z.length:Int) == 3)
def E7(x2:Int)(x3:Bool):Option (Step Int (Out Unit Bool)):=
 (if x3 then some (.stop (Out.ret false)) else some (.next (bG (x2+1))))
def yQ(z:List Int):Int->Option (Step Int (Out Unit Bool))
 | x2=>(if decide (x2 < (z.length:Int)) then (idx z x2).bind fun x4=>(if x4 != 0 then (idx z x2).bind fun x5=>(hU x5).bind fun x6=>E7 x2 (!x6) else E7 x2 false) else some (.stop (Out.brk ())))
def S4(z:List Int):(Out Unit Bool)->Option Bool
 | .brk ()=>S3 z
 | .ret r=>some r
def EA(z:List Int):Option Bool:=
 (loop (yQ z) 0).bind (S4 z)
def aCG:Option Bool:=
 some true
def CN(x4:Int)(x5:Bool):Option (Step Int (Out Unit Bool)):=
 (if x5 then some (.stop (Out.ret false)) else some (.next (bG (x4+1))))
def vJ(b:aA)(x2:(List cZ)):Int->Option (Step Int (Out Unit Bool))
 | x4=>(if decide (x4 < (x2.length:Int)) then (idx x2 x4).bind fun x6=>(rO b.Mem x6.Handle).bind fun x7=>(if !x7 then CN x4 true else CN x4 (decide (b.aB.aG < x6.aG))) else some (.stop (Out.brk ())))
def aCH:(Out Unit Bool)->Option Bool
 | .brk ()=>aCG
 | .ret r=>some r
def qH(b:aA)(x1:Bool):Option Bool:=
 (if x1 then some false else (vA b.aL).bind fun x2=>(loop (vJ b x2) 0).bind (aCH))
def FZ(b:aA):Option Bool:=
 (I1 b.Mem).bind fun x8=>(if !x8 then qH b true else (oH b.aB).bind fun x9=>(if !x9 then qH b true else (H3 b.aL).bind fun x10=>(if !x10 then qH b true else (EA b.iS).bind fun x11=>qH b (!x11))))
def lF(x1:Bool):Option Bool:=
 some x1
def vK(kind:Int):Option Bool:=
 (if kind == 1 then lF true else (if kind == 2 then lF true else (if kind == 3 then lF true else lF (kind == 7))))
def H4(x3:Bool):Option Bool:=
 some x3
def H5(x4:Bool):Option Bool:=
 some x4
def CP(o_:dB)(x2:Bool):Option Bool:=
 (if x2 then some false else (if o_.Kind != 1 then (if o_.gX == 0 then H4 (o_.dV == 0) else H4 false) else (bU o_.gX 0 100).bind fun x5=>(if x5 then (bU o_.dV 0 65535).bind fun x6=>H5 x6 else H5 false)))
def IK(o_:dB):Option Bool:=
 (bU o_.Kind 1 7).bind fun x1=>(if !x1 then some false else (vK o_.Kind).bind fun x7=>(if !x7 then (if o_.Cell != 0 then CP o_ true else (bU o_.Cell 0 1).bind fun x8=>CP o_ (!x8)) else (bU o_.Cell 0 1).bind fun x9=>CP o_ (!x9)))
def O4(todo:List Queue):Option Bool:=
 some ((todo.length:Int) == 3)
def O5(x2:Int):Option (Step Int (Out Unit Bool)):=
 some (.next (bG (x2+1)))
def nM(todo:List Queue)(x2:Int):Int->Option (Step Int (Out Unit Bool))
 | x5=>(idx todo x2).bind fun x6=>(if decide (x5 < (x6.iC.length:Int)) then (idx todo x2).bind fun x7=>(idx x7.iC x5).bind fun x8=>(IK x8).bind fun x9=>(if !x9 then some (.stop (Out.ret false)) else some (.next (bG (x5+1)))) else some (.stop (Out.brk ())))
def O6(x2:Int):(Out Unit Bool)->Option (Step Int (Out Unit Bool))
 | .brk ()=>O5 x2
 | .ret r=>some (.stop (Out.ret r))
def nN(todo:List Queue):Int->Option (Step Int (Out Unit Bool))
 | x2=>(if decide (x2 < (todo.length:Int)) then (idx todo x2).bind fun x3=>(if decide (12 < (x3.iC.length:Int)) then some (.stop (Out.ret false)) else (loop (nM todo x2) 0).bind (O6 x2)) else some (.stop (Out.brk ())))
def O7(todo:List Queue):(Out Unit Bool)->Option Bool
 | .brk ()=>O4 todo
 | .ret r=>some r
def CQ(todo:List Queue):Option Bool:=
 (loop (nN todo) 0).bind (O7 todo)
def AE(x1:Bool):Option Bool:=
 some x1
def iV(h:Int):Option Bool:=
 (if h == 0 then AE true else (hU h).bind fun x2=>AE x2)
def Y2:Option Bool:=
 some true
def eY(x5:Int)(x7:Bool):Option (Step Int (Out Unit Bool)):=
 (if x7 then some (.stop (Out.ret false)) else some (.next (bG (x5+1))))
def nO(s:aD):Int->Option (Step Int (Out Unit Bool))
 | x5=>(if decide (x5 < 3) then (idx s.aU x5).bind fun x6=>(if !x6.cN then (if !(decide (x6=(⟨false,(⟨0,0,0,0⟩:dB),0,0,(⟨0,0,0,0,0,0,0,0,0,false⟩:Sub),0,0,0,0⟩:bA))) then eY x5 true else (if x6.cN then (IK x6.Op).bind fun x8=>(if !x8 then eY x5 true else (iV x6.H).bind fun x9=>(if !x9 then eY x5 true else (iV x6.Old).bind fun x10=>eY x5 (!x10))) else (iV x6.H).bind fun x11=>(if !x11 then eY x5 true else (iV x6.Old).bind fun x12=>eY x5 (!x12)))) else (if x6.cN then (IK x6.Op).bind fun x13=>(if !x13 then eY x5 true else (iV x6.H).bind fun x14=>(if !x14 then eY x5 true else (iV x6.Old).bind fun x15=>eY x5 (!x15))) else (iV x6.H).bind fun x16=>(if !x16 then eY x5 true else (iV x6.Old).bind fun x17=>eY x5 (!x17)))) else some (.stop (Out.brk ())))
def Y3:(Out Unit Bool)->Option Bool
 | .brk ()=>Y2
 | .ret r=>some r
def O8(s:aD):Option Bool:=
 (loop (nO s) 0).bind (Y3)
def nP(s:aD):Int->Option (Step Int (Out Unit Bool))
 | x3=>(if decide (x3 < 2) then (idx s.Cells x3).bind fun x18=>(iV x18).bind fun x19=>(if !x19 then some (.stop (Out.ret false)) else some (.next (bG (x3+1)))) else some (.stop (Out.brk ())))
def O9(s:aD):(Out Unit Bool)->Option Bool
 | .brk ()=>O8 s
 | .ret r=>some r
def lS(s:aD)(x1:Bool):Option Bool:=
 (if x1 then some false else (loop (nP s) 0).bind (O9 s))
def wU(s:aD):Option Bool:=
 (FZ s.aA).bind fun x20=>(if !x20 then lS s true else (if (s.Cells.length:Int) != 2 then lS s true else (if (s.aU.length:Int) != 3 then lS s true else (CQ s.bK).bind fun x21=>(if !x21 then lS s true else (bU s.aI 0 1000000).bind fun x22=>lS s (!x22)))))
def vL(x9:List Int):Option (List Int):=
 some x9
def I2(x:Int)(x7:List Int)(x8:Bool):Option (List Int):=
 (if !x8 then need (x7.length+([x]).length<=1073741824) (vL (x7++([x]))) else vL x7)
def qI(l:List Int)(x6:Int)(x11:List Int)(x12:Bool):Option (Step ((List Int)×Bool×Int) (Out ((List Int)×Bool) (List Int))):=
 (idx l x6).bind fun x13=>need (x11.length+([x13]).length<=1073741824) (some (.next (x11++([x13]),x12,bG (x6+1))))
def qJ(l:List Int)(x:Int)(x4:List Int)(x5:Bool)(x6:Int)(x14:Bool):Option (Step ((List Int)×Bool×Int) (Out ((List Int)×Bool) (List Int))):=
 (if x14 then need (x4.length+([x]).length<=1073741824) (qI l x6 (x4++([x])) true) else qI l x6 x4 x5)
def jN(l:List Int)(x:Int):((List Int)×Bool×Int)->Option (Step ((List Int)×Bool×Int) (Out ((List Int)×Bool) (List Int)))
 | (x4,x5,x6)=>(if decide (x6 < (l.length:Int)) then (idx l x6).bind fun x10=>(if x10 == x then some (.stop (Out.ret l)) else (if !x5 then qJ l x x4 x5 x6 (decide (x < x10)) else qJ l x x4 x5 x6 false)) else some (.stop (Out.brk (x4,x5))))
def vM(x:Int):(Out ((List Int)×Bool) (List Int))->Option (List Int)
 | .brk (x7,x8)=>I2 x x7 x8
 | .ret r=>some r
def vN(l:List Int)(x:Int):Option (List Int):=
 (loop (jN l x) (([]:List Int),false,0)).bind (vM x)
def CR(c:dZ)(x1 x2:Int):Option (Int×(Int×Int)):=
 some (x1,(x2,bG ((bG (c.h * 6364136223846793005))+1442695040888963407)))
def qZ(c:dZ):Option (Int×(Int×Int)):=
 (if decide (c.i < (c.b.length:Int)) then (idx c.b c.i).bind fun x3=>CR c (gY .and .i64 (bG ((gY .and .i64 (gY .xor .i64 (uI .i64 (bG ((bG (c.h * 6364136223846793005))+1442695040888963407)) 33) (uI .i64 (bG ((bG (c.h * 6364136223846793005))+1442695040888963407)) 45)) 255)+(x3.toNat:Int))) 255) (bG (c.i+1)) else CR c (gY .and .i64 (gY .xor .i64 (uI .i64 (bG ((bG (c.h * 6364136223846793005))+1442695040888963407)) 33) (uI .i64 (bG ((bG (c.h * 6364136223846793005))+1442695040888963407)) 45)) 255) c.i)
def gC(c:dZ)(n:Int):Option (Int×(Int×Int)):=
 (if decide (n<=0) then some (0,(c.i,c.h)) else (if decide (n<=256) then (qZ c).bind fun x1=>need (n≠0) (some (Int.tmod x1.1 n,(x1.2.1,x1.2.2))) else (qZ c).bind fun x2=>(qZ (⟨c.b,x2.2.1,x2.2.2⟩:dZ)).bind fun x3=>(qZ (⟨c.b,x3.2.1,x3.2.2⟩:dZ)).bind fun x4=>(qZ (⟨c.b,x4.2.1,x4.2.2⟩:dZ)).bind fun x5=>need (n≠0) (some (Int.tmod (bG ((bG ((bG ((bG (x2.1 * 16777216))+(bG (x3.1 * 65536))))+(bG (x4.1 * 256))))+x5.1)) n,(x5.2.1,x5.2.2)))))
def QL(c:dZ)(n:Int):Option (Bool×(Int×Int)):=
 (gC c n).bind fun x1=>some (x1.1 == 0,(x1.2.1,x1.2.2))
def vO(b:List Int):Option (List Int):=
 need (([]:List Int).length+b.length<=1073741824) (some (([]:List Int)++b))
def QM(h:aE):Option aE:=
 (vO h.Bytes).bind fun x1=>(vO h.Class).bind fun x2=>some (⟨x1,x2⟩:aE)
def aCI(x5:List aP):Option (List aP):=
 some x5
def I3(l:List aP):((List aP)×Int)->Option (Step ((List aP)×Int) (List aP))
 | (x3,x4)=>(if decide (x4 < (l.length:Int)) then (idx l x4).bind fun x6=>(vO x6.aS).bind fun x7=>need (x3.length+([(⟨x7⟩:aP)]).length<=1073741824) (some (.next (x3++([(⟨x7⟩:aP)]),bG (x4+1)))) else some (.stop (x3)))
def aCJ:(List aP)->Option (List aP)
 | x5=>aCI x5
def KH(l:List aP):Option (List aP):=
 (loop (I3 l) (([]:List aP),0)).bind (aCJ)
def QN(l:aC):Option aC:=
 (KH l.Global).bind fun x1=>(KH l.cL).bind fun x2=>some (⟨x1,x2⟩:aC)
def QO(m:Mem):Option Mem:=
 (QM m.aE).bind fun x1=>(QN m.aC).bind fun x2=>some (⟨x1,x2⟩:Mem)
def H6(slot c:Int):Option Int:=
 (vD slot c).bind fun x1=>(if decide (x1 < 0) then some (-1) else some (bG (x1+4)))
def CS(at_ x3 x4:Int)(x5:Bool):Option (Int×Int):=
 (if x5 then some (0,2) else (H6 x3 x4).bind fun x6=>some (bG (x6+at_),0))
def CT(m:Mem)(h at_ width:Int)(x1:Bool):Option (Int×Int):=
 (if x1 then some (0,1) else (rO m h).bind fun x2=>(if !x2 then some (0,4) else (eX h).bind fun x3=>(mD m.aE x3).bind fun x4=>(oG x4).bind fun x7=>(bU at_ 0 (bG (x7 - 1))).bind fun x8=>(if !x8 then CS at_ x3 x4 true else (oG x4).bind fun x9=>CS at_ x3 x4 (decide ((bG (x9 - at_)) < width)))))
def QP(m:Mem)(h at_ width:Int):Option (Int×Int):=
 (I1 m).bind fun x10=>(if !x10 then CT m h at_ width true else (bU width 1 7).bind fun x11=>CT m h at_ width (!x11))
def S5(x8:Int)(x9:List UInt8):Option (List UInt8):=
 (if decide (0 < x8) then some ([]) else some x9)
def E8(width:Int):(Int×(List UInt8)×Int)->Option (Step (Int×(List UInt8)×Int) (Int×(List UInt8)))
 | (x5,x6,x7)=>(if decide (x7 < width) then need (([u8 (Int.tmod x5 256)]).length+x6.length<=9223372036854775807) (some (.next (bG (Int.tdiv x5 256),([u8 (Int.tmod x5 256)])++x6,bG (x7+1)))) else some (.stop ((x5,x6))))
def S6:(Int×(List UInt8))->Option (List UInt8)
 | (x8,x9)=>S5 x8 x9
def LA(n width:Int)(x1:Bool):Option (List UInt8):=
 (if x1 then some ([]) else (loop (E8 width) (n,[],0)).bind (S6))
def NZ(n width:Int):Option (List UInt8):=
 (bU width 1 7).bind fun x10=>(if !x10 then LA n width true else LA n width (decide (n < 0)))
def Y4(x7:List Int):Option (List Int):=
 some x7
def AF(at_:Int):((List Int)×Int×Int)->Option (Step ((List Int)×Int×Int) (List Int))
 | (x4,x5,x6)=>(if decide (0<=x6) then (idx x4 (bG (at_+x6))).bind fun x8=>some (.next (x4.set ((bG (at_+x6)).toNat) (Int.tmod x5 256),bG (Int.tdiv x5 256),bG (x6 - 1))) else some (.stop (x4)))
def Y5:(List Int)->Option (List Int)
 | x7=>Y4 x7
def wV(b:List Int)(at_ width n:Int):Option (List Int):=
 (loop (AF at_) (b,n,bG (width - 1))).bind (Y5)
def CU(m:Mem)(h at_ width n:Int):Option (Mem×Int):=
 (QO m).bind fun x1=>(QP m h at_ width).bind fun x2=>(if x2.2 != 0 then some (x1,x2.2) else (NZ n width).bind fun x3=>(if x3 == ([]) then some (x1,1) else (wV x1.aE.Bytes x2.1 width n).bind fun x4=>some ((⟨(⟨x4,x1.aE.Class⟩:aE),x1.aC⟩:Mem),0)))
def Y6(x5:List Int):Option aE:=
 some (⟨List.replicate ((384:Int).toNat) 0,x5⟩:aE)
def sQ:(Int×(List Int))->Option (Step (Int×(List Int)) (List Int))
 | (x3,x4)=>(if decide (x3 < 6) then need (x4.length+([(-1)]).length<=1073741824) (some (.next (bG (x3+1),x4++([(-1)])))) else some (.stop (x4)))
def Y7:(List Int)->Option aE
 | x5=>Y6 x5
def H7:Option aE:=
 need (0<=(384:Int)/\(384:Int)<=4294967296) ((loop (sQ) (0,[])).bind (Y7))
def MN:Option aC:=
 some (⟨List.replicate ((3:Int).toNat) (⟨[]⟩:aP),List.replicate ((9:Int).toNat) (⟨[]⟩:aP)⟩:aC)
def LB:Option aC:=
 need (0<=(3:Int)/\(3:Int)<=4294967296)<|need (0<=(9:Int)/\(9:Int)<=4294967296)<|MN
def QQ:Option Mem:=
 (H7).bind fun x1=>(LB).bind fun x2=>some (⟨x1,x2⟩:Mem)
def I4(x2 x3:List aP):Option aC:=
 some (⟨x2,x3⟩:aC)
def QT(x:aC)(slot x1:Int)(x4:aP):Option aC:=
 I4 x.Global (x.cL.set x1.toNat (⟨x4.aS++([slot])⟩:aP))
def QU(x:aC)(x5:List aP):Option aC:=
 I4 x5 x.cL
def QV(x:aC)(w_ c slot:Int):Option aC:=
 (vI w_ c).bind fun x1=>(idx x.cL x1).bind fun x4=>(if decide ((x4.aS.length:Int) < 2) then need (x4.aS.length+([slot]).length<=1073741824)<|QT x slot x1 x4 else (idx x.Global c).bind fun x6=>need (x6.aS.length+([slot]).length<=1073741824)<|QU x (x.Global.set c.toNat (⟨x6.aS++([slot])⟩:aP)))
def I5(x:Mem)(x3:List Int)(x4 x5:List aP):Option Mem:=
 some (⟨(⟨x3,x.aE.Class⟩:aE),(⟨x4,x5⟩:aC)⟩:Mem)
def I6(x:Mem)(w_ slot x1 x2:Int)(x3:List Int):Option Mem:=
 (if decide ((bG (x2+1))<=6) then (QV x.aC w_ x1 slot).bind fun x6=>I5 x x3 x6.Global x6.cL else I5 x x3 x.aC.Global x.aC.cL)
def F5(x:Mem)(w_ slot:Int):Option Mem:=
 (mD x.aE slot).bind fun x1=>(vH x.aE slot).bind fun x2=>(vD slot x1).bind fun x7=>(wV x.aE.Bytes x7 4 (bG (x2+1))).bind fun x8=>I6 x w_ slot x1 x2 x8
def Y8:Option Int:=
 some (-1)
def fK(size:Int):Int->Option (Step Int (Out Unit Int))
 | x2=>(if decide (x2 < 3) then (oG x2).bind fun x3=>(bU size 1 x3).bind fun x4=>(if x4 then some (.stop (Out.ret x2)) else some (.next (bG (x2+1)))) else some (.stop (Out.brk ())))
def Y9:(Out Unit Int)->Option Int
 | .brk ()=>Y8
 | .ret r=>some r
def CV(size:Int):Option Int:=
 (loop (fK size) 0).bind (Y9)
def ZA(h:aE):Option (aE×(List Int)):=
 some (h,([]:List Int))
def GS(x2:Int):Option (Step Int (Out Unit (aE×(List Int)))):=
 some (.next (bG (x2+1)))
def ZB(h:aE)(c x2:Int)(x14 x15:List Int):Option (Step Int (Out Unit (aE×(List Int)))):=
 some (.stop (Out.ret ((⟨x15,h.Class.set x2.toNat c⟩:aE),x14)))
def PA(x2:Int)(x11:List Int)(x12:Int)(x17:List Int):Option (Step ((List Int)×Int×(List Int)) ((List Int)×(List Int))):=
 (qY x2 x12).bind fun x18=>need (x11.length+([x18]).length<=1073741824) (some (.next (x11++([x18]),bG (x12+1),x17)))
def AG(c x2:Int):((List Int)×Int×(List Int))->Option (Step ((List Int)×Int×(List Int)) ((List Int)×(List Int)))
 | (x11,x12,x13)=>(mC c).bind fun x16=>(if decide (x12 < x16) then (qY x2 x12).bind fun x19=>(vD x19 c).bind fun x20=>(wV x13 x20 4 1).bind fun x21=>PA x2 x11 x12 x21 else some (.stop ((x11,x13))))
def ZC(h:aE)(c x2:Int):((List Int)×(List Int))->Option (Step Int (Out Unit (aE×(List Int))))
 | (x14,x15)=>ZB h c x2 x14 x15
def eZ(h:aE)(c:Int):Int->Option (Step Int (Out Unit (aE×(List Int))))
 | x2=>(if decide (x2 < 6) then (idx h.Class x2).bind fun x3=>(if x3 != (-1) then GS x2 else (idx h.Bytes (bG (x2 * 64))).bind fun x4=>(idx (h.Bytes.set ((bG (x2 * 64)).toNat) 171) (bG ((bG (x2 * 64))+1))).bind fun x5=>(mC c).bind fun x6=>(idx ((h.Bytes.set ((bG (x2 * 64)).toNat) 171).set ((bG ((bG (x2 * 64))+1)).toNat) c) (bG ((bG (x2 * 64))+2))).bind fun x7=>(loop (AG c x2) (([]:List Int),0,((h.Bytes.set ((bG (x2 * 64)).toNat) 171).set ((bG ((bG (x2 * 64))+1)).toNat) c).set ((bG ((bG (x2 * 64))+2)).toNat) x6)).bind (ZC h c x2)) else some (.stop (Out.brk ())))
def ZD(h:aE):(Out Unit (aE×(List Int)))->Option (aE×(List Int))
 | .brk ()=>ZA h
 | .ret r=>some r
def rP(h:aE)(c:Int):Option (aE×(List Int)):=
 (loop (eZ h c) 0).bind (ZD h)
def GU(m:Mem)(c:Int)(x1:aE×(List Int))(x2:aP)(x3:Int):Option (Mem×Int):=
 some ((⟨x1.1,(⟨m.aC.Global.set c.toNat (⟨x2.aS++((x1.2.take x1.2.length).drop ((1:Int).toNat))⟩:aP),m.aC.cL⟩:aC)⟩:Mem),x3)
def CX(m:Mem)(c:Int):Option (Mem×Int):=
 (rP m.aE c).bind fun x1=>(if (x1.2.length:Int) == 0 then some ((⟨x1.1,m.aC⟩:Mem),(-1)) else (idx m.aC.Global c).bind fun x2=>need (0<=(1:Int)/\(1:Int)<=(x1.2.length:Int)) (need (x2.aS.length+((x1.2.take x1.2.length).drop ((1:Int).toNat)).length<=1073741824) ((idx x1.2 0).bind fun x4=>GU m c x1 x2 x4)))
def LC(s:aP)(x1:Int):Option (aP×Int):=
 some ((⟨(s.aS.take ((bG ((s.aS.length:Int) - 1)).toNat)).drop 0⟩:aP),x1)
def rQ(s:aP):Option (aP×Int):=
 (if (s.aS.length:Int) == 0 then some (s,(-1)) else need (0<=(bG ((s.aS.length:Int) - 1):Int)/\(bG ((s.aS.length:Int) - 1):Int)<=(s.aS.length:Int)) ((idx s.aS (bG ((s.aS.length:Int) - 1))).bind fun x2=>LC s x2))
def wW(slot gen:Int)(x1:Bool):Option Int:=
 (if x1 then some 0 else some (bG ((bG (gen * 32))+slot)))
def LD(slot gen:Int):Option Int:=
 (bU slot 0 23).bind fun x2=>(if !x2 then wW slot gen true else (bU gen 1 6).bind fun x3=>wW slot gen (!x3))
def yR(m:Mem)(slot:Int):Option Int:=
 (vH m.aE slot).bind fun x1=>(LD slot x1).bind fun x2=>some x2
def qK(c:dZ)(list:List Int):Option (Int×(Int×Int)):=
 (gC c (list.length:Int)).bind fun x1=>(idx list x1.1).bind fun x2=>some (x2,(x1.2.1,x1.2.2))
def wX(c:aB):Option aB:=
 need (([]:List oV).length+c.cG.length<=1073741824) (some (⟨c.aG,([]:List oV)++c.cG⟩:aB))
def bO(s:Sub)(code:Int):Option Sub:=
 some ({s with Code:=code,cO:=true}:Sub)
def N0(b:aA)(s:Sub)(slot pc:Int):Option Sub:=
 (if decide (0<=slot) then (yR b.Mem slot).bind fun x1=>(bO ({s with Out:=x1}:Sub) 0).bind fun x2=>some x2 else some ({s with Pc:=pc}:Sub))
def wY(s:Sub)(x3:Int)(x5:Bool)(x6:aA):Option (aA×Sub):=
 (if x5 then (bO s 3).bind fun x7=>some (x6,x7) else (N0 x6 s x3 (bG (s.Pc+1))).bind fun x8=>some (x6,x8))
def i7(s:Sub)(x3:Int)(x4:aA):Option (aA×Sub):=
 (if decide (x3 < 0) then wY s x3 (s.Pc == 3) x4 else wY s x3 false x4)
def wZ(b:aA)(s:Sub)(x1:Int)(x12:Bool):Option (aA×Sub):=
 (if x12 then (idx b.Mem.aC.Global x1).bind fun x13=>(rQ x13).bind fun x14=>i7 s x14.2 ({b with Mem:=(⟨b.Mem.aE,(⟨b.Mem.aC.Global.set x1.toNat x14.1,b.Mem.aC.cL⟩:aC)⟩:Mem)}:aA) else (if s.Pc == 2 then (CX b.Mem x1).bind fun x15=>i7 s x15.2 ({b with Mem:=x15.1}:aA) else (bO s 1).bind fun x16=>some (b,x16)))
def yT(b:aA)(w_:Int)(s:Sub):Option (aA×Sub):=
 (CV s.A).bind fun x1=>(if decide (x1 < 0) then (bO s 2).bind fun x2=>some (b,x2) else (if s.Pc == 0 then (vI w_ x1).bind fun x9=>(idx b.Mem.aC.cL x9).bind fun x10=>(rQ x10).bind fun x11=>i7 s x11.2 ({b with Mem:=(⟨b.Mem.aE,(⟨b.Mem.aC.Global,b.Mem.aC.cL.set x9.toNat x11.1⟩:aC)⟩:Mem)}:aA) else (if s.Pc == 1 then wZ b s x1 true else wZ b s x1 (s.Pc == 3))))
def ZE:Option Bool:=
 some false
def sS(x3:Int)(x4:Bool):Option (Step Int (Out Unit Bool)):=
 (if x4 then some (.stop (Out.ret true)) else some (.next (bG (x3+1))))
def nQ(slot:Int)(x1:(List cZ)):Int->Option (Step Int (Out Unit Bool))
 | x3=>(if decide (x3 < (x1.length:Int)) then (idx x1 x3).bind fun x5=>(hU x5.Handle).bind fun x6=>(if x6 then (eX x5.Handle).bind fun x7=>sS x3 (x7 == slot) else sS x3 false) else some (.stop (Out.brk ())))
def ZF:(Out Unit Bool)->Option Bool
 | .brk ()=>ZE
 | .ret r=>some r
def xA(l:List aY)(slot:Int):Option Bool:=
 (vA l).bind fun x1=>(loop (nQ slot x1) 0).bind (ZF)
def CY(b:aA)(s:Sub)(x5:List aY):Option (aA×Sub):=
 (bO s 0).bind fun x6=>some (({b with aL:=x5}:aA),x6)
def t7(b:aA)(w_:Int)(s:Sub)(x3:Bool):Option (aA×Sub):=
 (if x3 then (bO s 4).bind fun x4=>some (b,x4) else (idx b.aL w_).bind fun x7=>need (x7.Rows.length+([(⟨s.A,s.E⟩:cZ)]).length<=1073741824)<|CY b s (b.aL.set w_.toNat (⟨x7.Rows++([(⟨s.A,s.E⟩:cZ)])⟩:aY)))
def vP(b:aA)(w_:Int)(s:Sub):Option (aA×Sub):=
 (if s.Pc == 0 then some (b,({s with Pc:=1,E:=b.aB.aG}:Sub)) else (if s.Pc == 1 then (bU s.E 0 b.aB.aG).bind fun x1=>(if !x1 then (bO s 1).bind fun x2=>some (b,x2) else (rO b.Mem s.A).bind fun x8=>(if !x8 then t7 b w_ s true else (eX s.A).bind fun x9=>(xA b.aL x9).bind fun x10=>t7 b w_ s x10)) else (bO s 1).bind fun x11=>some (b,x11)))
def qL(w_:Int)(x1:aB)(x3:oV)(x4:Bool):Option (aB×Bool):=
 (if x4 then some (x1,true) else (if x3.Seen == 2 then (idx x1.cG w_).bind fun x5=>some ((⟨x1.aG,x1.cG.set w_.toNat ({x5 with dC:=true,Seen:=0}:oV)⟩:aB),true) else (idx x1.cG w_).bind fun x6=>some ((⟨x1.aG,x1.cG.set w_.toNat ({x6 with Seen:=bG (x3.Seen+1)}:oV)⟩:aB),false)))
def CZ(c:aB)(w_ e_:Int)(x1:aB)(x2:Bool):Option (aB×Bool):=
 (if x2 then some (x1,false) else (idx c.cG w_).bind fun x3=>(if !x3.On then qL w_ x1 x3 true else (if x3.dC then qL w_ x1 x3 true else qL w_ x1 x3 (x3.aG == e_))))
def F6(c:aB)(w_ e_:Int):Option (aB×Bool):=
 (wX c).bind fun x1=>(oH c).bind fun x7=>(if !x7 then CZ c w_ e_ x1 true else (bU w_ 0 2).bind fun x8=>CZ c w_ e_ x1 (!x8))
def C0(e_:Int)(x1:aB)(x2:Bool):Option (aB×Bool):=
 (if x2 then some (x1,false) else some ((⟨bG (e_+1),x1.cG⟩:aB),true))
def MO(c:aB)(e_:Int):Option (aB×Bool):=
 (wX c).bind fun x1=>(oH c).bind fun x3=>(if !x3 then C0 e_ x1 true else (if c.aG != e_ then C0 e_ x1 true else C0 e_ x1 (e_ == 100000)))
def rR(b:aA)(s:Sub)(x3:aB×Bool)(x5:Int):Option (aA×Sub):=
 some (({b with aB:=x3.1}:aA),({s with Pc:=x5,B:=bG (s.B+1)}:Sub))
def rS(b:aA)(s:Sub)(x6:aB×Bool)(x7:Int):Option (aA×Sub):=
 (bO ({s with Out:=x7}:Sub) 0).bind fun x8=>some (({b with aB:=x6.1}:aA),x8)
def sT(b:aA)(s:Sub):Option (aA×Sub):=
 (if s.Pc == 0 then some (b,({s with Pc:=1,E:=b.aB.aG,B:=0}:Sub)) else (if s.Pc == 1 then (bU s.B 0 2).bind fun x1=>(if !x1 then (bO s 1).bind fun x2=>some (b,x2) else (F6 b.aB s.B s.E).bind fun x3=>(if !x3.2 then (bO s 8).bind fun x4=>some (({b with aB:=x3.1}:aA),x4) else (if (bG (s.B+1)) == 3 then rR b s x3 2 else rR b s x3 s.Pc))) else (if s.Pc == 2 then (MO b.aB s.E).bind fun x6=>(if x6.2 then rS b s x6 1 else rS b s x6 s.Out) else (bO s 1).bind fun x9=>some (b,x9))))
def H8(x1:Bool):Option Bool:=
 some x1
def IL(r_:cZ)(e_:Int):Option Bool:=
 (if decide (2<=e_) then H8 (decide (r_.aG<=(bG (e_ - 2)))) else H8 false)
def ZG:Option Int:=
 some (-1)
def eN(l:List cZ)(e_:Int):Int->Option (Step Int (Out Unit Int))
 | x2=>(if decide (x2 < (l.length:Int)) then (idx l x2).bind fun x3=>(IL x3 e_).bind fun x4=>(if x4 then some (.stop (Out.ret x2)) else some (.next (bG (x2+1)))) else some (.stop (Out.brk ())))
def ZH:(Out Unit Int)->Option Int
 | .brk ()=>ZG
 | .ret r=>some r
def xB(l:List cZ)(from_ e_:Int):Option Int:=
 (loop (eN l e_) (if 0 < from_ then from_ else 0)).bind (ZH)
def rT(b:aA)(s:Sub)(x8:Int):Option (aA×Sub):=
 some (b,({s with Pc:=x8,B:=bG (s.B+1)}:Sub))
def fD(b:aA)(s:Sub)(x5:Bool):Option (aA×Sub):=
 (if x5 then (bO s 1).bind fun x6=>some (b,x6) else (idx b.iS s.B).bind fun x7=>(if x7 == s.H then some (b,({s with Pc:=1,Row:=bG (s.Row+1)}:Sub)) else (if (bG (s.B+1)) == 3 then rT b s 3 else rT b s s.Pc)))
def AW(s:Sub)(x14:aA):Option (aA×Sub):=
 some (x14,({s with Pc:=1,Out:=bG (s.Out+1)}:Sub))
def fE(b:aA)(w_:Int)(s:Sub)(x1:aY)(x12:Bool):Option (aA×Sub):=
 (if x12 then (bO s 1).bind fun x13=>some (b,x13) else need (0<=(s.Row:Int)/\(s.Row:Int)<=(x1.Rows.length:Int)) (need (0<=(bG (s.Row+1):Int)/\(bG (s.Row+1):Int)<=(x1.Rows.length:Int)) (need (s.Row.toNat<=(bG (s.Row+1)).toNat) ((eX s.H).bind fun x15=>(F5 b.Mem w_ x15).bind fun x16=>AW s ({b with Mem:=x16,aL:=b.aL.set w_.toNat (⟨((dI x1.Rows s.Row.toNat (x1.Rows.drop ((bG (s.Row+1)).toNat))).take (s.Row.toNat+(x1.Rows.length - ((bG (s.Row+1)).toNat)))).drop 0⟩:aY)}:aA)))))
def sU(b:aA)(w_:Int)(s:Sub):Option (aA×Sub):=
 (idx b.aL w_).bind fun x1=>(if s.Pc == 0 then some (b,({s with Pc:=1,E:=b.aB.aG,Row:=0}:Sub)) else (if s.Pc == 1 then (xB x1.Rows s.Row s.E).bind fun x2=>(if decide (x2 < 0) then (bO s 0).bind fun x3=>some (b,x3) else (idx x1.Rows x2).bind fun x4=>some (b,({s with Pc:=2,Row:=x2,B:=0,H:=x4.Handle}:Sub))) else (if s.Pc == 2 then (bU s.B 0 2).bind fun x9=>(if !x9 then fD b s true else (bU s.Row 0 (bG ((x1.Rows.length:Int) - 1))).bind fun x10=>(if !x10 then fD b s true else (idx x1.Rows s.Row).bind fun x11=>fD b s (x11.Handle != s.H))) else (if s.Pc == 3 then (bU s.Row 0 (bG ((x1.Rows.length:Int) - 1))).bind fun x17=>(if !x17 then fE b w_ s x1 true else (idx x1.Rows s.Row).bind fun x18=>(if x18.Handle != s.H then fE b w_ s x1 true else (IL x18 s.E).bind fun x19=>fE b w_ s x1 (!x19))) else (bO s 1).bind fun x20=>some (b,x20)))))
def yU(w_ e_:Int)(x1:aB)(x2:Bool):Option (aB×Bool):=
 (if x2 then some (x1,false) else (idx x1.cG w_).bind fun x3=>some ((⟨x1.aG,x1.cG.set w_.toNat (⟨true,e_,false,0⟩:oV)⟩:aB),true))
def I7(c:aB)(w_ e_:Int):Option (aB×Bool):=
 (wX c).bind fun x1=>(oH c).bind fun x4=>(if !x4 then yU w_ e_ x1 true else (bU w_ 0 2).bind fun x5=>(if !x5 then yU w_ e_ x1 true else (bU e_ 0 c.aG).bind fun x6=>yU w_ e_ x1 (!x6)))
def F7(b:aA)(w_:Int)(s:Sub):Option (aA×Sub):=
 (if s.Pc == 0 then some (b,({s with Pc:=1,E:=b.aB.aG}:Sub)) else (if s.Pc == 1 then (I7 b.aB w_ s.E).bind fun x1=>(if !x1.2 then (bO s 1).bind fun x2=>some (({b with aB:=x1.1}:aA),x2) else some (({b with aB:=x1.1}:aA),({s with Pc:=2}:Sub))) else (if s.Pc == 2 then (if b.aB.aG == s.E then (bO s 0).bind fun x3=>some (b,x3) else some (b,({s with Pc:=0}:Sub))) else (bO s 1).bind fun x4=>some (b,x4))))
def vQ(b:aA)(w_:Int)(s:Sub):Option (aA×Sub):=
 (if s.cO then some (b,s) else (if s.Kind == 1 then (yT b w_ s).bind fun x1=>some (x1.1,x1.2) else (if s.Kind == 2 then (vP b w_ s).bind fun x2=>some (x2.1,x2.2) else (if s.Kind == 3 then (sT b s).bind fun x3=>some (x3.1,x3.2) else (if s.Kind == 4 then (sU b w_ s).bind fun x4=>some (x4.1,x4.2) else (if s.Kind == 5 then (F7 b w_ s).bind fun x5=>some (x5.1,x5.2) else (bO s 1).bind fun x6=>some (b,x6)))))))
def QW:Option (List Int):=
 need (0<=(3:Int)/\(3:Int)<=4294967296) (some (List.replicate ((3:Int).toNat) 0))
def LF:Option aB:=
 need (0<=(3:Int)/\(3:Int)<=4294967296) (some (⟨0,List.replicate ((3:Int).toNat) (⟨false,0,false,0⟩:oV)⟩:aB))
def LG:Option (List aY):=
 need (0<=(3:Int)/\(3:Int)<=4294967296) (some (List.replicate ((3:Int).toNat) (⟨[]⟩:aY)))
def H9:Option aA:=
 (QQ).bind fun x1=>(LF).bind fun x2=>(LG).bind fun x3=>(QW).bind fun x4=>some (⟨x1,x2,x3,x4⟩:aA)
def g8(kind a_:Int):Option Sub:=
 some (⟨kind,a_,0,0,0,0,0,0,0,false⟩:Sub)
def yV(w_:Int)(x1:aB)(x2:Bool):Option (aB×Bool):=
 (if x2 then some (x1,false) else (idx x1.cG w_).bind fun x3=>some ((⟨x1.aG,x1.cG.set w_.toNat (⟨false,0,false,0⟩:oV)⟩:aB),true))
def EB(c:aB)(w_:Int):Option (aB×Bool):=
 (wX c).bind fun x1=>(oH c).bind fun x4=>(if !x4 then yV w_ x1 true else (bU w_ 0 2).bind fun x5=>(if !x5 then yV w_ x1 true else (idx c.cG w_).bind fun x6=>yV w_ x1 (!x6.On)))
def sV(w_ h:Int)(x1:(List Int))(x2:Bool):Option ((List Int)×Bool):=
 (if x2 then some (x1,false) else (idx x1 w_).bind fun x3=>some (x1.set w_.toNat h,true))
def C1(z:List Int)(w_ h:Int):Option ((List Int)×Bool):=
 (vO z).bind fun x1=>(EA z).bind fun x4=>(if !x4 then sV w_ h x1 true else (bU w_ 0 2).bind fun x5=>(if !x5 then sV w_ h x1 true else (hU h).bind fun x6=>sV w_ h x1 (!x6)))
def yW(w_:Int)(x1:(List Int))(x2:Bool):Option ((List Int)×Bool):=
 (if x2 then some (x1,false) else (idx x1 w_).bind fun x3=>some (x1.set w_.toNat 0,true))
def I8(z:List Int)(w_:Int):Option ((List Int)×Bool):=
 (vO z).bind fun x1=>(EA z).bind fun x4=>(if !x4 then yW w_ x1 true else (bU w_ 0 2).bind fun x5=>(if !x5 then yW w_ x1 true else (idx z w_).bind fun x6=>yW w_ x1 (x6 == 0)))
def aE1(x5:Int):Option (Int×Int):=
 some (0,x5)
def E9(code:List UInt8)(x3 x4:Int)(x6:Bool):Option (Step (Int×Int) Int):=
 (if x6 then (idx code x4).bind fun x7=>some (.next (gY .and .i64 (bG ((bG ((bG (x3 * 131))+(x7.toNat:Int)))+7)) 1073741823,bG (x4+1))) else some (.stop (x3)))
def S7(code:List UInt8):(Int×Int)->Option (Step (Int×Int) Int)
 | (x3,x4)=>(if decide (x4 < (code.length:Int)) then E9 code x3 x4 (decide (x4 < 4000)) else E9 code x3 x4 false)
def aE2:Int->Option (Int×Int)
 | x5=>aE1 x5
def N2(code:List UInt8):Option (Int×Int):=
 (loop (S7 code) (bG (10101+(code.length:Int)),0)).bind (aE2)
def FA(x1:Int×(Int×Int))(x4 x5 x6 x7 x8:Int):Option (dB×(Int×Int)):=
 some ((⟨x1.1,x4,x7,x8⟩:dB),(x5,x6))
def FB(c:dZ)(x1:Int×(Int×Int))(x4 x10 x11 x12:Int):Option (dB×(Int×Int)):=
 (gC (⟨c.b,x10,x11⟩:dZ) 60000).bind fun x13=>FA x1 x4 x13.2.1 x13.2.2 x12 x13.1
def yX(c:dZ)(x1:Int×(Int×Int))(x2 x3 x4:Int):Option (dB×(Int×Int)):=
 (if x1.1 == 1 then (gC (⟨c.b,x2,x3⟩:dZ) 40).bind fun x9=>(QL (⟨c.b,x9.2.1,x9.2.2⟩:dZ) 12).bind fun x14=>(if x14.1 then (qK (⟨c.b,x14.2.1,x14.2.2⟩:dZ) ([0,41,100]:List Int)).bind fun x15=>FB c x1 x4 x15.2.1 x15.2.2 x15.1 else FB c x1 x4 x14.2.1 x14.2.2 (bG (1+x9.1))) else FA x1 x4 x2 x3 0 0)
def N3(c:dZ):Option (dB×(Int×Int)):=
 (qK c ([1,1,1,2,2,3,3,4,4,5,6,7,7]:List Int)).bind fun x1=>(vK x1.1).bind fun x16=>(if x16 then (qK (⟨c.b,x1.2.1,x1.2.2⟩:dZ) ([0,0,0,1]:List Int)).bind fun x17=>yX c x1 x17.2.1 x17.2.2 x17.1 else yX c x1 x1.2.1 x1.2.2 0)
def U7(x9:List Queue)(x10 x11:Int):Option ((List Queue)×(Int×Int)):=
 some (x9,(x10,x11))
def KI(x5:List Queue)(x6 x21 x22:Int)(x23:List dB):Option (Step ((List Queue)×Int×Int×Int) ((List Queue)×Int×Int)):=
 need (x5.length+([(⟨x23⟩:Queue)]).length<=1073741824) (some (.next (x5++([(⟨x23⟩:Queue)]),bG (x6+1),x21,x22)))
def C2(x17 x24 x25:Int)(x26:List dB):Option (Step (Int×Int×Int×(List dB)) (Int×Int×(List dB))):=
 some (.next (bG (x17 - 1),x24,x25,x26))
def KJ(c:dZ):(Int×Int×Int×(List dB))->Option (Step (Int×Int×Int×(List dB)) (Int×Int×(List dB)))
 | (x17,x18,x19,x20)=>(if decide (0 < x17) then (N3 (⟨c.b,x18,x19⟩:dZ)).bind fun x27=>need (x20.length+([x27.1]).length<=1073741824)<|C2 x17 x27.2.1 x27.2.2 (x20++([x27.1])) else some (.stop ((x18,x19,x20))))
def KK(x5:List Queue)(x6:Int):(Int×Int×(List dB))->Option (Step ((List Queue)×Int×Int×Int) ((List Queue)×Int×Int))
 | (x21,x22,x23)=>KI x5 x6 x21 x22 x23
def KL(c:dZ)(most:Int):((List Queue)×Int×Int×Int)->Option (Step ((List Queue)×Int×Int×Int) ((List Queue)×Int×Int))
 | (x5,x6,x7,x8)=>(if decide (x6 < 3) then (gC (⟨c.b,x7,x8⟩:dZ) (bG (most+1))).bind fun x12=>(loop (KJ c) (x12.1,x12.2.1,x12.2.2,[])).bind (KK x5 x6) else some (.stop ((x5,x7,x8))))
def U8:((List Queue)×Int×Int)->Option ((List Queue)×(Int×Int))
 | (x9,x10,x11)=>U7 x9 x10 x11
def vR(c:dZ)(most:Int):Option ((List Queue)×(Int×Int)):=
 (loop (KL c most) (([]:List Queue),0,c.i,c.h)).bind (U8)
def W7(x10:List Int)(x11 x12:Int):Option ((List Int)×(Int×Int)):=
 some (x10,(x11,x12))
def MP(x7:Int)(x14:Int×(Int×Int))(x19:List Int):Option (Step ((List Int)×Int×Int×Int) ((List Int)×Int×Int)):=
 some (.next (x19,bG (x7 - 1),x14.2.1,x14.2.2))
def MQ(x13:Int×(Int×Int)):((List Int)×Int)->Option (Step ((List Int)×Int) (List Int))
 | (x17,x18)=>(if decide (0 < x18) then need (x17.length+([x13.1]).length<=1073741824) (some (.next (x17++([x13.1]),bG (x18 - 1)))) else some (.stop (x17)))
def MR(x7:Int)(x14:Int×(Int×Int)):(List Int)->Option (Step ((List Int)×Int×Int×Int) ((List Int)×Int×Int))
 | x19=>MP x7 x14 x19
def MS(c:dZ):((List Int)×Int×Int×Int)->Option (Step ((List Int)×Int×Int×Int) ((List Int)×Int×Int))
 | (x6,x7,x8,x9)=>(if decide (0 < x7) then (gC (⟨c.b,x8,x9⟩:dZ) 3).bind fun x13=>(gC (⟨c.b,x13.2.1,x13.2.2⟩:dZ) 4).bind fun x14=>(loop (MQ x13) (x6,bG (1+x14.1))).bind (MR x7 x14) else some (.stop ((x6,x8,x9))))
def W8:((List Int)×Int×Int)->Option ((List Int)×(Int×Int))
 | (x10,x11,x12)=>W7 x10 x11 x12
def FC(c:dZ)(most:Int):Option ((List Int)×(Int×Int)):=
 (gC c most).bind fun x1=>(loop (MS c) (([]:List Int),x1.1,x1.2.1,x1.2.2)).bind (W8)
def kB(x2:List Queue)(x3 x4:Int):Option ((List Queue)×(Int×Int)):=
 some (x2,(x3,x4))
def AX(x6:List Queue)(x7 x8:Int):Option ((List Queue)×(Int×Int)):=
 kB x6 x7 x8
def T6(x17:List Queue)(x18 x19:Int):Option ((List Queue)×(Int×Int)):=
 kB x17 x18 x19
def AY(x14:List Queue)(x20:Bool)(x21 x22:Int):Option (Step ((List Queue)×Int×Int) ((List Queue)×Int×Int)):=
 (if x20 then (idx x14 1).bind fun x23=>need (x23.iC.length+([(⟨4,0,0,0⟩:dB)]).length<=1073741824) (some (.next (x14.set ((1:Int).toNat) (⟨x23.iC++([(⟨4,0,0,0⟩:dB)])⟩:Queue),x21,x22))) else some (.stop ((x14,x21,x22))))
def I9(c:dZ):((List Queue)×Int×Int)->Option (Step ((List Queue)×Int×Int) ((List Queue)×Int×Int))
 | (x14,x15,x16)=>(idx x14 1).bind fun x24=>(gC (⟨c.b,x15,x16⟩:dZ) 2).bind fun x25=>AY x14 (decide ((x24.iC.length:Int) < (bG (12+x25.1)))) x25.2.1 x25.2.2
def T7:((List Queue)×Int×Int)->Option ((List Queue)×(Int×Int))
 | (x17,x18,x19)=>T6 x17 x18 x19
def AH(c:dZ):Option ((List Queue)×(Int×Int)):=
 (vR c 7).bind fun x1=>(gC (⟨c.b,x1.2.1,x1.2.2⟩:dZ) 20).bind fun x5=>(if x5.1 == 0 then need (0<=(2:Int)/\(2:Int)<=(x1.1.length:Int)) (some ((x1.1.take ((2:Int).toNat)).drop 0,(x5.2.1,x5.2.2))) else (if x5.1 == 1 then (idx x1.1 0).bind fun x9=>(qK (⟨c.b,x5.2.1,x5.2.2⟩:dZ) ([0,8]:List Int)).bind fun x10=>need (x9.iC.length+([(⟨x10.1,0,0,0⟩:dB)]).length<=1073741824)<|AX (x1.1.set ((0:Int).toNat) (⟨x9.iC++([(⟨x10.1,0,0,0⟩:dB)])⟩:Queue)) x10.2.1 x10.2.2 else (if x5.1 == 2 then (loop (I9 c) (x1.1,x5.2.1,x5.2.2)).bind (T7) else (if x5.1 == 3 then (idx x1.1 2).bind fun x26=>need (x26.iC.length+([(⟨2,2,0,0⟩:dB)]).length<=1073741824) (kB (x1.1.set ((2:Int).toNat) (⟨x26.iC++([(⟨2,2,0,0⟩:dB)])⟩:Queue)) x5.2.1 x5.2.2) else kB x1.1 x5.2.1 x5.2.2))))
def j9(x4:List Queue)(x5:List Int):Option GK:=
 some (⟨x4,x5⟩:GK)
def rU(code:List UInt8):Option GK:=
 (N2 code).bind fun x1=>(vR (⟨code,x1.1,x1.2⟩:dZ) 8).bind fun x2=>(FC (⟨code,x2.2.1,x2.2.2⟩:dZ) 90).bind fun x3=>(gC (⟨code,x3.2.1,x3.2.2⟩:dZ) 16).bind fun x6=>(if x6.1 == 0 then (AH (⟨code,x6.2.1,x6.2.2⟩:dZ)).bind fun x7=>j9 x7.1 x3.1 else (if x6.1 == 1 then need (x3.1.length+([(-1),3,1]:List Int).length<=1073741824) (j9 x2.1 (x3.1++([(-1),3,1]:List Int))) else j9 x2.1 x3.1))
def U9(x5:List Queue):Option (List Queue):=
 some x5
def C3(l:List Queue):((List Queue)×Int)->Option (Step ((List Queue)×Int) (List Queue))
 | (x3,x4)=>(if decide (x4 < (l.length:Int)) then (idx l x4).bind fun x6=>need (([]:List dB).length+x6.iC.length<=1073741824) (need (x3.length+([(⟨([]:List dB)++x6.iC⟩:Queue)]).length<=1073741824) (some (.next (x3++([(⟨([]:List dB)++x6.iC⟩:Queue)]),bG (x4+1))))) else some (.stop (x3)))
def VA:(List Queue)->Option (List Queue)
 | x5=>U9 x5
def C4(l:List Queue):Option (List Queue):=
 (loop (C3 l) (([]:List Queue),0)).bind (VA)
def MT(x2:aD):Option aD:=
 some ({x2 with Log:=[]}:aD)
def FD(todo:List Queue):Option aD:=
 (CQ todo).bind fun x1=>(if !x1 then some (⟨(⟨(⟨(⟨[],[]⟩:aE),(⟨[],[]⟩:aC)⟩:Mem),(⟨0,[]⟩:aB),[],[]⟩:aA),[],[],[],[],0⟩:aD) else (H9).bind fun x3=>need (0<=(2:Int)/\(2:Int)<=4294967296)<|need (0<=(3:Int)/\(3:Int)<=4294967296)<|(C4 todo).bind fun x4=>MT (⟨x3,List.replicate ((2:Int).toNat) 0,List.replicate ((3:Int).toNat) (⟨false,(⟨0,0,0,0⟩:dB),0,0,(⟨0,0,0,0,0,0,0,0,0,false⟩:Sub),0,0,0,0⟩:bA),x4,[],0⟩:aD))
def N4(x:GK):Option Bool:=
 (FD x.bK).bind fun x1=>some ((x1.aU.length:Int) == 3)
def VB(x6:aD):Option aD:=
 some x6
def t9(x4:Int)(x7:aD):Option (Step (Int×aD) aD):=
 some (.next (bG (x4+1),x7))
def KM(x:GK):(Int×aD)->Option (Step (Int×aD) aD)
 | (x4,x5)=>(if decide (x4 < (((x.uC.take ((if 400 < (x.uC.length:Int) then 400 else (x.uC.length:Int)).toNat)).drop 0).length:Int)) then (idx ((x.uC.take ((if 400 < (x.uC.length:Int) then 400 else (x.uC.length:Int)).toNat)).drop 0) x4).bind fun x8=>(fZ x8).bind fun x9=>(if x9 then (nG x5 x8).bind fun x10=>t9 x4 x10 else t9 x4 x5) else some (.stop (x5)))
def VC:aD->Option aD
 | x6=>VB x6
def C5(x:GK):Option aD:=
 (E4 x.bK).bind fun x1=>(if (x1.aU.length:Int) == 0 then some x1 else need (0<=(if 400 < (x.uC.length:Int) then 400 else (x.uC.length:Int):Int)/\(if 400 < (x.uC.length:Int) then 400 else (x.uC.length:Int):Int)<=(x.uC.length:Int)) ((loop (KM x) (0,x1)).bind (VC)))
def aHW:Option Bool:=
 some true
def xC(s:aD):Int->Option (Step Int (Out Unit Bool))
 | x4=>(if decide (x4 < (s.bK.length:Int)) then (idx s.bK x4).bind fun x5=>(if decide (0 < (x5.iC.length:Int)) then some (.stop (Out.ret false)) else some (.next (bG (x4+1)))) else some (.stop (Out.brk ())))
def aHX:(Out Unit Bool)->Option Bool
 | .brk ()=>aHW
 | .ret r=>some r
def VD(s:aD):Option Bool:=
 (loop (xC s) 0).bind (aHX)
def xD(s:aD):Int->Option (Step Int (Out Unit Bool))
 | x2=>(if decide (x2 < (s.aU.length:Int)) then (idx s.aU x2).bind fun x6=>(if x6.cN then some (.stop (Out.ret false)) else some (.next (bG (x2+1)))) else some (.stop (Out.brk ())))
def VE(s:aD):(Out Unit Bool)->Option Bool
 | .brk ()=>VD s
 | .ret r=>some r
def MU(s:aD):Option Bool:=
 (loop (xD s) 0).bind (VE s)
def ZI(x5:List Int):Option (List Int):=
 some x5
def PB(x4:Int)(x11:List Int):Option (Step ((List Int)×Int) (List Int)):=
 some (.next (x11,bG (x4+1)))
def GV(x6:aY):((List Int)×Int)->Option (Step ((List Int)×Int) (List Int))
 | (x9,x10)=>(if decide (x10 < (x6.Rows.length:Int)) then (idx x6.Rows x10).bind fun x12=>need (x9.length+([x12.Handle]).length<=1073741824) (some (.next (x9++([x12.Handle]),bG (x10+1)))) else some (.stop (x9)))
def PC(x4:Int):(List Int)->Option (Step ((List Int)×Int) (List Int))
 | x11=>PB x4 x11
def sW(s:aD):((List Int)×Int)->Option (Step ((List Int)×Int) (List Int))
 | (x3,x4)=>(if decide (x4 < (s.aA.aL.length:Int)) then (idx s.aA.aL x4).bind fun x6=>(loop (GV x6) (x3,0)).bind (PC x4) else some (.stop (x3)))
def ZJ:(List Int)->Option (List Int)
 | x5=>ZI x5
def IA(s:aD):Option (List Int):=
 (loop (sW s) (([]:List Int),0)).bind (ZJ)
def W9:Option Bool:=
 some true
def qM(a_ b:List Int):Int->Option (Step Int (Out Unit Bool))
 | x2=>(if decide (x2 < (a_.length:Int)) then (idx a_ x2).bind fun x3=>(idx b x2).bind fun x4=>(if x3 != x4 then some (.stop (Out.ret false)) else some (.next (bG (x2+1)))) else some (.stop (Out.brk ())))
def XA:(Out Unit Bool)->Option Bool
 | .brk ()=>W9
 | .ret r=>some r
def FE(a_ b:List Int):Option Bool:=
 (if (a_.length:Int) != (b.length:Int) then some false else (loop (qM a_ b) 0).bind (XA))
def qN(x1:Int)(x2:Bool):Option Int:=
 (if x2 then some 4 else some x1)
def FF(b:aA)(slot:Int):Option Int:=
 (CL b.Mem slot).bind fun x1=>(if x1 == 3 then (xA b.aL slot).bind fun x3=>qN x1 (!x3) else qN x1 false)
def aE3(x6:List Int):Option (List Int):=
 some x6
def yY(b:aA)(x4:List Int)(x5:Int)(x7:Bool):Option (Step ((List Int)×Int) (List Int)):=
 (if x7 then (FF b x5).bind fun x8=>(idx x4 x8).bind fun x9=>some (.next (x4.set x8.toNat (bG (x9+1)),bG (x5+1))) else some (.stop (x4)))
def yZ(b:aA)(x1:Bool):((List Int)×Int)->Option (Step ((List Int)×Int) (List Int))
 | (x4,x5)=>(if decide (x5 < 24) then yY b x4 x5 x1 else yY b x4 x5 false)
def aE4:(List Int)->Option (List Int)
 | x6=>aE3 x6
def JA(b:aA):Option (List Int):=
 need (0<=(5:Int)/\(5:Int)<=4294967296) ((FZ b).bind fun x1=>(loop (yZ b x1) (List.replicate ((5:Int).toNat) 0,0)).bind (aE4))
def aE5(x11:List Int):Option (List Int):=
 some x11
def y4(x10:Int)(x13:List Int):Option (Step ((List Int)×Int) (List Int)):=
 some (.next (x13,bG (x10+1)))
def FG(x10:Int)(x14:bA)(x15:List Int)(x16:Bool):Option (Step ((List Int)×Int) (List Int)):=
 (if x16 then (vN x15 x14.Old).bind fun x17=>y4 x10 x17 else y4 x10 x15)
def FH(x10:Int)(x14:bA)(x15:List Int):Option (Step ((List Int)×Int) (List Int)):=
 (if x14.Pc == 3 then FG x10 x14 x15 (x14.Old != 0) else FG x10 x14 x15 false)
def y5(x9:List Int)(x10:Int)(x14:bA)(x18:Bool):Option (Step ((List Int)×Int) (List Int)):=
 (if x18 then (vN x9 x14.H).bind fun x19=>FH x10 x14 x19 else FH x10 x14 x9)
def y6(s:aD)(x9:List Int)(x10:Int)(x12:Bool):Option (Step ((List Int)×Int) (List Int)):=
 (if x12 then (idx s.aU x10).bind fun x14=>(if x14.Op.Kind != 1 then y4 x10 x9 else (if x14.Pc == 1 then y5 x9 x10 x14 (x14.H != 0) else (if x14.Pc == 2 then y5 x9 x10 x14 (x14.H != 0) else y5 x9 x10 x14 false))) else some (.stop (x9)))
def y7(s:aD)(x1:Bool):((List Int)×Int)->Option (Step ((List Int)×Int) (List Int))
 | (x9,x10)=>(if decide (x10 < 3) then y6 s x9 x10 x1 else y6 s x9 x10 false)
def aE6:(List Int)->Option (List Int)
 | x11=>aE5 x11
def S8(s:aD)(x1:Bool)(x6:List Int):Option (List Int):=
 (loop (y7 s x1) (x6,0)).bind (aE6)
def FI(x5:Int)(x21:List Int):Option (Step ((List Int)×Int) (List Int)):=
 some (.next (x21,bG (x5+1)))
def y8(s:aD)(x4:List Int)(x5:Int)(x20:Bool):Option (Step ((List Int)×Int) (List Int)):=
 (if x20 then (idx s.Cells x5).bind fun x22=>(if x22 != 0 then (idx s.Cells x5).bind fun x23=>(vN x4 x23).bind fun x24=>FI x5 x24 else FI x5 x4) else some (.stop (x4)))
def y9(s:aD)(x1:Bool):((List Int)×Int)->Option (Step ((List Int)×Int) (List Int))
 | (x4,x5)=>(if decide (x5 < 2) then y8 s x4 x5 x1 else y8 s x4 x5 false)
def S9(s:aD)(x1:Bool):(List Int)->Option (List Int)
 | x6=>S8 s x1 x6
def N5(s:aD):Option (List Int):=
 (wU s).bind fun x1=>(loop (y9 s x1) (([]:List Int),0)).bind (S9 s x1)
def uA(x4:Bool):Option Bool:=
 some x4
def KN(s:aD)(x1:(List Int)):Option Bool:=
 (wU s).bind fun x5=>(if x5 then (JA s.aA).bind fun x6=>(idx x6 4).bind fun x7=>uA (x7 == (x1.length:Int)) else uA false)
def uB(x3:Int)(x8:Bool):Option (Step Int (Out Unit Bool)):=
 (if x8 then some (.stop (Out.ret false)) else some (.next (bG (x3+1))))
def oJ(s:aD)(x1:(List Int)):Int->Option (Step Int (Out Unit Bool))
 | x3=>(if decide (x3 < (x1.length:Int)) then (idx x1 x3).bind fun x9=>(rO s.aA.Mem x9).bind fun x10=>(if !x10 then uB x3 true else (eX x9).bind fun x11=>(xA s.aA.aL x11).bind fun x12=>uB x3 x12) else some (.stop (Out.brk ())))
def KO(s:aD)(x1:(List Int)):(Out Unit Bool)->Option Bool
 | .brk ()=>KN s x1
 | .ret r=>some r
def C6(s:aD):Option Bool:=
 (N5 s).bind fun x1=>(loop (oJ s x1) 0).bind (KO s x1)
def f7(x18:Bool):Option Bool:=
 some x18
def KP(x15:Int)(x16 x17:aD):Option Bool:=
 (MU x16).bind fun x19=>(if x19 then (MU x17).bind fun x20=>(if x20 then (if (x17.aU.length:Int) == 3 then (IA x17).bind fun x21=>(if (x21.length:Int) == 0 then (CK x17.aA.aL).bind fun x22=>(if x22 == 0 then (FE x17.Cells x16.Cells).bind fun x23=>(if x23 then (JA x17.aA).bind fun x24=>(idx x24 4).bind fun x25=>(if x25 == x15 then (C6 x17).bind fun x26=>f7 x26 else f7 false) else f7 false) else f7 false) else f7 false) else f7 false) else f7 false) else f7 false)
def oK(x12 x27:Int)(x28 x29:aD):Option (Step (Int×Int×aD×aD) (Int×aD×aD)):=
 some (.next (x27,bG (x12+1),x28,x29))
def jO:(Int×Int×aD×aD)->Option (Step (Int×Int×aD×aD) (Int×aD×aD))
 | (x11,x12,x13,x14)=>(if decide (x12 < (x14.Cells.length:Int)) then (idx x14.Cells x12).bind fun x30=>(if x30 != 0 then oK x12 (bG (x11+1)) x13 x14 else oK x12 x11 x13 x14) else some (.stop ((x11,x13,x14))))
def KQ:(Int×aD×aD)->Option Bool
 | (x15,x16,x17)=>KP x15 x16 x17
def JB(code:List UInt8):Option Bool:=
 (aBZ code).bind fun x1=>(if x1 then some true else (rU code).bind fun x2=>(N4 x2).bind fun x3=>(if !x3 then some true else (C5 x2).bind fun x4=>(FY x4).bind fun x5=>(NY x5 8).bind fun x6=>(loop (jO) (0,0,x5,x6)).bind (KQ)))
def e9(s:aD)(w_:Int)(x2:Queue)(x3:dB)(x4:bA):Option aD:=
 (idx s.aU w_).bind fun x5=>need (s.Log.length+([(⟨1,w_,bG (s.aI+1),x3.Cell,0,0,0⟩:Ev)]).length<=1073741824) (some (⟨s.aA,s.Cells,s.aU.set w_.toNat x4,s.bK.set w_.toNat (⟨(x2.iC.take x2.iC.length).drop ((1:Int).toNat)⟩:Queue),s.Log++([(⟨1,w_,bG (s.aI+1),x3.Cell,0,0,0⟩:Ev)]),bG (s.aI+1)⟩:aD))
def i9(s:aD)(w_:Int)(x2:Queue)(x3:dB)(x7:Bool):Option aD:=
 (if x7 then (g8 5 0).bind fun x8=>(idx s.aA.aB.cG w_).bind fun x9=>(if x9.On then e9 s w_ x2 x3 (⟨true,x3,bG (s.aI+1),9,x8,0,0,0,1⟩:bA) else e9 s w_ x2 x3 (⟨true,x3,bG (s.aI+1),0,x8,0,0,0,0⟩:bA)) else (if x3.Kind == 4 then (g8 3 0).bind fun x10=>e9 s w_ x2 x3 (⟨true,x3,bG (s.aI+1),0,x10,0,0,0,0⟩:bA) else e9 s w_ x2 x3 (⟨true,x3,bG (s.aI+1),0,(⟨0,0,0,0,0,0,0,0,0,false⟩:Sub),0,0,0,0⟩:bA)))
def xE(s:aD)(w_:Int)(x1:Bool):Option aD:=
 (if x1 then some s else (idx s.bK w_).bind fun x2=>(idx x2.iC 0).bind fun x3=>need (0<=(1:Int)/\(1:Int)<=(x2.iC.length:Int)) ((if x3.Kind == 1 then (g8 1 x3.gX).bind fun x6=>e9 s w_ x2 x3 (⟨true,x3,bG (s.aI+1),0,x6,0,0,0,0⟩:bA) else (if x3.Kind == 2 then i9 s w_ x2 x3 true else i9 s w_ x2 x3 (x3.Kind == 5)))))
def zA(s:aD)(w_:Int):Option aD:=
 (idx s.bK w_).bind fun x11=>(if (x11.iC.length:Int) == 0 then xE s w_ true else xE s w_ (s.aI == 1000000))
def bD(j:bA)(pc code:Int):Option bA:=
 some ({j with Pc:=pc,Code:=code}:bA)
def F8(s:aD)(w_:Int)(j:bA):Option (aD×bA):=
 (if j.Pc == 0 then (vQ s.aA w_ j.Sub).bind fun x1=>(if !x1.2.cO then some (({s with aA:=x1.1}:aD),({j with Sub:=x1.2}:bA)) else (if x1.2.Code != 0 then (bD ({j with Sub:=x1.2}:bA) 9 x1.2.Code).bind fun x2=>some (({s with aA:=x1.1}:aD),x2) else (hU x1.2.Out).bind fun x3=>(if !x3 then (bD ({j with Sub:=x1.2}:bA) 9 1).bind fun x4=>some (({s with aA:=x1.1}:aD),x4) else (bD ({j with Sub:=x1.2,H:=x1.2.Out}:bA) 1 0).bind fun x5=>some (({s with aA:=x1.1}:aD),x5)))) else (if j.Pc == 1 then (CU s.aA.Mem j.H 0 4 j.Op.dV).bind fun x6=>(if x6.2 != 0 then (bD j 9 x6.2).bind fun x7=>some (({s with aA:=(⟨x6.1,s.aA.aB,s.aA.aL,s.aA.iS⟩:aA)}:aD),x7) else (bD j 2 0).bind fun x8=>some (({s with aA:=(⟨x6.1,s.aA.aB,s.aA.aL,s.aA.iS⟩:aA)}:aD),x8)) else (if j.Pc == 2 then (idx s.Cells j.Op.Cell).bind fun x9=>need (s.Log.length+([(⟨2,w_,j.aI,j.Op.Cell,j.H,j.Op.dV,0⟩:Ev)]).length<=1073741824) ((if x9 == 0 then (bD ({j with Old:=x9}:bA) 9 0).bind fun x10=>some (({s with Cells:=s.Cells.set j.Op.Cell.toNat j.H,Log:=s.Log++([(⟨2,w_,j.aI,j.Op.Cell,j.H,j.Op.dV,0⟩:Ev)])}:aD),x10) else (g8 2 x9).bind fun x11=>(bD ({j with Sub:=x11,Old:=x9}:bA) 3 0).bind fun x12=>some (({s with Cells:=s.Cells.set j.Op.Cell.toNat j.H,Log:=s.Log++([(⟨2,w_,j.aI,j.Op.Cell,j.H,j.Op.dV,0⟩:Ev)])}:aD),x12))) else (if j.Pc == 3 then (vQ s.aA w_ j.Sub).bind fun x13=>(if !x13.2.cO then some (({s with aA:=x13.1}:aD),({j with Sub:=x13.2}:bA)) else (bD ({j with Sub:=x13.2}:bA) 9 x13.2.Code).bind fun x14=>some (({s with aA:=x13.1}:aD),x14)) else (bD j 9 1).bind fun x15=>some (s,x15)))))
def jP(s:aD)(w_:Int)(j:bA):Option aD:=
 need (s.Log.length+([(⟨3,w_,j.aI,j.Op.Cell,j.H,0,0⟩:Ev)]).length<=1073741824) (some ({s with Log:=s.Log++([(⟨3,w_,j.aI,j.Op.Cell,j.H,0,0⟩:Ev)])}:aD))
def mT(h:aE)(x at_ width x3:Int)(x4:Bool):Option (Int×Bool):=
 (if x4 then some (0,false) else (eX x).bind fun x5=>(H6 x5 x3).bind fun x6=>(vC h.Bytes (bG (x6+at_)) width).bind fun x7=>some (x7,true))
def C7(h:aE)(x at_ width:Int)(x1:Bool):Option (Int×Bool):=
 (if x1 then some (0,false) else (eX x).bind fun x2=>(mD h x2).bind fun x3=>(if decide (x3 < 0) then mT h x at_ width x3 true else (oG x3).bind fun x8=>(bU at_ 0 (bG (x8 - 1))).bind fun x9=>(if !x9 then mT h x at_ width x3 true else (oG x3).bind fun x10=>mT h x at_ width x3 (decide ((bG (x10 - at_)) < width)))))
def KR(h:aE)(x at_ width:Int):Option (Int×Bool):=
 (hU x).bind fun x11=>(if !x11 then C7 h x at_ width true else (bU width 1 7).bind fun x12=>C7 h x at_ width (!x12))
def oL(s:aD)(j:bA):Option Int:=
 (KR s.aA.Mem.aE j.H 0 4).bind fun x1=>some x1.1
def mP(j:bA)(pc:Int)(x2:Bool):Option bA:=
 (if x2 then (bD j pc 0).bind fun x3=>some x3 else (bD ({j with dV:=0}:bA) pc 6).bind fun x4=>some x4)
def tH(s:aD)(w_:Int)(j:bA)(pc:Int):Option bA:=
 (idx s.aA.aB.cG w_).bind fun x1=>(if x1.On then mP j pc (!x1.dC) else mP j pc false)
def F9(s:aD)(w_:Int)(j:bA):Option (aD×bA):=
 (if j.Pc == 0 then (vQ s.aA w_ j.Sub).bind fun x1=>(if !x1.2.cO then some (({s with aA:=x1.1}:aD),({j with Sub:=x1.2}:bA)) else (bD ({j with Sub:=x1.2}:bA) 1 0).bind fun x2=>some (({s with aA:=x1.1}:aD),x2)) else (if j.Pc == 1 then (idx s.Cells j.Op.Cell).bind fun x3=>(jP s w_ ({j with H:=x3}:bA)).bind fun x4=>(if x3 == 0 then (bD ({j with H:=x3}:bA) 4 8).bind fun x5=>some (x4,x5) else (bD ({j with H:=x3}:bA) 2 0).bind fun x6=>some (x4,x6)) else (if j.Pc == 2 then (oL s j).bind fun x7=>(bD ({j with dV:=x7}:bA) 3 0).bind fun x8=>some (s,x8) else (if j.Pc == 3 then (tH s w_ j 4).bind fun x9=>some (s,x9) else (if j.Pc == 4 then (EB s.aA.aB w_).bind fun x10=>(bD j 9 j.Code).bind fun x11=>some (({s with aA:=(⟨s.aA.Mem,x10.1,s.aA.aL,s.aA.iS⟩:aA)}:aD),x11) else (bD j 9 1).bind fun x12=>some (s,x12))))))
def GA(s:aD)(w_:Int)(j:bA):Option (aD×bA):=
 (if j.Pc == 0 then (idx s.Cells j.Op.Cell).bind fun x1=>(if x1 == 0 then (jP s w_ ({j with H:=x1}:bA)).bind fun x2=>(bD ({j with H:=x1}:bA) 4 8).bind fun x3=>some (x2,x3) else (bD ({j with H:=x1}:bA) 1 0).bind fun x4=>some (s,x4)) else (if j.Pc == 1 then (C1 s.aA.iS w_ j.H).bind fun x5=>(bD j 2 0).bind fun x6=>some (({s with aA:=(⟨s.aA.Mem,s.aA.aB,s.aA.aL,x5.1⟩:aA)}:aD),x6) else (if j.Pc == 2 then (idx s.Cells j.Op.Cell).bind fun x7=>(if x7 != j.H then (bD j 0 0).bind fun x8=>some (s,x8) else (jP s w_ j).bind fun x9=>(bD j 3 0).bind fun x10=>some (x9,x10)) else (if j.Pc == 3 then (oL s j).bind fun x11=>(bD ({j with dV:=x11}:bA) 4 0).bind fun x12=>some (s,x12) else (if j.Pc == 4 then (I8 s.aA.iS w_).bind fun x13=>(bD j 9 j.Code).bind fun x14=>some (({s with aA:=(⟨s.aA.Mem,s.aA.aB,s.aA.aL,x13.1⟩:aA)}:aD),x14) else (bD j 9 1).bind fun x15=>some (s,x15))))))
def C8(s:aD)(w_:Int)(j:bA):Option (aD×bA):=
 (idx s.aA.aB.cG w_).bind fun x1=>(if j.Pc == 0 then (if !x1.On then (bD j 9 5).bind fun x2=>some (s,x2) else (if x1.dC then (bD j 9 6).bind fun x3=>some (s,x3) else (idx s.Cells j.Op.Cell).bind fun x4=>(jP s w_ ({j with H:=x4}:bA)).bind fun x5=>(if x4 == 0 then (bD ({j with H:=x4}:bA) 9 8).bind fun x6=>some (x5,x6) else (bD ({j with H:=x4}:bA) 1 0).bind fun x7=>some (x5,x7)))) else (if j.Pc == 1 then (oL s j).bind fun x8=>(bD ({j with dV:=x8}:bA) 2 0).bind fun x9=>some (s,x9) else (if j.Pc == 2 then (tH s w_ j 9).bind fun x10=>some (s,x10) else (bD j 9 1).bind fun x11=>some (s,x11))))
def iF(s:aD)(w_:Int)(j:bA)(x5:Bool):Option (aD×bA):=
 (if x5 then (bD j 9 1).bind fun x6=>some (s,x6) else (vQ s.aA w_ j.Sub).bind fun x7=>(if !x7.2.cO then some (({s with aA:=x7.1}:aD),({j with Sub:=x7.2}:bA)) else (if j.Op.Kind == 5 then (bD ({j with Sub:=x7.2}:bA) 9 x7.2.Code).bind fun x8=>some (({s with aA:=x7.1}:aD),x8) else (if j.Pc == 0 then (g8 4 0).bind fun x9=>(bD ({j with Sub:=x9}:bA) 1 0).bind fun x10=>some (({s with aA:=x7.1}:aD),x10) else (bD ({j with Sub:=x7.2,dV:=x7.2.Out}:bA) 9 x7.2.Code).bind fun x11=>some (({s with aA:=x7.1}:aD),x11)))))
def xF(s:aD)(w_:Int)(j:bA)(x1:Bool):Option (aD×bA):=
 (if x1 then (EB s.aA.aB w_).bind fun x2=>(if !x2.2 then (bD j 9 5).bind fun x3=>some (({s with aA:=(⟨s.aA.Mem,x2.1,s.aA.aL,s.aA.iS⟩:aA)}:aD),x3) else (bD j 9 0).bind fun x4=>some (({s with aA:=(⟨s.aA.Mem,x2.1,s.aA.aL,s.aA.iS⟩:aA)}:aD),x4)) else (if j.Op.Kind == 6 then iF s w_ j true else (if j.Pc != 0 then (if j.Pc != 1 then iF s w_ j true else iF s w_ j (j.Op.Kind == 5)) else iF s w_ j false)))
def zC(s:aD)(w_:Int)(j:bA):Option (aD×bA):=
 (if j.Op.Kind == 6 then xF s w_ j (j.Pc == 0) else xF s w_ j false)
def cQ(w_:Int)(x3:aD)(x4:bA):Option aD:=
 (idx x3.aU w_).bind fun x5=>some ({x3 with aU:=x3.aU.set w_.toNat x4}:aD)
def N6(s:aD)(w_:Int):Option aD:=
 (idx s.aU w_).bind fun x1=>(if !x1.cN then (zA s w_).bind fun x2=>some x2 else (if x1.Pc == 9 then need (s.Log.length+([(⟨4,w_,x1.aI,x1.Op.Cell,x1.H,x1.dV,x1.Code⟩:Ev)]).length<=1073741824) (some ({s with aU:=s.aU.set w_.toNat (⟨false,(⟨0,0,0,0⟩:dB),0,0,(⟨0,0,0,0,0,0,0,0,0,false⟩:Sub),0,0,0,0⟩:bA),Log:=s.Log++([(⟨4,w_,x1.aI,x1.Op.Cell,x1.H,x1.dV,x1.Code⟩:Ev)])}:aD)) else (if x1.Op.Kind == 1 then (F8 s w_ x1).bind fun x6=>cQ w_ x6.1 x6.2 else (if x1.Op.Kind == 2 then (F9 s w_ x1).bind fun x7=>cQ w_ x7.1 x7.2 else (if x1.Op.Kind == 3 then (GA s w_ x1).bind fun x8=>cQ w_ x8.1 x8.2 else (if x1.Op.Kind == 7 then (C8 s w_ x1).bind fun x9=>cQ w_ x9.1 x9.2 else (zC s w_ x1).bind fun x10=>cQ w_ x10.1 x10.2))))))
end
end Go.Gv
end
