import Derived.Test.YtabnjpbikjfhoaaGreatXRB
import Derived.RangeFuncWrites
import Derived.RangeFuncBox
import Derived.RangeFuncLeaves
import Derived.Shelf.Abstract
import Derived.WalkKit
import Derived.OwnWalkIn
import Derived.TacticsInMore
import Derived.LoopNIn
import Derived.LoopIn
set_option linter.unusedVariables false
set_option linter.unusedSimpArgs false
set_option linter.unusedSectionVars false
set_option linter.constructorNameAsVariable false
set_option linter.unnecessarySimpa false
noncomputable section
namespace Go.Gv
theorem aVD{P:Program}{f:FuncId}{κ:Ctx}{xs:List SV}{ρ:Type}{sv:ρ→SV}{r:ρ}(hcall:∀args w,(callFunc f args).run P w=.ok (.enter f args) w)
    (H:(∀f:Fact,f.P κ.S0 κ.w0→f.P (LR κ.w0) κ.w0)→∀vs,aX (fS []) xs=some vs→Calls P f vs.toArray κ.w0 (Ret fun v w'=>fS [] (sv r)=some v∧St (cQ κ.w0) w' [] [])):Fn0 P f κ xs sv r:=
  ⟨hcall,fun vs hv hS=>Calls.mono (H (fun f hf=>f.mono hf fun b o hb=>hS.s0 b o hb) vs hv) fun en w' ⟨v,h1,h2,h3⟩=>⟨v,h1,(),h2,hS.aN1 h3.g7⟩⟩
noncomputable section
variable {P:Program} {T:TT} {hT:EJ P T} {n:Nat} {c:Ctx} {B0:Bl} {N:Act→World→Prop} {X:Nat→Act→World→Prop} {Q:Act→World→Prop} {K K':List Fr} {m m':Nat} {e e':SE} {L L' Lv:List Ch} {cf cf' cf1 cf2:vC} {o:Oper} {d:Nat}
theorem un{α:Type}[aK α](j:Nat)(ks:List Nat)(ps qs:List (Nat×Nat)){s:AC}{n0:Nat}{l:List α}(hj:L[j]?=some (.o (fV [s.v n0] l)))(hz:gA j cf.yV=true)(hk:aX (BH e) ks=some (ks.map fun _=>.h s n0))(hp:aX (atE (ovh (.h s l.length) e ks)) ps=some (ps.map fun _=>.h s n0))(hq:aX (atL (L.set j (ow s l))) qs=some (qs.map fun _=>.h s n0))(ha:(dM (qs.map (·.1)) && (qs.map (·.1)).all fun j=>gA j cf.yV)=true)
    (k:l.length=n0→G (.mk P T hT n c B0 N X Q) K m (rhE (.h s l.length) (ovh (.h s l.length) e ks) ps) (rhL (.h s l.length) (L.set j (ow s l)) qs) cf):G (.mk P T hT n c B0 N X Q) K m e L cf:=by
  rw [Bool.and_eq_true] at ha
  refine chg (fun _:PLift (l.length=n0)=>m) (fun _=>rhE (.h s l.length) (ovh (.h s l.length) e ks) ps) (fun _=>rhL (.h s l.length) (L.set j (ow s l)) qs) (fun B a w hm hA hS=>?_) (fun _=>RQ (FV hz) ha.2) (fun h=>k h.down)
  have hn:l.length=n0:=by
    obtain⟨⟨R,s1,s2⟩,s0⟩:=hS
    obtain⟨F,hF⟩:=s1.chunk (ch:=fV [s.v n0] l) j (by simp [hj,jW])
    obtain⟨ad,cp,h1,h2⟩:=FK (show aK.own w [s.v n0] l F from hF)
    simp only [AC.v,Value.slice.injEq] at h1
    exact h1.2.1.symm
  subst hn
  have hS':l7 c w B (L.set j (ow s l)):=by
    have:L.set j (ow s l)=L:=by
      obtain⟨hl,he⟩:=List.getElem?_eq_some_iff.1 hj
      show L.set j (.o (fV [s.v l.length] l))=L
      rw [←he];exact List.set_getElem_self hl
    rw [this];exact hS
  obtain⟨h1,h2⟩:=aJR s rfl hp hq ha.1 (aDH ks hk hA) hS'
  exact⟨⟨rfl⟩,[],by simpa using hm,by simpa using h1,by simpa using h2⟩
theorem rr(s:AC){n0 n1:Nat}(hn:n0=n1)(ks:List Nat)(ps qs:List (Nat×Nat))(hk:aX (BH e) ks=some (ks.map fun _=>.h s n0))(hp:aX (atE (ovh (.h s n1) e ks)) ps=some (ps.map fun _=>.h s n0))(hq:aX (atL L) qs=some (qs.map fun _=>.h s n0))(ha:(dM (qs.map (·.1)) && (qs.map (·.1)).all fun j=>gA j cf.yV)=true)
    (k:G (.mk P T hT n c B0 N X Q) K m (rhE (.h s n1) (ovh (.h s n1) e ks) ps) (rhL (.h s n1) L qs) cf):G (.mk P T hT n c B0 N X Q) K m e L cf:=by
  rw [Bool.and_eq_true] at ha
  subst hn
  refine chg (fun _:Unit=>m) (fun _=>rhE (.h s n0) (ovh (.h s n0) e ks) ps) (fun _=>rhL (.h s n0) L qs) (fun B a w hm hA hS=>?_) (fun _=>RQ (by simpa using wI (L:=L) []) ha.2) (fun _=>k)
  obtain⟨h1,h2⟩:=aJR s rfl hp hq ha.1 (aDH ks hk hA) hS
  exact⟨(),[],by simpa using hm,by simpa using h1,by simpa using h2⟩
theorem cpy{d:Option Nat}{x y:Operand}{t t2 el sz:Nat}{α:Type}[aK α][Flat α]{s s2:AC}{l xs:List α}{b1 b2:Bool}{n1:Nat}{z1 z2:List SV}{kt:TK}(p a:Nat)(hb:a≤l.length∧l.length≤l.length)(hsrc:∀{w},HS c w L'→cO (cQ w) s2 xs)(hs:j8 T n K cf m e L=.op o Lv cf1 cf2 K' m' e' L')(ho:(o.op,o.dst)=(.call {callee:=.builtin .copy,args:=#[x,y],argTypes:=#[t,t2]},d))(ht:yU T t=some ⟨.sl el,b1,n1,z1⟩)(he:yU T el=some ⟨kt,b2,sz,z2⟩)(hn:aK.n α=sz)(hp:(L'[p]?,gA p cf1.yV)=(some (ow s l),true))(hx:iK e' x=some (.h (s.sub sz a) ((l.take l.length).drop a).length))(hy:iK e' y=some (.h s2 xs.length))
    (k:G (.mk P T hT n c B0 N X Q) K' m' (dse d (.i .i64 ((min xs.length (l.length - a):Nat):Int)) e') (L'.set p (ow s (dD l a xs))) cf2):G (.mk P T hT n c B0 N X Q) K m e L cf:=by
  have hp1:L'[p]?=some (ow s l):=congrArg Prod.fst hp
  have hz:gA p cf1.yV=true:=congrArg Prod.snd hp
  have hlen:(dD l a xs).length=l.length:=eY hb.1
  refine gC (g:=.mk P T hT n c B0 N X Q) ?_
  rw [hs]
  intro hdn _ hE
  refine hE Unit (fun _=>m') (fun _=>dse d (.i .i64 ((min xs.length (l.length - a):Nat):Int)) e') (fun _=>L'.set p (ow s (dD l a xs))) (fun _=>FV hz) (fun B act w next Q' hm hA hS hnext=>?_) (fun _=>k)
  have hr:cO (cQ w) s2 xs:=hsrc ⟨_,hS⟩
  obtain⟨⟨R,s1,s2'⟩,s0⟩:=hS
  have hx2:ev (vE (RD (.mk P T hT n c B0 N X Q) cf1++B) e') x=some (gO sz a l.length (s.v l.length)):=by rw [X2 hA hx,M4 hb.1 hb.2]
  have hop:o.op=.call {callee:=.builtin .copy,args:=#[x,y],argTypes:=#[t,t2]}:=congrArg Prod.fst ho
  have hd:o.dst=d:=congrArg Prod.snd ho
  obtain⟨v,w',k1,rfl,k2⟩:=aIY p s1 (by rw [List.getElem?_map,hp1];rfl) hr hn hb.1 (EL ht hT) (hT.size _ _ he) hop hx2 (X2 hA hy)
  unfold Oper.wp
  rw [k1 _ act hA.env,Oper.upon_value,hd]
  have hS2:l7 c w' (RD (.mk P T hT n c B0 N X Q) cf1++B) (L'.set p (ow s (dD l a xs))):=by
    refine⟨⟨R,?_,fun z hz=>?_⟩,s0⟩
    · rw [List.map_set]
      show St c w' ((L'.map _).set p (fV [s.v (dD l a xs).length] _)) R
      rw [hlen];exact k2
    · rcases List.mem_or_eq_of_mem_set hz with hz | hz
      · exact s2' z hz
      · subst hz;trivial
  cases d with
  | none=>exact hnext () _ _ ⟨[],by simpa using hm,by simpa [Act.put,dse] using hA,by simpa using hS2⟩
  | some d=>exact hnext () _ _ ⟨[],by simpa using hm,by simpa [dse] using hA.of (by simp [fS,gV,bO]) (hA.env.put (by rw [hd] at hdn;simpa [qE,Nat.blt_eq] using hdn) _),by simpa using hS2⟩
theorem cp0{d:Option Nat}{x y:Operand}{t t2 el sz:Nat}{α:Type}[aK α][Flat α]{s s2:AC}{l xs:List α}{b1 b2:Bool}{n1:Nat}{z1 z2:List SV}{kt:TK}(p:Nat)(hsrc:∀{w},HS c w L'→cO (cQ w) s2 xs)(hs:j8 T n K cf m e L=.op o Lv cf1 cf2 K' m' e' L')(ho:(o.op,o.dst)=(.call {callee:=.builtin .copy,args:=#[x,y],argTypes:=#[t,t2]},d))(ht:yU T t=some ⟨.sl el,b1,n1,z1⟩)(he:yU T el=some ⟨kt,b2,sz,z2⟩)(hn:aK.n α=sz)(hp:(L'[p]?,gA p cf1.yV)=(some (ow s l),true))(hx:iK e' x=some (.h s l.length))(hy:iK e' y=some (.h s2 xs.length))
    (k:G (.mk P T hT n c B0 N X Q) K' m' (dse d (.i .i64 ((min xs.length (l.length - 0):Nat):Int)) e') (L'.set p (ow s (dD l 0 xs))) cf2):G (.mk P T hT n c B0 N X Q) K m e L cf:=by
  have hp1:L'[p]?=some (ow s l):=congrArg Prod.fst hp
  have hz:gA p cf1.yV=true:=congrArg Prod.snd hp
  have hlen:(dD l 0 xs).length=l.length:=eY (Nat.zero_le _)
  refine gC (g:=.mk P T hT n c B0 N X Q) ?_
  rw [hs]
  intro hdn _ hE
  refine hE Unit (fun _=>m') (fun _=>dse d (.i .i64 ((min xs.length (l.length - 0):Nat):Int)) e') (fun _=>L'.set p (ow s (dD l 0 xs))) (fun _=>FV hz) (fun B act w next Q' hm hA hS hnext=>?_) (fun _=>k)
  have hr:cO (cQ w) s2 xs:=hsrc ⟨_,hS⟩
  obtain⟨⟨R,s1,s2'⟩,s0⟩:=hS
  have hop:o.op=.call {callee:=.builtin .copy,args:=#[x,y],argTypes:=#[t,t2]}:=congrArg Prod.fst ho
  have hd:o.dst=d:=congrArg Prod.snd ho
  obtain⟨v,w',k1,rfl,k2⟩:=aM4 p s1 (by rw [List.getElem?_map,hp1];rfl) hr hn (EL ht hT) (hT.size _ _ he) hop (X2 hA hx) (X2 hA hy)
  unfold Oper.wp
  rw [k1 _ act hA.env,Oper.upon_value,hd]
  have hS2:l7 c w' (RD (.mk P T hT n c B0 N X Q) cf1++B) (L'.set p (ow s (dD l 0 xs))):=by
    refine⟨⟨R,?_,fun z hz=>?_⟩,s0⟩
    · rw [List.map_set]
      show St c w' ((L'.map _).set p (fV [s.v (dD l 0 xs).length] _)) R
      rw [hlen];exact k2
    · rcases List.mem_or_eq_of_mem_set hz with hz | hz
      · exact s2' z hz
      · subst hz;trivial
  cases d with
  | none=>exact hnext () _ _ ⟨[],by simpa using hm,by simpa [Act.put,dse] using hA,by simpa using hS2⟩
  | some d=>exact hnext () _ _ ⟨[],by simpa using hm,by simpa [dse] using hA.of (by simp [fS,gV,bO]) (hA.env.put (by rw [hd] at hdn;simpa [qE,Nat.blt_eq] using hdn) _),by simpa using hS2⟩
theorem fR{Z:Act→World→Prop}{e1:SE}{L1:List Ch}(h1:aNB e=some e1)(h2:aNC L=some L1)(kk:∀a w,o9 n c B0 m e1 L1 a w→Z a w):∀a w,o9 n c B0 m e L a w→Z a w:=by
  have:=aDC h1
  have:=aDD h2
  subst e1;subst L1
  exact kk
end
end Go.Gv
end
noncomputable section
namespace Go.Gv
noncomputable section
variable {B B':Bl} {i j:Nat}
end
noncomputable section
variable {n:Nat} {c:Ctx} {B0:Bl} {m:Nat} {e:SE} {L:List Ch}
theorem pnR{Z:Act→World→Prop}{α:Type}[aK α](j:Nat){s:AC}{l:List α}{n0:Nat}(hl:l.length=n0)(hj:L[j]?=some (ow s l))
    (kk:∀a w,o9 n c B0 m e (L.set j (.o (fV [s.v n0] l))) a w→Z a w):∀a w,o9 n c B0 m e L a w→Z a w:=by
  subst hl
  have:L.set j (.o (fV [s.v l.length] l))=L:=by
    obtain⟨h1,h2⟩:=List.getElem?_eq_some_iff.1 hj
    rw [←show L[j]=.o (fV [s.v l.length] l) from h2];exact List.set_getElem_self h1
  rw [this] at kk
  exact kk
end
end Go.Gv
end
noncomputable section
namespace Go.Gv
universe u
theorem Q{α:Sort u}{a:α}:a=a:=Eq.refl a
def W{ρ:Type}(C:Prop)(r:ρ)(F:Option ρ):Prop:=F=some r→C
theorem wm{ρ:Type}{C:Prop}{r:ρ}{F F':Option ρ}(h:F'=F)(k:W C r F):W C r F':=h ▸ k
theorem wi{ρ:Type}{C:Prop}{r:ρ}{F:Option ρ}(h:F=some r)(k:W C r F):C:=k h
def VS(P:Program)(c:Ctx)(f:FuncId){ρ ex:Type}(F:Option ρ)(xs:List SV)(B0:Bl)(L0:List Ch)(sv:ρ→ex→SV)(Lf:ρ→ex→List Ch):Prop:=∀r,F=some r→FnS P f c xs B0 L0 sv Lf r
abbrev V0(P:Program)(c:Ctx)(f:FuncId){ρ:Type}(F:Option ρ)(xs:List SV)(sv:ρ→SV):Prop:=VS P c f F xs [] [] (fun r (_:Unit)=>sv r) (fun _ _=>[])
theorem VS.r{P:Program}{c:Ctx}{f:FuncId}{ρ ex:Type}{F:Option ρ}{xs:List SV}{B0:Bl}{L0:List Ch}{sv:ρ→ex→SV}{Lf:ρ→ex→List Ch}(h:VS P c f F xs B0 L0 sv Lf){r:ρ}(hF:F=some r):FnS P f c xs B0 L0 sv Lf r:=h r hF
def QR(P:Program)(fn:Func){rs:List ResultVar}(_:fn.results=rs.toArray)(c:Ctx)(B0:Bl){ρ ex:Type}(sv:ρ→ex→SV)(Lf:ρ→ex→List Ch)(r:ρ):Act→World→Prop:=QS P fn c B0 sv Lf r
def aOM(T:TT)(rs:List ResultVar)(is:List Nat)(b0:Nat)(L2:List Ch):Stop→Option (SV×List Ch)
  | .ret m e L => match aC2 T e L rs with
    | some x => match EH b0 (nbS x) with
      | true => match PM b0 m e L is b0 [] L2 with
        | some ([],L3)=>some (nbS x,L3)
        | _=>none
      | false=>none
    | none=>none
  | _=>none
def aKS(is:List Nat)(b0 mj:Nat)(ej:SE)(Lj:List Ch):Stop→Option (SE×List Ch)
  | .fin m e L=>PM b0 m e L is mj ej Lj
  | _=>none
def exQ(is:List Nat)(id b0 mj:Nat)(ej:SE)(Lj:List Ch):Stop→Option (SE×List Ch)
  | .ex i m e L => match Nat.beq i id with
    | true=>PM b0 m e L is mj ej Lj
    | false=>none
  | _=>none
def aXJ:Stop→Stop
  | .fin m e L=>.ret m e L
  | _=>.stuck
def ixT(T:TT)(t n:Nat):Bool:=match yU T t with
  | some ⟨.sl el, _, _, _⟩ => match yU T el with
    | some ⟨_,_,sz,_⟩=>Nat.beq n sz
    | none=>false
  | _=>false
noncomputable section
variable {P:Program} {T:TT} {hT:EJ P T} {n:Nat} {c:Ctx} {B0:Bl} {N:Act→World→Prop} {X:Nat→Act→World→Prop} {Q:Act→World→Prop} {K K':List Fr} {m m':Nat} {e e':SE} {L L' Lv:List Ch} {cf cf' cf1 cf2:vC} {o:Oper}
theorem eD(hT:EJ P T){f:FuncId}{fn:Func}{cd:Code}{xs:List SV}{L0:List Ch}{ρ ex:Type}{sv:ρ→ex→SV}{Lf:ρ→ex→List Ch}{F:Option ρ}{rs:List ResultVar}(hc:∀args w,(callFunc f args).run P w=.ok (.enter f args) w)(hf:P.funcs[f]?=some fn)(hr:fn.results=rs.toArray)(hb:fn.body=some cd)(hm:fn.ntmps=n)
    (k:∀{r},W (G (.mk P T hT n c B0 (QR P fn hr c B0 sv Lf r) (fun _ _ _=>False) (QR P fn hr c B0 sv Lf r)) [] B0.length (aB8 0 xs) L0 (.c cd)) r F) (hl:Nat.ble xs.length n=true:=by exact rfl):VS P c f F xs B0 L0 sv Lf:=
  fun _ hF=>en n hc hf hT hb hm hl (k hF)
theorem aJT{rs:List ResultVar}{is:List Nat}{b0:Nat}{L2 L3:List Ch}{s:SV}{st:Stop}(h:aOM T rs is b0 L2 st=some (s,L3)):∃m' e' L' x,st=.ret m' e' L'∧aC2 T e' L' rs=some x∧nbS x=s∧EH b0 s=true∧PM b0 m' e' L' is b0 [] L2=some ([],L3):=by
  unfold aOM at h
  split at h
  · split at h
    · rename_i h1
      split at h
      · rename_i h2
        split at h
        · rename_i h3
          cases h
          exact⟨_,_,_,_,rfl,h1,rfl,h2,h3⟩
        · cases h
      · cases h
    · cases h
  · cases h
theorem pA{fn:Func}{ρ ex:Type}{sv:ρ→ex→SV}{Lf:ρ→ex→List Ch}{r r':ρ}{rs:List ResultVar}{hr:fn.results=rs.toArray}{zz:Option ρ}(y:ex)(is:List Nat)(hz:zz=some r')(h:aOM T rs is B0.length (Lf r' y) (j8 T n K cf m e L)=some (sv r' y,Lf r' y)):W (G (.mk P T hT n c B0 N X (QR P fn hr c B0 sv Lf r)) K m e L cf) r zz:=fun hF=>by
  obtain⟨_,_,_,_,h1,h2,h3,h4,h5⟩:=aJT h
  exact rt y is hF hz h1 hr h2 h3 h4 h5
theorem fN{fn:Func}{ρ:Type}{sv:ρ→Unit→SV}{Lf:ρ→Unit→List Ch}{r r':ρ}{rs:List ResultVar}{hr:fn.results=rs.toArray}{zz:Option ρ}(hz:zz=some r')(h:aOM T rs [] B0.length (Lf r' ()) (j8 T n K cf m e L)=some (sv r' (),Lf r' ())):W (G (.mk P T hT n c B0 N X (QR P fn hr c B0 sv Lf r)) K m e L cf) r zz:=pA () [] hz h
theorem I4{fn:Func}{ρ ex:Type}{sv:ρ→ex→SV}{Lf:ρ→ex→List Ch}{r r':ρ}{rs:List ResultVar}{hr:fn.results=rs.toArray}{zz:Option ρ}(y:ex)(is:List Nat)(hz:zz=some r')(h:aOM T rs is B0.length (Lf r' y) (aXJ (j8 T n K cf m e L))=some (sv r' y,Lf r' y)):W (G (.mk P T hT n c B0 (QR P fn hr c B0 sv Lf r) X Q) K m e L cf) r zz:=fun hF=>by
  obtain⟨m',e',L',_,h1,h2,h3,h4,h5⟩:=aJT h
  refine rf y is hF hz (m':=m') (e':=e') (L':=L') ?_ hr h2 h3 h4 h5
  unfold aXJ at h1
  split at h1
  · rename_i h0;rw [h0];cases h1;rfl
  · cases h1
theorem aJU{is:List Nat}{b0 mj:Nat}{ej e3:SE}{Lj L3:List Ch}{st:Stop}(h:aKS is b0 mj ej Lj st=some (e3,L3)):∃m' e' L',st=.fin m' e' L'∧PM b0 m' e' L' is mj ej Lj=some (e3,L3):=by
  unfold aKS at h
  split at h
  · exact⟨_,_,_,rfl,h⟩
  · cases h
theorem wJ{π υ α:Type}{eq:π→Prop}{mj:Nat}{ej:π→υ→SE}{Lj:π→υ→List Ch}{p:π}{q:α}{zz:Option α}(u:υ)(is:List Nat)(hz:(zz=some q)=eq p)(h:aKS is B0.length mj (ej p u) (Lj p u) (j8 T n K cf m e L)=some (ej p u,Lj p u)):W (G (.mk P T hT n c B0 (JP n c B0 eq mj ej Lj) X Q) K m e L cf) q zz:=fun hF=>by
  obtain⟨_,_,_,h1,h2⟩:=aJU h
  exact jn u is (hz ▸ hF) h1 h2
theorem dK{π α:Type}{eq:π→Prop}{mj:Nat}{ej:π→Unit→SE}{Lj:π→Unit→List Ch}{p:π}{q:α}{zz:Option α}(is:List Nat)(hz:(zz=some q)=eq p)(h:aKS is B0.length mj (ej p ()) (Lj p ()) (j8 T n K cf m e L)=some (ej p (),Lj p ())):W (G (.mk P T hT n c B0 (JP n c B0 eq mj ej Lj) X Q) K m e L cf) q zz:=wJ () is hz h
theorem nxW{σ ρ υ:Type}{o:Step σ ρ}{mj:Nat}{el:σ→υ→SE}{Ll:σ→υ→List Ch}{s:σ}(u:υ)(is:List Nat)(h:aKS is B0.length mj (el s u) (Ll s u) (j8 T n K cf m e L)=some (el s u,Ll s u)):W (G (.mk P T hT n c B0 (NxP n c B0 o mj el Ll) X Q) K m e L cf) o (some (Step.next s)):=fun hF=>by
  obtain⟨_,_,_,h1,h2⟩:=aJU h
  exact nx u is hF h1 h2
theorem UG{σ ρ:Type}{o:Step σ ρ}{mj:Nat}{el:σ→Unit→SE}{Ll:σ→Unit→List Ch}{s:σ}(is:List Nat)(h:aKS is B0.length mj (el s ()) (Ll s ()) (j8 T n K cf m e L)=some (el s (),Ll s ())):W (G (.mk P T hT n c B0 (NxP n c B0 o mj el Ll) X Q) K m e L cf) o (some (Step.next s)):=nxW () is h
def BkR(n:Nat)(c:Ctx)(B0:Bl){β ρ σ υ:Type}{o:Step σ ρ}{ro:ρ}(_:∀p,o=.stop p→p=ro)(enc:β→ρ)(m:Nat)(ej:β→υ→SE)(Lj:β→υ→List Ch)(id:Nat)(X:Nat→Act→World→Prop):Nat→Act→World→Prop:=BkP n c B0 ro enc m ej Lj id X
theorem bkW{σ ρ β υ:Type}{o:Step σ ρ}{ro:ρ}{enc:β→ρ}{mj id:Nat}{ej:β→υ→SE}{Lj:β→υ→List Ch}{b:β}{hr:∀p,o=.stop p→p=ro}(u:υ)(is:List Nat)(h:exQ is id B0.length mj (ej b u) (Lj b u) (j8 T n K cf m e L)=some (ej b u,Lj b u)):W (G (.mk P T hT n c B0 N (BkR n c B0 hr enc mj ej Lj id X) Q) K m e L cf) o (some (Step.stop (enc b))):=fun hF=>by
  unfold exQ at h
  split at h
  · rename_i h0
    split at h
    · rename_i hb
      rw [Nat.eq_of_beq_eq_true hb] at h0
      exact bk u is hF hr h0 h
    · cases h
  · cases h
theorem RR{σ ρ β:Type}{o:Step σ ρ}{ro:ρ}{enc:β→ρ}{mj id:Nat}{ej:β→Unit→SE}{Lj:β→Unit→List Ch}{b:β}{hr:∀p,o=.stop p→p=ro}(is:List Nat)(h:exQ is id B0.length mj (ej b ()) (Lj b ()) (j8 T n K cf m e L)=some (ej b (),Lj b ())):W (G (.mk P T hT n c B0 N (BkR n c B0 hr enc mj ej Lj id X) Q) K m e L cf) o (some (Step.stop (enc b))):=bkW () is h
theorem reW{σ ρ α:Type}{o:Step σ ρ}{p ro:ρ}{F:ρ→Option α}{q:α}{C:Prop}(hr:∀p,o=.stop p→p=ro)(hF:F ro=some q)(k:W C q (F p)):W C o (some (Step.stop p)):=fun h=>k (re h rfl hr hF)
noncomputable section
variable {b:Bool} {α:Type} {A B':Option α} {q:α}
theorem cZ{o:Operand}{x y:Code}(ss:List Nat)(hs:j8 T n K cf m e L=.cond o b x y K' m' e' L')(ho:aX (BH e') ss=some (ss.map fun _=>SV.b b))
    (k1:W (G (.mk P T hT n c B0 N X Q) K' m' (ovr true e' ss) L' (.c x)) q A) (k2:W (G (.mk P T hT n c B0 N X Q) K' m' (ovr false e' ss) L' (.c y)) q B'):W (G (.mk P T hT n c B0 N X Q) K m e L cf) q (if b=true then A else B'):=fun hF=>cs ss hs ho hF k1 k2
theorem aVE{o:Operand}{x y:Code}(ss:List Nat)(hs:j8 T n K cf m e L=.cond o b x y K' m' e' L')(ho:aX (BH e') ss=some (ss.map fun _=>SV.b b))
    (k1:b=true→W (G (.mk P T hT n c B0 N X Q) K' m' (ovr true e' ss) L' (.c x)) q A) (k2:b=false→W (G (.mk P T hT n c B0 N X Q) K' m' (ovr false e' ss) L' (.c y)) q B'):W (G (.mk P T hT n c B0 N X Q) K m e L cf) q (if b=true then A else B'):=fun hF=>csK ss hs ho hF k1 k2
theorem iA(ss:List Nat)(hs:j8 T n K cf m e L=.case b cf' K' m' e' L')(ho:aX (BH e') ss=some (ss.map fun _=>SV.b b))
    (k1:W (G (.mk P T hT n c B0 N X Q) K' m' (ovr true e' ss) L' cf') q A) (k2:W (G (.mk P T hT n c B0 N X Q) K' m' (ovr false e' ss) L' cf') q B'):W (G (.mk P T hT n c B0 N X Q) K m e L cf) q (if b=true then A else B'):=fun hF=>ca ss hs ho hF k1 k2
theorem aHK(ss:List Nat)(hs:j8 T n K cf m e L=.case b cf' K' m' e' L')(ho:aX (BH e') ss=some (ss.map fun _=>SV.b b))
    (k1:b=true→W (G (.mk P T hT n c B0 N X Q) K' m' (ovr true e' ss) L' cf') q A) (k2:b=false→W (G (.mk P T hT n c B0 N X Q) K' m' (ovr false e' ss) L' cf') q B'):W (G (.mk P T hT n c B0 N X Q) K m e L cf) q (if b=true then A else B'):=fun hF=>caK ss hs ho hF k1 k2
end
noncomputable section
variable {α β:Type} {fo:Option α} {kf:α→Option β} {q:β} {d:Nat} {f:FuncId} {xs:List SV}
theorem c0{sv:α→SV}(hs:j8 T n K cf m e L=.call o (some d) f xs cf1 cf2 K' m' e' L')
    (hc:∀{w},HS c w L'→V0 P (cQ w) f fo xs sv) (k:∀x,W (G (.mk P T hT n c B0 N X Q) K' m' ((d,sv x) :: e') L' cf2) q (kf x)):W (G (.mk P T hT n c B0 N X Q) K m e L cf) q (fo.bind kf):=fun hF=>cl0 hs (fun h _ hx=>hc h _ hx) hF fun x _ h=>k x h
theorem c1{ex:Type}{sv:α→ex→SV}{Lf:α→ex→List Ch}(hs:j8 T n K cf m e L=.call o (some d) f xs cf1 cf2 K' m' e' L')
    (hc:∀{w},HS c w L'→VS P (cQ w) f fo xs [] [] sv Lf) (k:∀x,∀y:ex,W (G (.mk P T hT n c B0 N X Q) K' m' ((d,sv x y) :: e') (L'++Lf x y) cf2) q (kf x)) (hn:∀x y,noF (Lf x y)=true:=by exact fun _ _=>rfl):W (G (.mk P T hT n c B0 N X Q) K m e L cf) q (fo.bind kf):=fun hF=>cl hs hn (fun h _ hx=>hc h _ hx) hF fun x _ h y=>k x y h
theorem MP{β:Type}{kf:α→Option β}{q:β}{iR:aK α}(C:H4 α){d t:Nat}{s:AC}{i:Int}{ls:List α}(hs:j8 T n K cf m e L=.idx o d t s ls.length i Lv cf1 cf2 K' m' e' L')(h1:cO c s ls)(ht:ixT T t (aK.n α)=true)
    (k:∀x,∀y:C.ex,C.sub c.S0 c.w0 x y→W (G (.mk P T hT n c B0 N X Q) K' (m'+1) ((d,.p m' 0) :: e') (L' ++ [.ro m' (C.cs x y)]) (cf2.ext [.ro m' (C.cs x y)])) q (kf x)):W (G (.mk P T hT n c B0 N X Q) K m e L cf) q ((idx ls i).bind kf):=fun hF=>by
  unfold ixT at ht
  split at ht
  · rename_i h2
    split at ht
    · rename_i h3
      exact ix C hs h1 hF h2 h3 (Nat.eq_of_beq_eq_true ht) fun x _ h y hy=>k x y hy h
    · cases ht
  · cases ht
theorem ixI{β:Type}{kf:Int→Option β}{q:β}{d t:Nat}{s:AC}{i:Int}{ls:List Int}(hs:j8 T n K cf m e L=.idx o d t s ls.length i Lv cf1 cf2 K' m' e' L')(h1:cO c s ls)(ht:ixT T t 1=true)
    (k:∀x,W (G (.mk P T hT n c B0 N X Q) K' (m'+1) ((d,.p m' 0) :: e') (L' ++ [.ro m' [.i .i64 x]]) (cf2.ext [.ro m' [.i .i64 x]])) q (kf x)):W (G (.mk P T hT n c B0 N X Q) K m e L cf) q ((idx ls i).bind kf):=MP cI hs h1 ht fun x _ _=>k x
theorem tO(hm:P.follows .mixedOrders=true){id:Nat}{ops:Array Oper}{zz:Option β}(is:List Nat)(hs:j8 T n K cf m e L=.rgn id ops K' m' e' L')
    (k:∀{B1},W (G (.mk P T hT n c B0 N X Q) K' m' e' L' (.d B1 ops (List.replicate ops.size false) is (kl L' is) (kl L' is))) q zz) (hf:(aE1 ops && (okL m' (kl L' is) && (dM is && is.all fun j=>Nat.blt j L'.length)))=true:=by kernel_rfl):W (G (.mk P T hT n c B0 N X Q) K m e L cf) q zz:=fun hF=>dr is hs hm hf fun _=>k hF
theorem kZ{π υ:Type}{zz:Option β}(j mj:Nat)(Fj:π→Option β)(ks:List Nat)(ej:π→υ→SE)(is:List Nat)(Lj:π→υ→List Ch)(hs:QL (j8 T n K cf m e L)=some (K',cf',m',e',L'))
    (k1:W (G (.mk P T hT n c B0 (JP n c B0 (fun p=>Fj p=some q) mj (fun p u=>ej p u++kp e' ks) (fun p u=>Lj p u++kl L' is)) (XK (.mk P T hT n c B0 N X Q) (K'.drop j)) Q) (K'.take j) m' e' L' cf') q zz)
    (k2:∀p u,W (G (.mk P T hT n c B0 N X Q) (K'.drop j) mj (ej p u++kp e' ks) (Lj p u++kl L' is) .n) q (Fj p)):W (G (.mk P T hT n c B0 N X Q) K m e L cf) q zz:=fun hF=>cut j mj (fun p=>Fj p=some q) ks ej is Lj hs (k1 hF) fun p u h=>k2 p u h
theorem fO{zz:Option β}(j mj:Nat)(Fj:Bool→Option β)(ks:List Nat)(v:Nat)(is:List Nat)(hs:QL (j8 T n K cf m e L)=some (K',cf',m',e',L'))
    (k1:W (G (.mk P T hT n c B0 (JP n c B0 (fun p=>Fj p=some q) mj (fun p (_:Unit)=>[(v,.b p)]++kp e' ks) (fun _ _=>[]++kl L' is)) (XK (.mk P T hT n c B0 N X Q) (K'.drop j)) Q) (K'.take j) m' e' L' cf') q zz)
    (k2:∀p,W (G (.mk P T hT n c B0 N X Q) (K'.drop j) mj ([(v,.b p)]++kp e' ks) ([]++kl L' is) .n) q (Fj p)):W (G (.mk P T hT n c B0 N X Q) K m e L cf) q zz:=kZ j mj Fj ks (fun p (_:Unit)=>[(v,.b p)]) is (fun _ _=>[]) hs k1 fun p _=>k2 p
theorem UX{σ ρ υ γ ω:Type}{id:Nat}{y:Code}{fb:σ→Option (Step σ ρ)}{s0:σ}{gk:ρ→Option β}(u0:υ)(ks:List Nat)(el:σ→υ→SE)(is0 is:List Nat)(Ll:σ→υ→List Ch)(enc:γ→ρ)(kb:List Nat)(ej:γ→ω→SE)(ib:List Nat)(Lj:γ→ω→List Ch)
    (hs:j8 T n K cf m e L=.loop id y K' m' e' L')
    (h0:PM B0.length m' e' L' is0 m' (el s0 u0++kp e' ks) (Ll s0 u0++kl L' is)=some (el s0 u0++kp e' ks,Ll s0 u0++kl L' is))
    (k1:∀{ro o},gk ro=some q→∀s u,(hr:∀p,o=.stop p→p=ro)→W (G (.mk P T hT n c B0 (NxP n c B0 o m' (fun s u=>el s u++kp e' ks) (fun s u=>Ll s u++kl L' is)) (BkR n c B0 hr enc m' (fun b u=>ej b u++kp e' kb) (fun b u=>Lj b u++kl L' ib) id (XK (.mk P T hT n c B0 N X Q) K')) Q) [] m' (el s u++kp e' ks) (Ll s u++kl L' is) (.c y)) o (fb s))
    (k2:∀b u,W (G (.mk P T hT n c B0 N X Q) K' m' (ej b u++kp e' kb) (Lj b u++kl L' ib) .n) q (gk (enc b))):W (G (.mk P T hT n c B0 N X Q) K m e L cf) q ((loop fb s0).bind gk):=fun hF=>
  lp u0 ks el is0 is Ll enc kb ej ib Lj hs hF h0 (fun ro h1 s u o h2 h3=>k1 h1 s u h3 h2) fun b u h=>k2 b u h
theorem lpI{ρ:Type}{id:Nat}{y:Code}{fb:Int→Option (Step Int ρ)}{s0:Int}{gk:ρ→Option β}(v:Nat)(ks:List Nat)(is:List Nat)(enc:Unit→ρ)(kb:List Nat)(ib:List Nat)
    (hs:j8 T n K cf m e L=.loop id y K' m' e' L')
    (h0:PM B0.length m' e' L' is m' ([(v,.i .i64 s0)]++kp e' ks) ([]++kl L' is)=some ([(v,.i .i64 s0)]++kp e' ks,[]++kl L' is))
    (k1:∀{ro o},gk ro=some q→∀s,(hr:∀p,o=.stop p→p=ro)→W (G (.mk P T hT n c B0 (NxP n c B0 o m' (fun s (_:Unit)=>[(v,.i .i64 s)]++kp e' ks) (fun _ _=>[]++kl L' is)) (BkR n c B0 hr enc m' (fun _ (_:Unit)=>[]++kp e' kb) (fun _ _=>[]++kl L' ib) id (XK (.mk P T hT n c B0 N X Q) K')) Q) [] m' ([(v,.i .i64 s)]++kp e' ks) ([]++kl L' is) (.c y)) o (fb s))
    (k2:W (G (.mk P T hT n c B0 N X Q) K' m' ([]++kp e' kb) ([]++kl L' ib) .n) q (gk (enc ()))):W (G (.mk P T hT n c B0 N X Q) K m e L cf) q ((loop fb s0).bind gk):=
  UX () ks (fun s (_:Unit)=>[(v,.i .i64 s)]) is is (fun _ _=>[]) enc kb (fun _ (_:Unit)=>[]) ib (fun _ _=>[]) hs h0 (fun h s _ hr=>k1 h s hr) fun _ _=>k2
theorem yW{β:Type}{kf:α→Option β}{q:β}[aK α](E:CO α)(j:Nat){t:TypeId}{s:AC}{i:Int}{ls:List α}(hs:j8 T n K cf m e L=.idx o d t s ls.length i Lv cf1 cf2 K' m' e' L')(hj:L'[j]?=some (ow s ls))(hz:gA j cf1.yV=true)
    (k:∀x,idx ls i=some x→∀y:E.ex,Shp s ls.length→W (G (.mk P T hT n c B0 N X Q) K' (m'+1) e' (L'.set j .no++([.o (uN (s.v ls.length) ls i.toNat),.box m' (E.cs x y),wOf α m' s ls.length i.toNat]++E.Lx x y)) (cf1.ext [wOf α m' s ls.length i.toNat])) q (kf x)):W (G (.mk P T hT n c B0 N X Q) K m e L cf) q ((idx ls i).bind kf):=fun hF=>oe E j hs hj hz hF fun x h1 h2 y h3=>k x h1 y h3 h2
end
noncomputable section
variable {α β ex:Type} {fo:Option α} {kf:α→Option β} {q:β} {d:Option Nat} {f:FuncId} {xs xs0:List SV} {M:List Ch} {sv:α→ex→SV} {Lr:α→ex→List Ch}
theorem aAO(is:List Nat)
    (hs:cpS (j8 T n K cf m e L)=some (o,d,f,xs,cf1,cf2,K',m',e',L')) (hi:aX (fun i=>L'[i]?) is=some M) (hx:aX (rnP [] 0) xs=some xs0)
    (hk:(M3 M && (dM is && is.all fun j=>gA j cf1.yV))=true)
    (hc:∀{κ:Ctx},HG c κ L' is→VS P κ f fo xs0 [] M sv Lr)
    (k:∀x,∀y:ex,W (G (.mk P T hT n c B0 N X Q) K' m' (dse d (sv x y) e') (M1 L' is++Lr x y) cf2) q (kf x)) (hn:∀x y,(M3 (Lr x y) && EH 0 (sv x y))=true:=by exact fun _ _=>rfl):W (G (.mk P T hT n c B0 N X Q) K m e L cf) q (fo.bind kf):=fun hF=>
  cw0 is hs hi hx hk hn (fun h _ hx=>hc h _ hx) hF fun x _ h y=>k x y h
theorem dL{c1:List SV}{a1:α→ex→List SV}(i1 n1 o1 k1:Nat)(is:List Nat)
    (hs:cpS (j8 T n K cf m e L)=some (o,d,f,xs,cf1,cf2,K',m',e',L')) (hb:aFC L' [(i1,n1,o1,k1)]=some [c1]) (hi:aX (fun i=>L'[i]?) is=some M) (hx:aX (rnP [(i1,n1,o1,k1)] 0) xs=some xs0)
    (hk:(M3 M && ([c1].all (EH.okC 0) && (dM (i1 :: is) && (i1 :: is).all fun j=>gA j cf1.yV)))=true)
    (hc:∀{κ:Ctx},HG c κ L' (i1 :: is)→∀{b1:Nat×Nat},VS P κ f fo xs0 [b1] (.box 0 c1 :: M) sv (fun x y=>.box 0 (a1 x y) :: Lr x y))
    (k:∀x,∀y:ex,W (G (.mk P T hT n c B0 N X Q) K' m' (dse d (sv x y) e') (KI L' (M1 L' (i1 :: is)++Lr x y) [(i1,n1,o1,k1)] [a1 x y]) cf2) q (kf x)) (hn:∀x y,(X3 [(i1,n1,o1,k1)] [a1 x y] && ([a1 x y].all (EH.okC 0) && (M3 (Lr x y) && EH 0 (sv x y))))=true:=by exact fun _ _=>rfl):W (G (.mk P T hT n c B0 N X Q) K m e L cf) q (fo.bind kf):=fun hF=>
  cw1 i1 n1 o1 k1 is hs hb hi hx hk hn (fun h _ _ hx=>hc h _ hx) hF fun x _ h y=>k x y h
theorem UY{c1 c2:List SV}{a1 a2:α→ex→List SV}(i1 n1 o1 k1:Nat)(i2 n2 o2 k2:Nat)(is:List Nat)
    (hs:cpS (j8 T n K cf m e L)=some (o,d,f,xs,cf1,cf2,K',m',e',L')) (hb:aFC L' [(i1,n1,o1,k1),(i2,n2,o2,k2)]=some [c1,c2]) (hi:aX (fun i=>L'[i]?) is=some M) (hx:aX (rnP [(i1,n1,o1,k1),(i2,n2,o2,k2)] 0) xs=some xs0)
    (hk:(M3 M && ([c1,c2].all (EH.okC 0) && (dM (i1 :: i2 :: is) && (i1 :: i2 :: is).all fun j=>gA j cf1.yV)))=true)
    (hc:∀{κ:Ctx},HG c κ L' (i1 :: i2 :: is)→∀{b1 b2:Nat×Nat},VS P κ f fo xs0 [b1,b2] (.box 0 c1 :: .box 1 c2 :: M) sv (fun x y=>.box 0 (a1 x y) :: .box 1 (a2 x y) :: Lr x y))
    (k:∀x,∀y:ex,W (G (.mk P T hT n c B0 N X Q) K' m' (dse d (sv x y) e') (KI L' (M1 L' (i1 :: i2 :: is)++Lr x y) [(i1,n1,o1,k1),(i2,n2,o2,k2)] [a1 x y,a2 x y]) cf2) q (kf x)) (hn:∀x y,(X3 [(i1,n1,o1,k1),(i2,n2,o2,k2)] [a1 x y,a2 x y] && ([a1 x y,a2 x y].all (EH.okC 0) && (M3 (Lr x y) && EH 0 (sv x y))))=true:=by exact fun _ _=>rfl):W (G (.mk P T hT n c B0 N X Q) K m e L cf) q (fo.bind kf):=fun hF=>
  cw2 i1 n1 o1 k1 i2 n2 o2 k2 is hs hb hi hx hk hn (fun h _ _ _ hx=>hc h _ hx) hF fun x _ h y=>k x y h
end
theorem aAP{α β:Type}{iR:aK α}{C:H4 α}{sr:β→SV}{g:FuncId}{w:World}{p:α→Option β}(hc:∀args w,(callFunc g args).run P w=.ok (.enter g args) w)(hn:∀{κ:Ctx} {x y},C.sub κ.S0 κ.w0 x y→V0 P κ g (p x) [C.sv x y] sr):XZ P (cQ w) C sr g [] p:=fu1 hc (by intro κ x y h q hq;exact hn h _ hq)
theorem aHL{α β:Type}{iR:aK α}{C:H4 α}{sr:β→SV}{g:FuncId}{w:World}{Bs:Bl}{cs:List (Nat×List SV)}{p:α→Option β}(hc:∀args w,(callFunc g args).run P w=.ok (.enter g args) w)(hB:∀w1,fU F0 w w1→l7 (cQ w1) w1 Bs (roL 0 cs))(hl:aX (fS Bs) (aN6 0 cs)=some (X0 Bs))(hn:∀{w1 x y},fU F0 w w1→C.sub (LR w1) w1 x y→VS P (cQ w1) g (p x) (C.sv x y :: aN6 0 cs) Bs (roL 0 cs) (fun r (_:Unit)=>sr r) (fun _ _=>[]))(hz:∀q,EH 0 (sr q)=true:=by exact fun _=>rfl):XZ P (cQ w) C sr g (X0 Bs) p:=fk1 hc hB hl hz (by intro w1 x y h h' q hq;exact hn h h' _ hq)
noncomputable section
variable {α β:Type} {fo:Option α} {kf:α→Option β} {q:β} {d:Nat} {f g:FuncId} {xs:List SV} {sv:α→SV}
theorem aHM{n1:Nat}{c1:List SV}(is:List Nat)(hs:j8 T n K cf m e L=.callp o (some d) f xs cf1 cf2 K' m' e' L')(hk:kl L' is=[.ro n1 c1])(ho:(aE8 [(n1,c1)] && okA xs.dropLast)=true)(hx:xs=xs.dropLast ++ [.f g [n1]])
    (hc:∀{w},HS c w L'→∀{b1:Nat×Nat},(∀w1,fU F0 w w1→l7 (cQ w1) w1 [b1] [.ro 0 c1])→V0 P (cQ w) f fo (xs.dropLast ++ [.k (.func (.func g) #[] (X0 [b1]).toArray)]) sv)
    (k:∀x,W (G (.mk P T hT n c B0 N X Q) K' m' ((d,sv x) :: e') L' cf2) q (kf x)):W (G (.mk P T hT n c B0 N X Q) K m e L cf) q (fo.bind kf):=fun hF=>
  aYY is hs hk ho hx (fun h _ h2 _ hx=>hc h h2 _ hx) hF fun x _ h=>k x h
end
end
end Go.Gv
end
noncomputable section
namespace Go.Gv
def pV(y:Nat×Nat):Value:=.pointer (some ⟨y.1,y.2,none⟩)
noncomputable section
variable {P:Program} {T:TT} {hT:EJ P T} {n:Nat} {c:Ctx} {B0:Bl} {N:Act→World→Prop} {X:Nat→Act→World→Prop} {Q:Act→World→Prop} {K K':List Fr} {m m':Nat} {e e':SE} {L L':List Ch} {cf cf1 cf2:vC} {o:Oper}
abbrev VP(P:Program)(c:Ctx)(f:FuncId){ρ:Type}(F:Option ρ)(xs:List SV)(cs:ρ→List SV):Prop:=VS P c f F xs [] [] (fun _ (y:Nat×Nat)=>.k (pV y)) (fun r y=>[.o (MO [y] 0 (cs r))])
theorem rtP{fn:Func}{ρ:Type}{r r':ρ}{t:Nat}{hr:fn.results=[ResultVar.tmp t].toArray}{zz:Option ρ}{cs:ρ→List SV}(is:List Nat)(hz:zz=some r')(hs:j8 T n K cf m e L=.ret m' e' L')(hL:PM 0 m' e' L' is 1 [(t,.p 0 0)] [.box 0 (cs r')]=some ([(t,.p 0 0)],[.box 0 (cs r')]))(ho:EH.okC 0 (cs r')=true):W (G (.mk P T hT n c [] N X (QR P fn hr c [] (fun _ (y:Nat×Nat)=>.k (pV y)) (fun r y=>[.o (MO [y] 0 (cs r))]) r)) K m e L cf) r zz:=fun hF=>by
  subst hz;cases hF
  refine gC (g:=.mk P T hT n c [] N X _) ?_
  rw [hs]
  intro a w hr'
  obtain⟨B,hm,hA,hS⟩:=o9.PM hr' is hL
  have hB:∃y,B=[y]:=by
    cases B with
    | nil=>simp at hm
    | cons y B => cases B with
      | nil=>exact⟨y,rfl⟩
      | cons z B=>simp at hm
  obtain⟨y,rfl⟩:=hB
  have hS:l7 c w [y] [.box 0 (cs r)]:=hS
  have hA:fT n [y] [(t,.p 0 0)] a:=hA
  have hv:aC2 T [(t,.p 0 0)] [.box 0 (cs r)] [ResultVar.tmp t]=some (.p 0 0):=by simp [aC2,aND,BH]
  obtain⟨v,h1,h2⟩:=WY hr hT hA hS hv
  have hv':v=pV y:=by
    simp only [fS,gV,bO,List.getElem?_cons_zero] at h1
    cases h1;rfl
  subst hv'
  refine⟨hA.d,_,h2,y,by simp [fS,gV,bO,pV,Value.oneCell'],?_⟩
  obtain⟨⟨R,s1,s2⟩,s0⟩:=hS
  exact⟨⟨R,s1.imp (.cons (fun F h=>h) .nil),fun x hx=>by rcases List.mem_cons.1 hx with rfl | hx <;> first | trivial | simp at hx⟩,s0⟩
theorem cP{α β:Type}{fo:Option α}{kf:α→Option β}{q:β}{d:Nat}{f:FuncId}{xs:List SV}{cs:α→List SV}(hs:j8 T n K cf m e L=.call o (some d) f xs cf1 cf2 K' m' e' L')
    (hc:∀{w},HS c w L'→VP P (cQ w) f fo xs cs) (k:∀x,W (G (.mk P T hT n c B0 N X Q) K' (m'+1) ((d,.p m' 0) :: e') (L' ++ [.box m' (cs x)]) cf2) q (kf x)) (hk:∀x,EH.okC 0 (cs x)=true:=by exact fun _=>rfl):W (G (.mk P T hT n c B0 N X Q) K m e L cf) q (fo.bind kf):=fun hF=>by
  refine gC (g:=.mk P T hT n c B0 N X Q) ?_
  rw [hs]
  intro fo' args ats ho hd hf ⟨ys,hys,hxs⟩ hA0 hdn hE
  subst hxs
  cases hfo:fo with
  | none=>rw [hfo] at hF;cases hF
  | some x =>
    rw [hfo] at hF
    refine hE Unit (fun _=>m'+1) (fun _=>(d,.p m' 0) :: e') (fun _=>L' ++ [.box m' (cs x)]) (fun _=>wI _) (fun B a w next Q' hm hA hS hnext=>?_) (fun _=>k x hF)
    obtain⟨hcall,hrun⟩:=hc ⟨_,hS⟩ x hfo
    obtain⟨vs,h1,h2⟩:=UF hA hys
    obtain⟨v,h3,h4⟩:=eF hA hf
    simp [fS,aX] at h3
    subst h3
    have h5:=hrun vs (WZ hA0 (by rw [O4];exact h1)) (aNZ w)
    have h6:=RN (w:=w) hcall ho h4 h2
    unfold Oper.wp
    rw [h6 _ a hA.env,Oper.upon_enter]
    refine Calls.mono h5 fun en w' ⟨v,hv,y,g1,g2⟩=>?_
    subst hv
    rw [hd]
    have hv':v=pV y:=by simpa [fS,gV,bO,pV,Value.oneCell'] using g1.symm
    subst hv'
    have hb:∀{F:cN},(MO [y] 0 (cs x)).P w' F→(MO ((RD (.mk P T hT n c B0 N X Q) cf1++B) ++ [y]) m' (cs x)).P w' F:=fun⟨b,z,us,k1,k2,k3⟩=>by
      simp only [List.getElem?_cons_zero,Option.some.injEq] at k1
      refine⟨y.1,y.2,us,?_,?_,by rw [k1];exact k3⟩
      · rw [List.getElem?_append_right (by omega),hm];simp
      · simpa using eZ (fun x v h=>by simpa using f7 (B:=[]) (RD (.mk P T hT n c B0 N X Q) cf1++B ++ [y]) h) (EK (hk x) k2)
    have g3:fS ((RD (.mk P T hT n c B0 N X Q) cf1++B) ++ [y]) (.p m' 0)=some (pV y):=by
      simp only [fS,gV,bO]
      rw [List.getElem?_append_right (by omega),hm]
      simp [pV]
    refine hnext () _ _ ⟨[y],by simp only [List.length_append,List.length_cons,List.length_nil] at hm ⊢;omega,hA.ext g3 (hA.env.put (by simpa [qE,Nat.blt_eq] using hdn) _),?_⟩
    obtain⟨⟨R,s1,s2⟩,s0⟩:=(hS.after (L2:=[.o (MO [y] 0 (cs x))]) rfl g2).app [y]
    refine⟨⟨R,s1.imp ?_,fun z hz=>?_⟩,s0⟩
    · rw [List.map_append,List.map_append]
      exact iX.append (iX.refl _) (.cons (fun F h=>hb h) .nil)
    · rcases List.mem_append.1 hz with hz | hz
      · exact s2 z (List.mem_append_left _ hz)
      · rcases List.mem_cons.1 hz with rfl | hz <;> first | trivial | simp at hz
def aVF(b:Bool)(off sz:Nat)(cs:List SV):Option SV:=match b with
  | true=>some (.g ((cs.drop off).take sz))
  | false => match cs[off]? with
    | some x => match x with
      | .g _=>none
      | .t _=>none
      | .f _ _=>none
      | .u=>none
      | y=>some y
    | none=>none
theorem TB{α:Type}{F0:Option α}{q:α}{t ix sz d:Nat}{b:Bool}{k:TK}{z cs:List SV}{Fs:Array Field}{F:Field}{x:Operand}{r:SV}{Lv:List Ch}(hu:P.underlying t=some (.struct Fs))(hf:Fs[ix]?=some F)(hl:yU T F.type=some ⟨k,b,sz,z⟩)(hs:XS (j8 T n K cf m e L)=some (o,Lv,cf1,cf2,K',m',e',L'))(ho:(o.op,o.dst)=(.field t x ix,some d))(hx:iK e' x=some (.g cs))(hr:aVF b F.offset sz cs=some r)(hz:(!b || Nat.ble (F.offset+sz) cs.length)=true)
    (kk:W (G (.mk P T hT n c B0 N X Q) K' m' ((d,r) :: e') L' cf2) q F0):W (G (.mk P T hT n c B0 N X Q) K m e L cf) q F0:=fun hF=>
  pu hs (congrArg Prod.snd ho) (fun B a w hA _=>by
    obtain⟨v,h1,h2⟩:=eF hA hx
    simp only [fS,gV] at h1
    split at h1
    case h_2=>cases h1
    rename_i vs hv
    cases h1
    have hlen:=kU hv
    have h0:o.op=.field t x ix:=congrArg Prod.fst ho
    have hag:=hT.agg _ _ hl
    have hsz:=hT.size _ _ hl
    cases b with
    | true =>
      have hz':=Nat.le_of_ble_eq_true (by simpa using hz)
      simp only [aVF] at hr;cases hr
      refine⟨.agg ((vs.drop F.offset).take sz).toArray,by simp only [fS,gV,JE sz (JD F.offset hv)],fun _ a hA=>?_⟩
      have e:vs.toArray.extract F.offset (F.offset+sz)=((vs.drop F.offset).take sz).toArray:=by
        apply Array.ext'
        simp [List.extract_eq_take_drop]
      simp [execOp,h0,hA.eval h2,Instr.field,run_underlying hu,hf,part,asAgg,hag,hsz,e]
    | false =>
      simp only [aVF] at hr
      split at hr
      case h_2=>cases hr
      rename_i y hy
      obtain⟨u,h4,h5⟩:=JC hv hy
      have hr':r=y:=by cases y <;> simp at hr <;> exact hr.symm
      subst hr'
      refine⟨u,aI0 h4,fun _ a hA=>?_⟩
      simp [execOp,h0,hA.eval h2,Instr.field,run_underlying hu,hf,part,asAgg,hag,h5]) (kk hF)
end
end Go.Gv
end
noncomputable section
namespace Go.Gv
noncomputable section
variable {n:Nat} {c:Ctx} {B0:Bl} {m:Nat} {e:SE} {L:List Ch}
def kf(L xs:List Ch)(k:Nat):List Nat→List Ch
  | []=>[]
  | i :: is => match Nat.blt i k with
    | true => match L[i]? with
      | some x=>x :: kf L xs k is
      | none=>kf L xs k is
    | false => match xs[i - k]? with
      | some x=>x :: kf L xs k is
      | none=>kf L xs k is
end
end Go.Gv
end
noncomputable section
namespace Go.Gv
open Go Go.RowKit
noncomputable section
variable {F:Fence} {n:Nat} {P:Program}
def rfE{α:Type}(B n₀:Nat)(I Ix:List α→World→Prop)(xs:List α)(W:World):Exit→Act→World→Prop
  | .normal,_,W'=>KeepsFrom B W W'∧Below n₀ W W'∧I xs W'
  | .ret,_,W'=>KeepsFrom B W W'∧Ix xs W'
  | _,_,_=>False
theorem aON{α:Type}{g:Operand}{ps:Array Tmp}{assign body:Code}{Q:Exit→Act→World→Prop}{a:Act}{w w0:World}{gf n₀ N:Nat}{lb:Array Value}{encs:α→Array Value}{S Sp:List α→Prop}
    (hro:F.round=none) (h1:1≤n) (hg:a.eval g=.func (.func gf) #[] lb) (hf:F.fn gf) (eg:∀args w,(callFunc gf args).run P w=.ok (.enter gf args) w)
    (hseq:SeqStopsK F (n - 1) P gf lb encs (Below n₀) S Sp N w0) (hn:n₀≤w.heap.size) (hb0:Below w0.heap.size w0 w) (hps:∀x,(encs x).size=ps.size)
    (I Ix:List α→World→Prop) (I2:List α→α→Act→World→Prop) (hI:OwnFrom w.heap.size I) (hIx:OwnFrom w.heap.size Ix) (hI2:∀x a1,OwnFrom w.heap.size fun pre W=>I2 pre x a1 W) (h0:I [] w)
    (hassign:∀(l:Nat) (pre:List α) (x:α) (W:World),w.heap.size≤W.heap.size→I pre W→pre.length < N→assign.wpIn (F.inRound l) (n - 1 - 1) P (Exit.then (fun a1 W1=>KeepsFrom w.heap.size W W1∧Below n₀ W W1∧I2 pre x a1 W1) (fun _ _ _=>False)) {tmps:=(ps.zip (encs x)).foldl (fun t (p,v)=>t.setIfInBounds p v) a.tmps,defers:=[]} W)
    (hbody:∀(l:Nat) (pre:List α) (x:α) (a1:Act) (W:World),I2 pre x a1 W→body.wpIn (F.inRound l) (n - 1 - 1) P (rfE w.heap.size n₀ I Ix (pre ++ [x]) W) a1 W)
    (hdone:∀(D:Nat) (xs:List α) (W:World),w.heap.size≤D→S xs→I xs W→W.heap[D]?=some (.deferred (some []))→Q .normal {a with defers:={target:=.collected D,args:=#[]} :: a.defers} W)
    (hstop:∀(D:Nat) (pre:List α) (W:World),w.heap.size≤D→Sp pre→Ix pre W→W.heap[D]?=some (.deferred (some []))→Code.ret.wpIn F n P Q {a with defers:={target:=.collected D,args:=#[]} :: a.defers} W) :
    (Code.rangeFunc g ps assign body).wpIn F n P Q a w:=by
  refine wpIn_rangeFunc fun fn hfn=>?_
  rw [hro]
  let B:=w.heap.size
  let rc:LoopState→Option Code→Loop:=fun st pe=>{state:=st,pending:=pe,fn,tmps:=a.tmps,params:=ps,assign,body,defers:=B}
  let W1:=(w.alloc (.deferred (some []))).alloc (.loop (rc .ready none))
  have s1:W1.heap.size=B+2:=by simp [W1,B]
  have L1:W1.heap[B+1]?=some (.loop (rc .ready none)):=by
    have:=World.alloc_heap_new (w.alloc (.deferred (some []))) (.loop (rc .ready none));rwa [World.size_alloc] at this
  have K1:W1.heap[B]?=some (.deferred (some [])):=(Below.heap_alloc _ _ _ (by simp [B])).trans (World.alloc_heap_new w _)
  have b1:Below w0.heap.size w0 W1:=hb0.trans ((((Below.refl _ w).alloc (Nat.le_refl _) _).alloc (by simp) _).mono hb0.size)
  have io:I [] W1:=hI.alloc _ (hI.alloc _ h0)
  let Bk:Loop→World→Prop:=fun r W=>W.heap[B+1]?=some (.loop r)∧W.heap[B]?=some (.deferred (some []))
  have kept:∀{r:Loop} {X Y:World} {row:Option Nat},Bk r X→X.grownBy Y row→(∀j,row=some j→W1.heap.size≤j∧∃o:Obj,X.heap[j]?=some o∧o.isWalk=true)→Bk r Y:=fun h hg hr=>
    ⟨(hg.block _ (Array.getElem?_eq_some_iff.1 h.1).1 fun e=>by have:=(hr _ e.symm).1;omega).trans h.1,(hg.block _ (Array.getElem?_eq_some_iff.1 h.2).1 fun e=>by have:=(hr _ e.symm).1;omega).trans h.2⟩
  have far:∀{X:World} {row:Option Nat},(∀j,row=some j→W1.heap.size≤j∧∃o:Obj,X.heap[j]?=some o∧o.isWalk=true)→∀j,row=some j→B≤j∧∃o:Obj,X.heap[j]?=some o∧o.isCells=false:=fun hr j e=>by
    obtain⟨q,o,h,hw⟩:=hr j e
    exact⟨by omega,o,h,Obj.not_cells_of_walk hw⟩
  have put:∀{r r':Loop} {X:World},Bk r X→Bk r' (X.putObj (B+1) (.loop r')):=fun h=>⟨World.putObj_heap_same (Array.getElem?_eq_some_iff.1 h.1).1,(World.putObj_heap_other (by omega)).trans h.2⟩
  have blo:∀{r r':Loop} {X:World},Bk r X→Below n₀ X (X.putObj (B+1) (.loop r')):=fun h=>belowK_b (w:=w) hn _ _ _ _ (by omega) h.1 rfl rfl
  refine⟨B+1,[{target:=.collected B,args:=#[]}],W1,{target:=.fn (.func gf) lb,args:=#[.func (.yield (B+1)) #[] #[]]},W1,gf,#[.func (.yield (B+1)) #[] #[]]++lb,W1,run_enterLoop_outer _ _ _ _ _,?_,?_,?_,fun _=>h1,?_⟩
  · simp only [resolve,hg]
    simp [go_sem]
  · intro f' h'
    simp [Target.leads] at h'
    subst h'
    exact hf
  · simp [invoke,go_sem,eg]
  refine(hseq (B+1) (fun pre W=>I pre W∧Bk (rc .ready none) W) (fun pre W=>Ix pre W∧Bk (rc .done (some .ret)) W) W1 b1 (fun s X Y row h hg hr=>⟨hI s X Y row h.1 hg (far hr),kept h.2 hg hr⟩) (fun s X Y row h hg hr=>⟨hIx s X Y row h.1 hg (far hr),kept h.2 hg hr⟩) ?_ ⟨io,L1,K1⟩).mono ?_
  · rintro pre x W ⟨hi,hb⟩ hl
    have hsz:B≤W.heap.size:=by have:=(Array.getElem?_eq_some_iff.1 hb.1).1;omega
    refine⟨fn,_,assign,body,run_yield (P:=P) (args:=encs x) hb.1 (hps x),roundIn_of_wpIn hfn (wpIn_mono (hassign _ pre x W hsz hi hl) ?_)⟩
    rintro e a1 W2 he
    cases e with
    | normal =>
      obtain⟨k2,q2,i2⟩:=he
      have hb2:Bk (rc .ready none) W2:=⟨k2.same _ _ (by omega) hb.1 rfl,k2.same _ _ (Nat.le_refl _) hb.2 rfl⟩
      refine⟨_,run_beginRound hb2.1 rfl,wpIn_mono (hbody _ pre x a1 _ ((hI2 x a1).putObj _ i2 (by omega) hb2.1 rfl)) ?_⟩
      have hb3:Bk (rc .busy none) (W2.putObj (B+1) (.loop (rc .busy none))):=put hb2
      rintro e a3 W3 hp
      cases e with
      | normal =>
        obtain⟨k3,q3,i3⟩:=hp
        have hb4:Bk (rc .busy none) W3:=⟨k3.same _ _ (by omega) hb3.1 rfl,k3.same _ _ (Nat.le_refl _) hb3.2 rfl⟩
        exact⟨_,_,run_endRound (P:=P) none hb4.1,.inl ⟨rfl,⟨hI.putObj _ i3 (by omega) hb4.1 rfl,put hb4⟩,((q2.trans (blo hb2)).trans q3).trans (blo hb4)⟩⟩
      | ret =>
        obtain⟨k3,i3⟩:=hp
        have hb4:Bk (rc .busy none) W3:=⟨k3.same _ _ (by omega) hb3.1 rfl,k3.same _ _ (Nat.le_refl _) hb3.2 rfl⟩
        exact⟨_,_,run_endRound (P:=P) (some .ret) hb4.1,.inr ⟨rfl,hIx.putObj _ i3 (by omega) hb4.1 rfl,put hb4⟩⟩
      | _=>exact hp.elim
    | _=>exact he.elim
  · rintro e W2 ⟨⟨v,rfl⟩,(⟨xs,hS,hi,hb⟩ | ⟨pre,hS,hi,hb⟩)⟩
    · exact⟨none,_,run_endLoop (P:=P) hb.1 (by simp [rc]),hdone B xs _ (Nat.le_refl _) hS (hI.putObj _ hi (by omega) hb.1 rfl) ((World.putObj_heap_other (by omega)).trans hb.2)⟩
    · exact⟨some .ret,_,run_endLoop (P:=P) hb.1 (by simp [rc]),hstop B pre _ (Nat.le_refl _) hS (hIx.putObj _ hi (by omega) hb.1 rfl) ((World.putObj_heap_other (by omega)).trans hb.2)⟩
end
theorem UH{W:World}{B:Nat}{o:Obj}(h:W.heap[B]?=some o):W.putObj B o=W:=by
  unfold World.putObj
  obtain⟨hlt,he⟩:=Array.getElem?_eq_some_iff.1 h
  have:W.heap.setIfInBounds B o=W.heap:=by
    apply Array.ext (by simp)
    intro i h1 h2
    by_cases hi:i=B
    · subst hi;simp [he]
    · rw [Array.getElem_setIfInBounds_ne h2 (Ne.symm hi)]
  rw [this]
theorem nA(W:World)(B:Nat)(o o':Obj):(W.putObj B o).putObj B o'=W.putObj B o':=by
  unfold World.putObj
  simp
theorem pE{W:World}{B j:Nat}{v:Value}{cs:Array Value}{t:TypeId}{f:Nat×Nat}(h:W.heap[B]?=some (.cells cs t f)):W.setCell ⟨B,j,none⟩ v=W.putObj B (.cells (cs.setIfInBounds j v) t f):=by
  unfold World.setCell World.putObj
  obtain⟨hlt,he⟩:=Array.getElem?_eq_some_iff.1 h
  congr 1
  apply Array.ext (by simp)
  intro i h1 h2
  by_cases hi:B=i
  · subst hi
    rw [Array.getElem_modify_self,he]
    simp
  · rw [Array.getElem_modify_of_ne hi,Array.getElem_setIfInBounds_ne (by simpa using h1) hi]
theorem aOO(P:Program){B:Nat}{t:TypeId}:∀(vs qs ps:List Value) (W:World),W.heap[B]?=some (.cells (ps++qs).toArray t (0,0))→vs.length=qs.length→(∀v∈vs,v.oneCell'=true) →
    (storeCells ⟨B,0,none⟩ vs ps.length).run P W=.ok () (W.putObj B (.cells (ps++vs).toArray t (0,0)))
  | [],[],ps,W,h,_,_=>by rw [UH h];rfl
  | v :: vs, q :: qs, ps, W, h, hl, h1 => by
    have hadd:(⟨B,0,none⟩:Addr).add ps.length=⟨B,ps.length,none⟩:=by unfold Addr.add;split <;> simp_all
    have hs:W.cell? ⟨B,ps.length,none⟩=some q:=by simp [World.cell?,h]
    have hf:W.frozen? ⟨B,ps.length,none⟩=false:=by simp [World.frozen?,h]
    have hp:W.setCell ⟨B,ps.length,none⟩ v=W.putObj B (.cells ((ps ++ [v])++qs).toArray t (0,0)):=by
      rw [pE h]
      congr 2
      simp
    have hlt:=(Array.getElem?_eq_some_iff.1 h).1
    have ih:=aOO P vs qs (ps ++ [v]) (W.putObj B (.cells ((ps ++ [v])++qs).toArray t (0,0))) (World.putObj_heap_same hlt) (by simpa using hl) (fun v h=>h1 v (List.mem_cons_of_mem _ h))
    have hst:=run_store P W ⟨B,ps.length,none⟩ v .plain (h1 v (by simp))
    simp only [storeCells,Sem.run_bind,hadd]
    rw [hst]
    simp only [hs,hf,Result.andThen,hp]
    rw [List.length_append] at ih
    simp only [List.length_cons,List.length_nil,Nat.zero_add] at ih
    simp only [aL,if_false]
    rw [ih,nA]
    simp
theorem aKU(W:World)(o o':Obj):(W.alloc o).putObj W.heap.size o'=W.alloc o':=by
  unfold World.putObj World.alloc
  congr 1
  apply Array.ext (by simp)
  intro i h1 h2
  by_cases hi:i=W.heap.size
  · subst hi;simp
  · rw [Array.getElem_setIfInBounds_ne (by simpa using h1) (Ne.symm hi)]
    simp only [Array.size_push] at h2
    rw [Array.getElem_push_lt (by omega),Array.getElem_push_lt (by omega)]
theorem aXK{W:World}{B:Nat}{t:TypeId}{f:Nat×Nat}{u0 u1 u2 u3 u4 u5 u6:Value}(v0 v1 v2 v3 v4 v5 v6:Value)(h:W.heap[B]?=some (.cells #[u0,u1,u2,u3,u4,u5,u6] t f)) :
    ((((((W.setCell ⟨B,0,none⟩ v0).setCell ⟨B,1,none⟩ v1).setCell ⟨B,2,none⟩ v2).setCell ⟨B,3,none⟩ v3).setCell ⟨B,4,none⟩ v4).setCell ⟨B,5,none⟩ v5).setCell ⟨B,6,none⟩ v6=W.putObj B (.cells #[v0,v1,v2,v3,v4,v5,v6] t f):=by
  have hlt:=(Array.getElem?_eq_some_iff.1 h).1
  have n:∀o,(W.putObj B o).heap[B]?=some o:=fun o=>World.putObj_heap_same hlt
  rw [pE h,pE (n _),nA,pE (n _),nA,pE (n _),nA,pE (n _),nA,pE (n _),nA,pE (n _),nA]
  rfl
theorem aAQ{w w':World}(h:Below w.heap.size w w'):fU F0 w w' where
  os:=h.os
  tape:=h.tape
  output:=h.output
  size:=h.size
  block:=fun b hb _=>h.block b hb
  cell:=fun b o hb _=>World.cell?_of_block (h.block b hb)
  yV:=fun b o hb=>World.frozen?_of_block (h.block b hb)
  stay:=fun b o hs=>by rw [World.cell?_of_block (a:=⟨b,o,none⟩) (h.block b (jJ hs))];exact hs
theorem aFJ{w w':World}(h:Below w.heap.size w w'):St (cQ w) w' [] []:=St.same (St.enter (by simp)) (aAQ h)
end Go.Gv
end
noncomputable section
namespace Go.Gv
structure dS where
  b:List UInt8
  i:Int
  h:Int
  deriving DecidableEq,Inhabited
instance:aK dS:=aK.via (fun d=>(d.b,d.i,d.h))
instance:Fits dS:=Fits.via (fun d=>(d.b,d.i,d.h))
structure dO where
  Kind:Int
  Cell:Int
  f8:Int
  cV:Int
  deriving DecidableEq,Inhabited
instance:aK dO:=aK.via (fun d=>(d.Kind,d.Cell,d.f8,d.cV))
instance:Fits dO:=Fits.via (fun d=>(d.Kind,d.Cell,d.f8,d.cV))
theorem aOP{S:cN}{w:World}{cs:List Value}{d:dO}(h:aK.rd S w cs d):cs=[.int .i64 (d.Kind),.int .i64 (d.Cell),.int .i64 (d.f8),.int .i64 (d.cV)]:=by
  obtain⟨c0,r0,e0,h0,n0⟩:=h
  have q0:c0=[_]:=h0
  obtain⟨c1,r1,e1,h1,n1⟩:=n0
  have q1:c1=[_]:=h1
  obtain⟨c2,r2,e2,h2,n2⟩:=n1
  have q2:c2=[_]:=h2
  have q3:r2=[_]:=n2
  exact by rw [e0,e1,e2,q0,q1,q2,q3];rfl
theorem aHN{S:cN}{w:World}(d:dO):aK.rd S w [.int .i64 (d.Kind),.int .i64 (d.Cell),.int .i64 (d.f8),.int .i64 (d.cV)] d:=⟨[.int .i64 (d.Kind)],[.int .i64 (d.Cell),.int .i64 (d.f8),.int .i64 (d.cV)],rfl,rfl,⟨[.int .i64 (d.Cell)],[.int .i64 (d.f8),.int .i64 (d.cV)],rfl,rfl,⟨[.int .i64 (d.f8)],[.int .i64 (d.cV)],rfl,rfl,rfl⟩⟩⟩
instance:Flat dO:=⟨fun h=>Flat.own_of (α:=Int×Int×Int×Int) h,fun h=>Flat.no (α:=Int×Int×Int×Int) h⟩
theorem aVG(d:dO):OP [.int .i64 (d.Kind),.int .i64 (d.Cell),.int .i64 (d.f8),.int .i64 (d.cV)] d []:=(show OP (α:=Int×Int×Int×Int) _ (d.Kind,d.Cell,d.f8,d.cV) _ from (jN (c1:=[.int .i64 (d.Kind)]) (c2:=[.int .i64 (d.Cell),.int .i64 (d.f8),.int .i64 (d.cV)]) (A:=[]) (B:=[]) (fX rfl) (jN (c1:=[.int .i64 (d.Cell)]) (c2:=[.int .i64 (d.f8),.int .i64 (d.cV)]) (A:=[]) (B:=[]) (fX rfl) (jN (c1:=[.int .i64 (d.f8)]) (c2:=[.int .i64 (d.cV)]) (A:=[]) (B:=[]) (fX rfl) (fX rfl) rfl) rfl) rfl))
structure Queue where
  hU:List dO
  deriving DecidableEq,Inhabited
instance:aK Queue:=aK.via (fun d=>(d.hU))
instance:Fits Queue:=Fits.via (fun d=>(d.hU))
theorem aOQ{S:cN}{w:World}{cs:List Value}{d:Queue}(h:aK.rd S w cs d):∃v0:Value,cs=[v0]∧aK.rd S w [v0] d.hU:=by
  obtain⟨u0,q0⟩:=HA h
  rw [q0] at h
  exact⟨u0,q0,h⟩
theorem aOR(d:Queue){v0:Value}:OP [v0] d [fV [v0] d.hU]:=(show OP (α:=(List dO)) _ (d.hU) _ from aG0)
structure DY where
  cL:List Queue
  rR:List Int
  deriving DecidableEq,Inhabited
instance:aK DY:=aK.via (fun d=>(d.cL,d.rR))
instance:Fits DY:=Fits.via (fun d=>(d.cL,d.rR))
structure aD where
  Bytes:List Int
  Class:List Int
  deriving DecidableEq,Inhabited
instance:aK aD:=aK.via (fun d=>(d.Bytes,d.Class))
instance:Fits aD:=Fits.via (fun d=>(d.Bytes,d.Class))
structure aN where
  aQ:List Int
  deriving DecidableEq,Inhabited
instance:aK aN:=aK.via (fun d=>(d.aQ))
instance:Fits aN:=Fits.via (fun d=>(d.aQ))
theorem aFK{S:cN}{w:World}{cs:List Value}{d:aN}(h:aK.rd S w cs d):∃v0:Value,cs=[v0]∧aK.rd S w [v0] d.aQ:=by
  obtain⟨u0,q0⟩:=HA h
  rw [q0] at h
  exact⟨u0,q0,h⟩
theorem yY(d:aN){v0:Value}:OP [v0] d [fV [v0] d.aQ]:=(show OP (α:=(List Int)) _ (d.aQ) _ from aG0)
theorem _root_.Go.Gv.St.aOS{c:Ctx}{L:List Chunk}{R:List Fact}{w:World}{s:Value}{l:List aN}{i:Nat}{x:aN}(h:St c w L R)(j:Nat)(hj:R[j]?=some (yD [s] l))(hi:l[i]?=some x):∃v0:Value,bT w (MU s) (MN 1 i s) [v0]∧St c w L (R ++ [yD [v0] x.aQ]):=by
  obtain⟨S,hS,hk⟩:=h.aMF hj
  obtain⟨ec,h1,h2⟩:=aER hS hi
  obtain⟨v0,q,q0⟩:=aFK h2
  rw [q] at h1
  exact⟨v0,h1,hk _ (by intro f hf;simp only [List.mem_cons,List.not_mem_nil,or_false] at hf;subst hf;exact q0)⟩
structure aB where
  Global:List aN
  Own:List aN
  deriving DecidableEq,Inhabited
instance:aK aB:=aK.via (fun d=>(d.Global,d.Own))
instance:Fits aB:=Fits.via (fun d=>(d.Global,d.Own))
structure Mem where
  aD:aD
  aB:aB
  deriving DecidableEq,Inhabited
instance:aK Mem:=aK.via (fun d=>(d.aD,d.aB))
instance:Fits Mem:=Fits.via (fun d=>(d.aD,d.aB))
structure o8 where
  On:Bool
  aJ:Int
  dI:Bool
  Seen:Int
  deriving DecidableEq,Inhabited
instance:aK o8:=aK.via (fun d=>(d.On,d.aJ,d.dI,d.Seen))
instance:Fits o8:=Fits.via (fun d=>(d.On,d.aJ,d.dI,d.Seen))
theorem aVH{S:cN}{w:World}{cs:List Value}{d:o8}(h:aK.rd S w cs d):cs=[.bool (d.On),.int .i64 (d.aJ),.bool (d.dI),.int .i64 (d.Seen)]:=by
  obtain⟨c0,r0,e0,h0,n0⟩:=h
  have q0:c0=[_]:=h0
  obtain⟨c1,r1,e1,h1,n1⟩:=n0
  have q1:c1=[_]:=h1
  obtain⟨c2,r2,e2,h2,n2⟩:=n1
  have q2:c2=[_]:=h2
  have q3:r2=[_]:=n2
  exact by rw [e0,e1,e2,q0,q1,q2,q3];rfl
theorem aOT{S:cN}{w:World}(d:o8):aK.rd S w [.bool (d.On),.int .i64 (d.aJ),.bool (d.dI),.int .i64 (d.Seen)] d:=⟨[.bool (d.On)],[.int .i64 (d.aJ),.bool (d.dI),.int .i64 (d.Seen)],rfl,rfl,⟨[.int .i64 (d.aJ)],[.bool (d.dI),.int .i64 (d.Seen)],rfl,rfl,⟨[.bool (d.dI)],[.int .i64 (d.Seen)],rfl,rfl,rfl⟩⟩⟩
instance:Flat o8:=⟨fun h=>Flat.own_of (α:=Bool×Int×Bool×Int) h,fun h=>Flat.no (α:=Bool×Int×Bool×Int) h⟩
theorem aVI(d:o8):OP [.bool (d.On),.int .i64 (d.aJ),.bool (d.dI),.int .i64 (d.Seen)] d []:=(show OP (α:=Bool×Int×Bool×Int) _ (d.On,d.aJ,d.dI,d.Seen) _ from (jN (c1:=[.bool (d.On)]) (c2:=[.int .i64 (d.aJ),.bool (d.dI),.int .i64 (d.Seen)]) (A:=[]) (B:=[]) (fX rfl) (jN (c1:=[.int .i64 (d.aJ)]) (c2:=[.bool (d.dI),.int .i64 (d.Seen)]) (A:=[]) (B:=[]) (fX rfl) (jN (c1:=[.bool (d.dI)]) (c2:=[.int .i64 (d.Seen)]) (A:=[]) (B:=[]) (fX rfl) (fX rfl) rfl) rfl) rfl))
structure aC where
  aJ:Int
  cK:List o8
  deriving DecidableEq,Inhabited
instance:aK aC:=aK.via (fun d=>(d.aJ,d.cK))
instance:Fits aC:=Fits.via (fun d=>(d.aJ,d.cK))
structure dA where
  Handle:Int
  aJ:Int
  deriving DecidableEq,Inhabited
instance:aK dA:=aK.via (fun d=>(d.Handle,d.aJ))
instance:Fits dA:=Fits.via (fun d=>(d.Handle,d.aJ))
theorem aJX{S:cN}{w:World}{cs:List Value}{d:dA}(h:aK.rd S w cs d):cs=[.int .i64 (d.Handle),.int .i64 (d.aJ)]:=by
  obtain⟨c0,r0,e0,h0,n0⟩:=h
  have q0:c0=[_]:=h0
  have q1:r0=[_]:=n0
  exact by rw [e0,q0,q1];rfl
theorem aR9{S:cN}{w:World}(d:dA):aK.rd S w [.int .i64 (d.Handle),.int .i64 (d.aJ)] d:=⟨[.int .i64 (d.Handle)],[.int .i64 (d.aJ)],rfl,rfl,rfl⟩
instance:Flat dA:=⟨fun h=>Flat.own_of (α:=Int×Int) h,fun h=>Flat.no (α:=Int×Int) h⟩
theorem aSA(d:dA):OP [.int .i64 (d.Handle),.int .i64 (d.aJ)] d []:=(show OP (α:=Int×Int) _ (d.Handle,d.aJ) _ from (jN (c1:=[.int .i64 (d.Handle)]) (c2:=[.int .i64 (d.aJ)]) (A:=[]) (B:=[]) (fX rfl) (fX rfl) rfl))
theorem aSB{S:cN}{w:World}{s:Value}{l:List dA}{i:Nat}{x:dA}(h:aK.rd S w [s] l)(hi:l[i]?=some x):bT w (MU s) (MN 2 i s) [.int .i64 (x.Handle),.int .i64 (x.aJ)]:=by
  obtain⟨ec,h1,h2⟩:=aER h hi
  rw [aJX h2] at h1;exact h1
structure aY where
  Rows:List dA
  deriving DecidableEq,Inhabited
instance:aK aY:=aK.via (fun d=>(d.Rows))
instance:Fits aY:=Fits.via (fun d=>(d.Rows))
theorem aFL{S:cN}{w:World}{cs:List Value}{d:aY}(h:aK.rd S w cs d):∃v0:Value,cs=[v0]∧aK.rd S w [v0] d.Rows:=by
  obtain⟨u0,q0⟩:=HA h
  rw [q0] at h
  exact⟨u0,q0,h⟩
theorem X8(d:aY){v0:Value}:OP [v0] d [fV [v0] d.Rows]:=(show OP (α:=(List dA)) _ (d.Rows) _ from aG0)
theorem _root_.Go.Gv.St.aFM{c:Ctx}{L:List Chunk}{R:List Fact}{w:World}{s:Value}{l:List aY}{i:Nat}{x:aY}(h:St c w L R)(j:Nat)(hj:R[j]?=some (yD [s] l))(hi:l[i]?=some x):∃v0:Value,bT w (MU s) (MN 1 i s) [v0]∧St c w L (R ++ [yD [v0] x.Rows]):=by
  obtain⟨S,hS,hk⟩:=h.aMF hj
  obtain⟨ec,h1,h2⟩:=aER hS hi
  obtain⟨v0,q,q0⟩:=aFL h2
  rw [q] at h1
  exact⟨v0,h1,hk _ (by intro f hf;simp only [List.mem_cons,List.not_mem_nil,or_false] at hf;subst hf;exact q0)⟩
structure aA where
  Mem:Mem
  aC:aC
  aO:List aY
  m7:List Int
  deriving DecidableEq,Inhabited
instance:aK aA:=aK.via (fun d=>(d.Mem,d.aC,d.aO,d.m7))
instance:Fits aA:=Fits.via (fun d=>(d.Mem,d.aC,d.aO,d.m7))
structure Sub where
  Kind:Int
  A:Int
  Pc:Int
  E:Int
  Row:Int
  B:Int
  H:Int
  Out:Int
  Code:Int
  cE:Bool
  deriving DecidableEq,Inhabited
instance:aK Sub:=aK.via (fun d=>(d.Kind,d.A,d.Pc,d.E,d.Row,d.B,d.H,d.Out,d.Code,d.cE))
instance:Fits Sub:=Fits.via (fun d=>(d.Kind,d.A,d.Pc,d.E,d.Row,d.B,d.H,d.Out,d.Code,d.cE))
theorem aVJ{S:cN}{w:World}{cs:List Value}{d:Sub}(h:aK.rd S w cs d):cs=[.int .i64 (d.Kind),.int .i64 (d.A),.int .i64 (d.Pc),.int .i64 (d.E),.int .i64 (d.Row),.int .i64 (d.B),.int .i64 (d.H),.int .i64 (d.Out),.int .i64 (d.Code),.bool (d.cE)]:=by
  obtain⟨c0,r0,e0,h0,n0⟩:=h
  have q0:c0=[_]:=h0
  obtain⟨c1,r1,e1,h1,n1⟩:=n0
  have q1:c1=[_]:=h1
  obtain⟨c2,r2,e2,h2,n2⟩:=n1
  have q2:c2=[_]:=h2
  obtain⟨c3,r3,e3,h3,n3⟩:=n2
  have q3:c3=[_]:=h3
  obtain⟨c4,r4,e4,h4,n4⟩:=n3
  have q4:c4=[_]:=h4
  obtain⟨c5,r5,e5,h5,n5⟩:=n4
  have q5:c5=[_]:=h5
  obtain⟨c6,r6,e6,h6,n6⟩:=n5
  have q6:c6=[_]:=h6
  obtain⟨c7,r7,e7,h7,n7⟩:=n6
  have q7:c7=[_]:=h7
  obtain⟨c8,r8,e8,h8,n8⟩:=n7
  have q8:c8=[_]:=h8
  have q9:r8=[_]:=n8
  exact by rw [e0,e1,e2,e3,e4,e5,e6,e7,e8,q0,q1,q2,q3,q4,q5,q6,q7,q8,q9];rfl
theorem aOU{S:cN}{w:World}(d:Sub):aK.rd S w [.int .i64 (d.Kind),.int .i64 (d.A),.int .i64 (d.Pc),.int .i64 (d.E),.int .i64 (d.Row),.int .i64 (d.B),.int .i64 (d.H),.int .i64 (d.Out),.int .i64 (d.Code),.bool (d.cE)] d:=⟨[.int .i64 (d.Kind)],[.int .i64 (d.A),.int .i64 (d.Pc),.int .i64 (d.E),.int .i64 (d.Row),.int .i64 (d.B),.int .i64 (d.H),.int .i64 (d.Out),.int .i64 (d.Code),.bool (d.cE)],rfl,rfl,⟨[.int .i64 (d.A)],[.int .i64 (d.Pc),.int .i64 (d.E),.int .i64 (d.Row),.int .i64 (d.B),.int .i64 (d.H),.int .i64 (d.Out),.int .i64 (d.Code),.bool (d.cE)],rfl,rfl,⟨[.int .i64 (d.Pc)],[.int .i64 (d.E),.int .i64 (d.Row),.int .i64 (d.B),.int .i64 (d.H),.int .i64 (d.Out),.int .i64 (d.Code),.bool (d.cE)],rfl,rfl,⟨[.int .i64 (d.E)],[.int .i64 (d.Row),.int .i64 (d.B),.int .i64 (d.H),.int .i64 (d.Out),.int .i64 (d.Code),.bool (d.cE)],rfl,rfl,⟨[.int .i64 (d.Row)],[.int .i64 (d.B),.int .i64 (d.H),.int .i64 (d.Out),.int .i64 (d.Code),.bool (d.cE)],rfl,rfl,⟨[.int .i64 (d.B)],[.int .i64 (d.H),.int .i64 (d.Out),.int .i64 (d.Code),.bool (d.cE)],rfl,rfl,⟨[.int .i64 (d.H)],[.int .i64 (d.Out),.int .i64 (d.Code),.bool (d.cE)],rfl,rfl,⟨[.int .i64 (d.Out)],[.int .i64 (d.Code),.bool (d.cE)],rfl,rfl,⟨[.int .i64 (d.Code)],[.bool (d.cE)],rfl,rfl,rfl⟩⟩⟩⟩⟩⟩⟩⟩⟩
instance:Flat Sub:=⟨fun h=>Flat.own_of (α:=Int×Int×Int×Int×Int×Int×Int×Int×Int×Bool) h,fun h=>Flat.no (α:=Int×Int×Int×Int×Int×Int×Int×Int×Int×Bool) h⟩
structure aZ where
  dE:Bool
  Op:dO
  aG:Int
  Pc:Int
  Sub:Sub
  H:Int
  Old:Int
  cV:Int
  Code:Int
  deriving DecidableEq,Inhabited
instance:aK aZ:=aK.via (fun d=>(d.dE,d.Op,d.aG,d.Pc,d.Sub,d.H,d.Old,d.cV,d.Code))
instance:Fits aZ:=Fits.via (fun d=>(d.dE,d.Op,d.aG,d.Pc,d.Sub,d.H,d.Old,d.cV,d.Code))
theorem aVK{S:cN}{w:World}{cs:List Value}{d:aZ}(h:aK.rd S w cs d):cs=[.bool (d.dE),.int .i64 (d.Op.Kind),.int .i64 (d.Op.Cell),.int .i64 (d.Op.f8),.int .i64 (d.Op.cV),.int .i64 (d.aG),.int .i64 (d.Pc),.int .i64 (d.Sub.Kind),.int .i64 (d.Sub.A),.int .i64 (d.Sub.Pc),.int .i64 (d.Sub.E),.int .i64 (d.Sub.Row),.int .i64 (d.Sub.B),.int .i64 (d.Sub.H),.int .i64 (d.Sub.Out),.int .i64 (d.Sub.Code),.bool (d.Sub.cE),.int .i64 (d.H),.int .i64 (d.Old),.int .i64 (d.cV),.int .i64 (d.Code)]:=by
  obtain⟨c0,r0,e0,h0,n0⟩:=h
  have q0:c0=[_]:=h0
  obtain⟨c1,r1,e1,h1,n1⟩:=n0
  have q1:=aOP h1
  obtain⟨c2,r2,e2,h2,n2⟩:=n1
  have q2:c2=[_]:=h2
  obtain⟨c3,r3,e3,h3,n3⟩:=n2
  have q3:c3=[_]:=h3
  obtain⟨c4,r4,e4,h4,n4⟩:=n3
  have q4:=aVJ h4
  obtain⟨c5,r5,e5,h5,n5⟩:=n4
  have q5:c5=[_]:=h5
  obtain⟨c6,r6,e6,h6,n6⟩:=n5
  have q6:c6=[_]:=h6
  obtain⟨c7,r7,e7,h7,n7⟩:=n6
  have q7:c7=[_]:=h7
  have q8:r7=[_]:=n7
  exact by rw [e0,e1,e2,e3,e4,e5,e6,e7,q0,q1,q2,q3,q4,q5,q6,q7,q8];rfl
theorem rG{S:cN}{w:World}(d:aZ):aK.rd S w [.bool (d.dE),.int .i64 (d.Op.Kind),.int .i64 (d.Op.Cell),.int .i64 (d.Op.f8),.int .i64 (d.Op.cV),.int .i64 (d.aG),.int .i64 (d.Pc),.int .i64 (d.Sub.Kind),.int .i64 (d.Sub.A),.int .i64 (d.Sub.Pc),.int .i64 (d.Sub.E),.int .i64 (d.Sub.Row),.int .i64 (d.Sub.B),.int .i64 (d.Sub.H),.int .i64 (d.Sub.Out),.int .i64 (d.Sub.Code),.bool (d.Sub.cE),.int .i64 (d.H),.int .i64 (d.Old),.int .i64 (d.cV),.int .i64 (d.Code)] d:=⟨[.bool (d.dE)],[.int .i64 (d.Op.Kind),.int .i64 (d.Op.Cell),.int .i64 (d.Op.f8),.int .i64 (d.Op.cV),.int .i64 (d.aG),.int .i64 (d.Pc),.int .i64 (d.Sub.Kind),.int .i64 (d.Sub.A),.int .i64 (d.Sub.Pc),.int .i64 (d.Sub.E),.int .i64 (d.Sub.Row),.int .i64 (d.Sub.B),.int .i64 (d.Sub.H),.int .i64 (d.Sub.Out),.int .i64 (d.Sub.Code),.bool (d.Sub.cE),.int .i64 (d.H),.int .i64 (d.Old),.int .i64 (d.cV),.int .i64 (d.Code)],rfl,rfl,⟨[.int .i64 (d.Op.Kind),.int .i64 (d.Op.Cell),.int .i64 (d.Op.f8),.int .i64 (d.Op.cV)],[.int .i64 (d.aG),.int .i64 (d.Pc),.int .i64 (d.Sub.Kind),.int .i64 (d.Sub.A),.int .i64 (d.Sub.Pc),.int .i64 (d.Sub.E),.int .i64 (d.Sub.Row),.int .i64 (d.Sub.B),.int .i64 (d.Sub.H),.int .i64 (d.Sub.Out),.int .i64 (d.Sub.Code),.bool (d.Sub.cE),.int .i64 (d.H),.int .i64 (d.Old),.int .i64 (d.cV),.int .i64 (d.Code)],rfl,(aHN _),⟨[.int .i64 (d.aG)],[.int .i64 (d.Pc),.int .i64 (d.Sub.Kind),.int .i64 (d.Sub.A),.int .i64 (d.Sub.Pc),.int .i64 (d.Sub.E),.int .i64 (d.Sub.Row),.int .i64 (d.Sub.B),.int .i64 (d.Sub.H),.int .i64 (d.Sub.Out),.int .i64 (d.Sub.Code),.bool (d.Sub.cE),.int .i64 (d.H),.int .i64 (d.Old),.int .i64 (d.cV),.int .i64 (d.Code)],rfl,rfl,⟨[.int .i64 (d.Pc)],[.int .i64 (d.Sub.Kind),.int .i64 (d.Sub.A),.int .i64 (d.Sub.Pc),.int .i64 (d.Sub.E),.int .i64 (d.Sub.Row),.int .i64 (d.Sub.B),.int .i64 (d.Sub.H),.int .i64 (d.Sub.Out),.int .i64 (d.Sub.Code),.bool (d.Sub.cE),.int .i64 (d.H),.int .i64 (d.Old),.int .i64 (d.cV),.int .i64 (d.Code)],rfl,rfl,⟨[.int .i64 (d.Sub.Kind),.int .i64 (d.Sub.A),.int .i64 (d.Sub.Pc),.int .i64 (d.Sub.E),.int .i64 (d.Sub.Row),.int .i64 (d.Sub.B),.int .i64 (d.Sub.H),.int .i64 (d.Sub.Out),.int .i64 (d.Sub.Code),.bool (d.Sub.cE)],[.int .i64 (d.H),.int .i64 (d.Old),.int .i64 (d.cV),.int .i64 (d.Code)],rfl,(aOU _),⟨[.int .i64 (d.H)],[.int .i64 (d.Old),.int .i64 (d.cV),.int .i64 (d.Code)],rfl,rfl,⟨[.int .i64 (d.Old)],[.int .i64 (d.cV),.int .i64 (d.Code)],rfl,rfl,⟨[.int .i64 (d.cV)],[.int .i64 (d.Code)],rfl,rfl,rfl⟩⟩⟩⟩⟩⟩⟩⟩
instance:Flat aZ:=⟨fun h=>Flat.own_of (α:=Bool×dO×Int×Int×Sub×Int×Int×Int×Int) h,fun h=>Flat.no (α:=Bool×dO×Int×Int×Sub×Int×Int×Int×Int) h⟩
theorem aVL(d:aZ):OP [.bool (d.dE),.int .i64 (d.Op.Kind),.int .i64 (d.Op.Cell),.int .i64 (d.Op.f8),.int .i64 (d.Op.cV),.int .i64 (d.aG),.int .i64 (d.Pc),.int .i64 (d.Sub.Kind),.int .i64 (d.Sub.A),.int .i64 (d.Sub.Pc),.int .i64 (d.Sub.E),.int .i64 (d.Sub.Row),.int .i64 (d.Sub.B),.int .i64 (d.Sub.H),.int .i64 (d.Sub.Out),.int .i64 (d.Sub.Code),.bool (d.Sub.cE),.int .i64 (d.H),.int .i64 (d.Old),.int .i64 (d.cV),.int .i64 (d.Code)] d []:=(show OP (α:=Bool×dO×Int×Int×Sub×Int×Int×Int×Int) _ (d.dE,d.Op,d.aG,d.Pc,d.Sub,d.H,d.Old,d.cV,d.Code) _ from (jN (c1:=[.bool (d.dE)]) (c2:=[.int .i64 (d.Op.Kind),.int .i64 (d.Op.Cell),.int .i64 (d.Op.f8),.int .i64 (d.Op.cV),.int .i64 (d.aG),.int .i64 (d.Pc),.int .i64 (d.Sub.Kind),.int .i64 (d.Sub.A),.int .i64 (d.Sub.Pc),.int .i64 (d.Sub.E),.int .i64 (d.Sub.Row),.int .i64 (d.Sub.B),.int .i64 (d.Sub.H),.int .i64 (d.Sub.Out),.int .i64 (d.Sub.Code),.bool (d.Sub.cE),.int .i64 (d.H),.int .i64 (d.Old),.int .i64 (d.cV),.int .i64 (d.Code)]) (A:=[]) (B:=[]) (fX rfl) (jN (c1:=[.int .i64 (d.Op.Kind),.int .i64 (d.Op.Cell),.int .i64 (d.Op.f8),.int .i64 (d.Op.cV)]) (c2:=[.int .i64 (d.aG),.int .i64 (d.Pc),.int .i64 (d.Sub.Kind),.int .i64 (d.Sub.A),.int .i64 (d.Sub.Pc),.int .i64 (d.Sub.E),.int .i64 (d.Sub.Row),.int .i64 (d.Sub.B),.int .i64 (d.Sub.H),.int .i64 (d.Sub.Out),.int .i64 (d.Sub.Code),.bool (d.Sub.cE),.int .i64 (d.H),.int .i64 (d.Old),.int .i64 (d.cV),.int .i64 (d.Code)]) (A:=[]) (B:=[]) (fX (aHN _)) (jN (c1:=[.int .i64 (d.aG)]) (c2:=[.int .i64 (d.Pc),.int .i64 (d.Sub.Kind),.int .i64 (d.Sub.A),.int .i64 (d.Sub.Pc),.int .i64 (d.Sub.E),.int .i64 (d.Sub.Row),.int .i64 (d.Sub.B),.int .i64 (d.Sub.H),.int .i64 (d.Sub.Out),.int .i64 (d.Sub.Code),.bool (d.Sub.cE),.int .i64 (d.H),.int .i64 (d.Old),.int .i64 (d.cV),.int .i64 (d.Code)]) (A:=[]) (B:=[]) (fX rfl) (jN (c1:=[.int .i64 (d.Pc)]) (c2:=[.int .i64 (d.Sub.Kind),.int .i64 (d.Sub.A),.int .i64 (d.Sub.Pc),.int .i64 (d.Sub.E),.int .i64 (d.Sub.Row),.int .i64 (d.Sub.B),.int .i64 (d.Sub.H),.int .i64 (d.Sub.Out),.int .i64 (d.Sub.Code),.bool (d.Sub.cE),.int .i64 (d.H),.int .i64 (d.Old),.int .i64 (d.cV),.int .i64 (d.Code)]) (A:=[]) (B:=[]) (fX rfl) (jN (c1:=[.int .i64 (d.Sub.Kind),.int .i64 (d.Sub.A),.int .i64 (d.Sub.Pc),.int .i64 (d.Sub.E),.int .i64 (d.Sub.Row),.int .i64 (d.Sub.B),.int .i64 (d.Sub.H),.int .i64 (d.Sub.Out),.int .i64 (d.Sub.Code),.bool (d.Sub.cE)]) (c2:=[.int .i64 (d.H),.int .i64 (d.Old),.int .i64 (d.cV),.int .i64 (d.Code)]) (A:=[]) (B:=[]) (fX (aOU _)) (jN (c1:=[.int .i64 (d.H)]) (c2:=[.int .i64 (d.Old),.int .i64 (d.cV),.int .i64 (d.Code)]) (A:=[]) (B:=[]) (fX rfl) (jN (c1:=[.int .i64 (d.Old)]) (c2:=[.int .i64 (d.cV),.int .i64 (d.Code)]) (A:=[]) (B:=[]) (fX rfl) (jN (c1:=[.int .i64 (d.cV)]) (c2:=[.int .i64 (d.Code)]) (A:=[]) (B:=[]) (fX rfl) (fX rfl) rfl) rfl) rfl) rfl) rfl) rfl) rfl) rfl))
structure Ev where
  Kind:Int
  VQ:Int
  aG:Int
  Cell:Int
  Handle:Int
  cV:Int
  Code:Int
  deriving DecidableEq,Inhabited
instance:aK Ev:=aK.via (fun d=>(d.Kind,d.VQ,d.aG,d.Cell,d.Handle,d.cV,d.Code))
instance:Fits Ev:=Fits.via (fun d=>(d.Kind,d.VQ,d.aG,d.Cell,d.Handle,d.cV,d.Code))
theorem aOV{S:cN}{w:World}{cs:List Value}{d:Ev}(h:aK.rd S w cs d):cs=[.int .i64 (d.Kind),.int .i64 (d.VQ),.int .i64 (d.aG),.int .i64 (d.Cell),.int .i64 (d.Handle),.int .i64 (d.cV),.int .i64 (d.Code)]:=by
  obtain⟨c0,r0,e0,h0,n0⟩:=h
  have q0:c0=[_]:=h0
  obtain⟨c1,r1,e1,h1,n1⟩:=n0
  have q1:c1=[_]:=h1
  obtain⟨c2,r2,e2,h2,n2⟩:=n1
  have q2:c2=[_]:=h2
  obtain⟨c3,r3,e3,h3,n3⟩:=n2
  have q3:c3=[_]:=h3
  obtain⟨c4,r4,e4,h4,n4⟩:=n3
  have q4:c4=[_]:=h4
  obtain⟨c5,r5,e5,h5,n5⟩:=n4
  have q5:c5=[_]:=h5
  have q6:r5=[_]:=n5
  exact by rw [e0,e1,e2,e3,e4,e5,q0,q1,q2,q3,q4,q5,q6];rfl
instance:Flat Ev:=⟨fun h=>Flat.own_of (α:=Int×Int×Int×Int×Int×Int×Int) h,fun h=>Flat.no (α:=Int×Int×Int×Int×Int×Int×Int) h⟩
theorem aXL(d:Ev):OP [.int .i64 (d.Kind),.int .i64 (d.VQ),.int .i64 (d.aG),.int .i64 (d.Cell),.int .i64 (d.Handle),.int .i64 (d.cV),.int .i64 (d.Code)] d []:=(show OP (α:=Int×Int×Int×Int×Int×Int×Int) _ (d.Kind,d.VQ,d.aG,d.Cell,d.Handle,d.cV,d.Code) _ from (jN (c1:=[.int .i64 (d.Kind)]) (c2:=[.int .i64 (d.VQ),.int .i64 (d.aG),.int .i64 (d.Cell),.int .i64 (d.Handle),.int .i64 (d.cV),.int .i64 (d.Code)]) (A:=[]) (B:=[]) (fX rfl) (jN (c1:=[.int .i64 (d.VQ)]) (c2:=[.int .i64 (d.aG),.int .i64 (d.Cell),.int .i64 (d.Handle),.int .i64 (d.cV),.int .i64 (d.Code)]) (A:=[]) (B:=[]) (fX rfl) (jN (c1:=[.int .i64 (d.aG)]) (c2:=[.int .i64 (d.Cell),.int .i64 (d.Handle),.int .i64 (d.cV),.int .i64 (d.Code)]) (A:=[]) (B:=[]) (fX rfl) (jN (c1:=[.int .i64 (d.Cell)]) (c2:=[.int .i64 (d.Handle),.int .i64 (d.cV),.int .i64 (d.Code)]) (A:=[]) (B:=[]) (fX rfl) (jN (c1:=[.int .i64 (d.Handle)]) (c2:=[.int .i64 (d.cV),.int .i64 (d.Code)]) (A:=[]) (B:=[]) (fX rfl) (jN (c1:=[.int .i64 (d.cV)]) (c2:=[.int .i64 (d.Code)]) (A:=[]) (B:=[]) (fX rfl) (fX rfl) rfl) rfl) rfl) rfl) rfl) rfl))
structure aE where
  aA:aA
  Cells:List Int
  aV:List aZ
  cL:List Queue
  Log:List Ev
  aG:Int
  deriving DecidableEq,Inhabited
instance:aK aE:=aK.via (fun d=>(d.aA,d.Cells,d.aV,d.cL,d.Log,d.aG))
instance:Fits aE:=Fits.via (fun d=>(d.aA,d.Cells,d.aV,d.cL,d.Log,d.aG))
structure Span where
  aOW:Int
  To:Int
  deriving DecidableEq,Inhabited
instance:aK Span:=aK.via (fun d=>(d.aOW,d.To))
instance:Fits Span:=Fits.via (fun d=>(d.aOW,d.To))
instance:Flat Span:=⟨fun h=>Flat.own_of (α:=Int×Int) h,fun h=>Flat.no (α:=Int×Int) h⟩
end Go.Gv
end
noncomputable section
namespace Go.Gv
noncomputable section
def X9(code:List UInt8):Option Bool:=
  some (decide (1048576 < (code.length:Int)))
def aAR(x5:Int):Option (Int×Int):=
  some (0,x5)
def CC(code:List UInt8)(x3 x4:Int)(x6:Bool):Option (Step (Int×Int) Int):=
  (if x6 then (idx code x4).bind fun x7=>some (.next (f9 .and .i64 (bC ((bC ((bC (x3 * 131))+(x7.toNat:Int)))+7)) 1073741823,bC (x4+1))) else some (.stop (x3)))
def PN(code:List UInt8):(Int×Int)→Option (Step (Int×Int) Int)
  | (x3,x4)=>(if decide (x4 < (code.length:Int)) then CC code x3 x4 (decide (x4 < 4000)) else CC code x3 x4 false)
def aAS:Int→Option (Int×Int)
  | x5=>aAR x5
def KJ(code:List UInt8):Option (Int×Int):=
  (loop (PN code) (bC (10101+(code.length:Int)),0)).bind (aAS)
def yZ(c:dS)(x1 x2:Int):Option (Int×(Int×Int)):=
  some (x1,(x2,bC ((bC (c.h * 6364136223846793005))+1442695040888963407)))
def pG(c:dS):Option (Int×(Int×Int)):=
  (if decide (c.i < (c.b.length:Int)) then (idx c.b c.i).bind fun x3=>yZ c (f9 .and .i64 (bC ((f9 .and .i64 (f9 .xor .i64 (rY .i64 (bC ((bC (c.h * 6364136223846793005))+1442695040888963407)) 33) (rY .i64 (bC ((bC (c.h * 6364136223846793005))+1442695040888963407)) 45)) 255)+(x3.toNat:Int))) 255) (bC (c.i+1)) else yZ c (f9 .and .i64 (f9 .xor .i64 (rY .i64 (bC ((bC (c.h * 6364136223846793005))+1442695040888963407)) 33) (rY .i64 (bC ((bC (c.h * 6364136223846793005))+1442695040888963407)) 45)) 255) c.i)
def fL(c:dS)(n:Int):Option (Int×(Int×Int)):=
  (if decide (n≤0) then some (0,(c.i,c.h)) else (if decide (n≤256) then (pG c).bind fun x1=>need (n≠0) (some (Int.tmod x1.1 n,(x1.2.1,x1.2.2))) else (pG c).bind fun x2=>(pG (⟨c.b,x2.2.1,x2.2.2⟩:dS)).bind fun x3=>(pG (⟨c.b,x3.2.1,x3.2.2⟩:dS)).bind fun x4=>(pG (⟨c.b,x4.2.1,x4.2.2⟩:dS)).bind fun x5=>need (n≠0) (some (Int.tmod (bC ((bC ((bC ((bC (x2.1 * 16777216))+(bC (x3.1 * 65536))))+(bC (x4.1 * 256))))+x5.1)) n,(x5.2.1,x5.2.2)))))
def M5(c:dS)(n:Int):Option (Bool×(Int×Int)):=
  (fL c n).bind fun x1=>some (x1.1 == 0,(x1.2.1,x1.2.2))
def nZ(c:dS)(list:List Int):Option (Int×(Int×Int)):=
  (fL c (list.length:Int)).bind fun x1=>(idx list x1.1).bind fun x2=>some (x2,(x1.2.1,x1.2.2))
def kA(x1:Bool):Option Bool:=
  some x1
def r9(kind:Int):Option Bool:=
  (if kind == 1 then kA true else (if kind == 2 then kA true else (if kind == 3 then kA true else kA (kind == 7))))
def CD(x1:Int×(Int×Int))(x4 x5 x6 x7 x8:Int):Option (dO×(Int×Int)):=
  some ((⟨x1.1,x4,x7,x8⟩:dO),(x5,x6))
def CE(c:dS)(x1:Int×(Int×Int))(x4 x10 x11 x12:Int):Option (dO×(Int×Int)):=
  (fL (⟨c.b,x10,x11⟩:dS) 60000).bind fun x13=>CD x1 x4 x13.2.1 x13.2.2 x12 x13.1
def vF(c:dS)(x1:Int×(Int×Int))(x2 x3 x4:Int):Option (dO×(Int×Int)):=
  (if x1.1 == 1 then (fL (⟨c.b,x2,x3⟩:dS) 40).bind fun x9=>(M5 (⟨c.b,x9.2.1,x9.2.2⟩:dS) 12).bind fun x14=>(if x14.1 then (nZ (⟨c.b,x14.2.1,x14.2.2⟩:dS) ([0,41,100]:List Int)).bind fun x15=>CE c x1 x4 x15.2.1 x15.2.2 x15.1 else CE c x1 x4 x14.2.1 x14.2.2 (bC (1+x9.1))) else CD x1 x4 x2 x3 0 0)
def KK(c:dS):Option (dO×(Int×Int)):=
  (nZ c ([1,1,1,2,2,3,3,4,4,5,6,7,7]:List Int)).bind fun x1=>(r9 x1.1).bind fun x16=>(if x16 then (nZ (⟨c.b,x1.2.1,x1.2.2⟩:dS) ([0,0,0,1]:List Int)).bind fun x17=>vF c x1 x17.2.1 x17.2.2 x17.1 else vF c x1 x1.2.1 x1.2.2 0)
def RS(x9:List Queue)(x10 x11:Int):Option ((List Queue)×(Int×Int)):=
  some (x9,(x10,x11))
def HC(x5:List Queue)(x6 x21 x22:Int)(x23:List dO):Option (Step ((List Queue)×Int×Int×Int) ((List Queue)×Int×Int)):=
  need (x5.length+([(⟨x23⟩:Queue)]).length≤1073741824) (some (.next (x5++([(⟨x23⟩:Queue)]),bC (x6+1),x21,x22)))
def y4(x17 x24 x25:Int)(x26:List dO):Option (Step (Int×Int×Int×(List dO)) (Int×Int×(List dO))):=
  some (.next (bC (x17 - 1),x24,x25,x26))
def HD(c:dS):(Int×Int×Int×(List dO))→Option (Step (Int×Int×Int×(List dO)) (Int×Int×(List dO)))
  | (x17,x18,x19,x20)=>(if decide (0 < x17) then (KK (⟨c.b,x18,x19⟩:dS)).bind fun x27=>need (x20.length+([x27.1]).length≤1073741824)<|y4 x17 x27.2.1 x27.2.2 (x20++([x27.1])) else some (.stop ((x18,x19,x20))))
def HE(x5:List Queue)(x6:Int):(Int×Int×(List dO))→Option (Step ((List Queue)×Int×Int×Int) ((List Queue)×Int×Int))
  | (x21,x22,x23)=>HC x5 x6 x21 x22 x23
def HF(c:dS)(most:Int):((List Queue)×Int×Int×Int)→Option (Step ((List Queue)×Int×Int×Int) ((List Queue)×Int×Int))
  | (x5,x6,x7,x8)=>(if decide (x6 < 3) then (fL (⟨c.b,x7,x8⟩:dS) (bC (most+1))).bind fun x12=>(loop (HD c) (x12.1,x12.2.1,x12.2.2,[])).bind (HE x5 x6) else some (.stop ((x5,x7,x8))))
def RT:((List Queue)×Int×Int)→Option ((List Queue)×(Int×Int))
  | (x9,x10,x11)=>RS x9 x10 x11
def sA(c:dS)(most:Int):Option ((List Queue)×(Int×Int)):=
  (loop (HF c most) (([]:List Queue),0,c.i,c.h)).bind (RT)
def TC(x10:List Int)(x11 x12:Int):Option ((List Int)×(Int×Int)):=
  some (x10,(x11,x12))
def JG(x7:Int)(x14:Int×(Int×Int))(x19:List Int):Option (Step ((List Int)×Int×Int×Int) ((List Int)×Int×Int)):=
  some (.next (x19,bC (x7 - 1),x14.2.1,x14.2.2))
def JH(x13:Int×(Int×Int)):((List Int)×Int)→Option (Step ((List Int)×Int) (List Int))
  | (x17,x18)=>(if decide (0 < x18) then need (x17.length+([x13.1]).length≤1073741824) (some (.next (x17++([x13.1]),bC (x18 - 1)))) else some (.stop (x17)))
def JJ(x7:Int)(x14:Int×(Int×Int)):(List Int)→Option (Step ((List Int)×Int×Int×Int) ((List Int)×Int×Int))
  | x19=>JG x7 x14 x19
def JK(c:dS):((List Int)×Int×Int×Int)→Option (Step ((List Int)×Int×Int×Int) ((List Int)×Int×Int))
  | (x6,x7,x8,x9)=>(if decide (0 < x7) then (fL (⟨c.b,x8,x9⟩:dS) 3).bind fun x13=>(fL (⟨c.b,x13.2.1,x13.2.2⟩:dS) 4).bind fun x14=>(loop (JH x13) (x6,bC (1+x14.1))).bind (JJ x7 x14) else some (.stop ((x6,x8,x9))))
def TD:((List Int)×Int×Int)→Option ((List Int)×(Int×Int))
  | (x10,x11,x12)=>TC x10 x11 x12
def CF(c:dS)(most:Int):Option ((List Int)×(Int×Int)):=
  (fL c most).bind fun x1=>(loop (JK c) (([]:List Int),x1.1,x1.2.1,x1.2.2)).bind (TD)
def jL(x2:List Queue)(x3 x4:Int):Option ((List Queue)×(Int×Int)):=
  some (x2,(x3,x4))
def xQ(x6:List Queue)(x7 x8:Int):Option ((List Queue)×(Int×Int)):=
  jL x6 x7 x8
def QV(x17:List Queue)(x18 x19:Int):Option ((List Queue)×(Int×Int)):=
  jL x17 x18 x19
def xR(x14:List Queue)(x20:Bool)(x21 x22:Int):Option (Step ((List Queue)×Int×Int) ((List Queue)×Int×Int)):=
  (if x20 then (idx x14 1).bind fun x23=>need (x23.hU.length+([(⟨4,0,0,0⟩:dO)]).length≤1073741824) (some (.next (x14.set ((1:Int).toNat) (⟨x23.hU++([(⟨4,0,0,0⟩:dO)])⟩:Queue),x21,x22))) else some (.stop ((x14,x21,x22))))
def FW(c:dS):((List Queue)×Int×Int)→Option (Step ((List Queue)×Int×Int) ((List Queue)×Int×Int))
  | (x14,x15,x16)=>(idx x14 1).bind fun x24=>(fL (⟨c.b,x15,x16⟩:dS) 2).bind fun x25=>xR x14 (decide ((x24.hU.length:Int) < (bC (12+x25.1)))) x25.2.1 x25.2.2
def QW:((List Queue)×Int×Int)→Option ((List Queue)×(Int×Int))
  | (x17,x18,x19)=>QV x17 x18 x19
def wK(c:dS):Option ((List Queue)×(Int×Int)):=
  (sA c 7).bind fun x1=>(fL (⟨c.b,x1.2.1,x1.2.2⟩:dS) 20).bind fun x5=>(if x5.1 == 0 then need (0≤(2:Int)∧(2:Int)≤(x1.1.length:Int)) (some ((x1.1.take ((2:Int).toNat)).drop 0,(x5.2.1,x5.2.2))) else (if x5.1 == 1 then (idx x1.1 0).bind fun x9=>(nZ (⟨c.b,x5.2.1,x5.2.2⟩:dS) ([0,8]:List Int)).bind fun x10=>need (x9.hU.length+([(⟨x10.1,0,0,0⟩:dO)]).length≤1073741824)<|xQ (x1.1.set ((0:Int).toNat) (⟨x9.hU++([(⟨x10.1,0,0,0⟩:dO)])⟩:Queue)) x10.2.1 x10.2.2 else (if x5.1 == 2 then (loop (FW c) (x1.1,x5.2.1,x5.2.2)).bind (QW) else (if x5.1 == 3 then (idx x1.1 2).bind fun x26=>need (x26.hU.length+([(⟨2,2,0,0⟩:dO)]).length≤1073741824) (jL (x1.1.set ((2:Int).toNat) (⟨x26.hU++([(⟨2,2,0,0⟩:dO)])⟩:Queue)) x5.2.1 x5.2.2) else jL x1.1 x5.2.1 x5.2.2))))
def jG(x4:List Queue)(x5:List Int):Option DY:=
  some (⟨x4,x5⟩:DY)
def pK(code:List UInt8):Option DY:=
  (KJ code).bind fun x1=>(sA (⟨code,x1.1,x1.2⟩:dS) 8).bind fun x2=>(CF (⟨code,x2.2.1,x2.2.2⟩:dS) 90).bind fun x3=>(fL (⟨code,x3.2.1,x3.2.2⟩:dS) 16).bind fun x6=>(if x6.1 == 0 then (wK (⟨code,x6.2.1,x6.2.2⟩:dS)).bind fun x7=>jG x7.1 x3.1 else (if x6.1 == 1 then need (x3.1.length+([(-1),3,1]:List Int).length≤1073741824) (jG x2.1 (x3.1++([(-1),3,1]:List Int))) else jG x2.1 x3.1))
def EM(x1:Bool):Option Bool:=
  some x1
def bR(x low high:Int):Option Bool:=
  (if decide (low≤x) then EM (decide (x≤high)) else EM false)
def EN(x3:Bool):Option Bool:=
  some x3
def EO(x4:Bool):Option Bool:=
  some x4
def y5(o_:dO)(x2:Bool):Option Bool:=
  (if x2 then some false else (if o_.Kind != 1 then (if o_.f8 == 0 then EN (o_.cV == 0) else EN false) else (bR o_.f8 0 100).bind fun x5=>(if x5 then (bR o_.cV 0 65535).bind fun x6=>EO x6 else EO false)))
def O9(o_:dO):Option Bool:=
  (bR o_.Kind 1 7).bind fun x1=>(if !x1 then some false else (r9 o_.Kind).bind fun x7=>(if !x7 then (if o_.Cell != 0 then y5 o_ true else (bR o_.Cell 0 1).bind fun x8=>y5 o_ (!x8)) else (bR o_.Cell 0 1).bind fun x9=>y5 o_ (!x9)))
def LU(todo:List Queue):Option Bool:=
  some ((todo.length:Int) == 3)
def LV(x2:Int):Option (Step Int (Out Unit Bool)):=
  some (.next (bC (x2+1)))
def mE(todo:List Queue)(x2:Int):Int→Option (Step Int (Out Unit Bool))
  | x5=>(idx todo x2).bind fun x6=>(if decide (x5 < (x6.hU.length:Int)) then (idx todo x2).bind fun x7=>(idx x7.hU x5).bind fun x8=>(O9 x8).bind fun x9=>(if !x9 then some (.stop (Out.ret false)) else some (.next (bC (x5+1)))) else some (.stop (Out.brk ())))
def LW(x2:Int):(Out Unit Bool)→Option (Step Int (Out Unit Bool))
  | .brk ()=>LV x2
  | .ret r=>some (.stop (Out.ret r))
def mF(todo:List Queue):Int→Option (Step Int (Out Unit Bool))
  | x2=>(if decide (x2 < (todo.length:Int)) then (idx todo x2).bind fun x3=>(if decide (12 < (x3.hU.length:Int)) then some (.stop (Out.ret false)) else (loop (mE todo x2) 0).bind (LW x2)) else some (.stop (Out.brk ())))
def LX(todo:List Queue):(Out Unit Bool)→Option Bool
  | .brk ()=>LU todo
  | .ret r=>some r
def EP(todo:List Queue):Option Bool:=
  (loop (mF todo) 0).bind (LX todo)
def UZ(x5:List Int):Option aD:=
  some (⟨List.replicate ((384:Int).toNat) 0,x5⟩:aD)
def qF:(Int×(List Int))→Option (Step (Int×(List Int)) (List Int))
  | (x3,x4)=>(if decide (x3 < 6) then need (x4.length+([(-1)]).length≤1073741824) (some (.next (bC (x3+1),x4++([(-1)])))) else some (.stop (x4)))
def U0:(List Int)→Option aD
  | x5=>UZ x5
def ER:Option aD:=
  need (0≤(384:Int)∧(384:Int)≤4294967296) ((loop (qF) (0,[])).bind (U0))
def JL:Option aB:=
  some (⟨List.replicate ((3:Int).toNat) (⟨[]⟩:aN),List.replicate ((9:Int).toNat) (⟨[]⟩:aN)⟩:aB)
def H5:Option aB:=
  need (0≤(3:Int)∧(3:Int)≤4294967296)<|need (0≤(9:Int)∧(9:Int)≤4294967296)<|JL
def M6:Option Mem:=
  (ER).bind fun x1=>(H5).bind fun x2=>some (⟨x1,x2⟩:Mem)
def H6:Option aC:=
  need (0≤(3:Int)∧(3:Int)≤4294967296) (some (⟨0,List.replicate ((3:Int).toNat) (⟨false,0,false,0⟩:o8)⟩:aC))
def H7:Option (List aY):=
  need (0≤(3:Int)∧(3:Int)≤4294967296) (some (List.replicate ((3:Int).toNat) (⟨[]⟩:aY)))
def M7:Option (List Int):=
  need (0≤(3:Int)∧(3:Int)≤4294967296) (some (List.replicate ((3:Int).toNat) 0))
def ES:Option aA:=
  (M6).bind fun x1=>(H6).bind fun x2=>(H7).bind fun x3=>(M7).bind fun x4=>some (⟨x1,x2,x3,x4⟩:aA)
def RU(x5:List Queue):Option (List Queue):=
  some x5
def y6(l:List Queue):((List Queue)×Int)→Option (Step ((List Queue)×Int) (List Queue))
  | (x3,x4)=>(if decide (x4 < (l.length:Int)) then (idx l x4).bind fun x6=>need (([]:List dO).length+x6.hU.length≤1073741824) (need (x3.length+([(⟨([]:List dO)++x6.hU⟩:Queue)]).length≤1073741824) (some (.next (x3++([(⟨([]:List dO)++x6.hU⟩:Queue)]),bC (x4+1))))) else some (.stop (x3)))
def RV:(List Queue)→Option (List Queue)
  | x5=>RU x5
def y7(l:List Queue):Option (List Queue):=
  (loop (y6 l) (([]:List Queue),0)).bind (RV)
def JM(x2:aE):Option aE:=
  some ({x2 with Log:=[]}:aE)
def CG(todo:List Queue):Option aE:=
  (EP todo).bind fun x1=>(if !x1 then some (⟨(⟨(⟨(⟨[],[]⟩:aD),(⟨[],[]⟩:aB)⟩:Mem),(⟨0,[]⟩:aC),[],[]⟩:aA),[],[],[],[],0⟩:aE) else (ES).bind fun x3=>need (0≤(2:Int)∧(2:Int)≤4294967296)<|need (0≤(3:Int)∧(3:Int)≤4294967296)<|(y7 todo).bind fun x4=>JM (⟨x3,List.replicate ((2:Int).toNat) 0,List.replicate ((3:Int).toNat) (⟨false,(⟨0,0,0,0⟩:dO),0,0,(⟨0,0,0,0,0,0,0,0,0,false⟩:Sub),0,0,0,0⟩:aZ),x4,[],0⟩:aE))
def KL(x:DY):Option Bool:=
  (CG x.cL).bind fun x1=>some ((x1.aV.length:Int) == 3)
def e9(s:List Int):Option (List Int):=
  need (([]:List Int).length+s.length≤1073741824) (some (([]:List Int)++s))
def qV(h:aD):Option aD:=
  (e9 h.Bytes).bind fun x1=>(e9 h.Class).bind fun x2=>some (⟨x1,x2⟩:aD)
def RW(x5 x10:List aN):Option aB:=
  some (⟨x5,x10⟩:aB)
def y8(x8:Int)(x12:List aN):Option (Step (Int×(List aN)) (List aN)):=
  some (.next (bC (x8+1),x12))
def y9(l:aB):(Int×(List aN))→Option (Step (Int×(List aN)) (List aN))
  | (x8,x9)=>(if decide (x8 < (l.Own.length:Int)) then (idx l.Own x8).bind fun x11=>(e9 x11.aQ).bind fun x13=>need (x9.length+([(⟨x13⟩:aN)]).length≤1073741824)<|y8 x8 (x9++([(⟨x13⟩:aN)])) else some (.stop (x9)))
def RX(x5:List aN):(List aN)→Option aB
  | x10=>RW x5 x10
def HH(l:aB)(x5:List aN):Option aB:=
  (loop (y9 l) (0,[])).bind (RX x5)
def zA(x3:Int)(x15:List aN):Option (Step (Int×(List aN)) (List aN)):=
  some (.next (bC (x3+1),x15))
def zC(l:aB):(Int×(List aN))→Option (Step (Int×(List aN)) (List aN))
  | (x3,x4)=>(if decide (x3 < (l.Global.length:Int)) then (idx l.Global x3).bind fun x14=>(e9 x14.aQ).bind fun x16=>need (x4.length+([(⟨x16⟩:aN)]).length≤1073741824)<|zA x3 (x4++([(⟨x16⟩:aN)])) else some (.stop (x4)))
def HI(l:aB):(List aN)→Option aB
  | x5=>HH l x5
def g8(l:aB):Option aB:=
  (loop (zC l) (0,[])).bind (HI l)
def zD(m:Mem):Option Mem:=
  (qV m.aD).bind fun x1=>(g8 m.aB).bind fun x2=>some (⟨x1,x2⟩:Mem)
def tR(s:List o8):Option (List o8):=
  need (([]:List o8).length+s.length≤1073741824) (some (([]:List o8)++s))
def jX(c:aC):Option aC:=
  (tR c.cK).bind fun x1=>some (⟨c.aJ,x1⟩:aC)
def rN(s:List dA):Option (List dA):=
  need (([]:List dA).length+s.length≤1073741824) (some (([]:List dA)++s))
def RY(x5:List aY):Option (List aY):=
  some x5
def zE(l:List aY):((List aY)×Int)→Option (Step ((List aY)×Int) (List aY))
  | (x3,x4)=>(if decide (x4 < (l.length:Int)) then (idx l x4).bind fun x6=>(rN x6.Rows).bind fun x7=>need (x3.length+([(⟨x7⟩:aY)]).length≤1073741824) (some (.next (x3++([(⟨x7⟩:aY)]),bC (x4+1)))) else some (.stop (x3)))
def RZ:(List aY)→Option (List aY)
  | x5=>RY x5
def jY(l:List aY):Option (List aY):=
  (loop (zE l) (([]:List aY),0)).bind (RZ)
def CH(b:aA):Option aA:=
  (zD b.Mem).bind fun x1=>(jX b.aC).bind fun x2=>(jY b.aO).bind fun x3=>(e9 b.m7).bind fun x4=>some (⟨x1,x2,x3,x4⟩:aA)
def BP(s:List aZ):Option (List aZ):=
  need (([]:List aZ).length+s.length≤1073741824) (some (([]:List aZ)++s))
def DZ(s:List dO):Option (List dO):=
  need (([]:List dO).length+s.length≤1073741824) (some (([]:List dO)++s))
def TE(x5:List Queue):Option (List Queue):=
  some x5
def BQ(todo:List Queue):((List Queue)×Int)→Option (Step ((List Queue)×Int) (List Queue))
  | (x3,x4)=>(if decide (x4 < (todo.length:Int)) then (idx todo x4).bind fun x6=>(DZ x6.hU).bind fun x7=>need (x3.length+([(⟨x7⟩:Queue)]).length≤1073741824) (some (.next (x3++([(⟨x7⟩:Queue)]),bC (x4+1)))) else some (.stop (x3)))
def TF:(List Queue)→Option (List Queue)
  | x5=>TE x5
def vG(todo:List Queue):Option (List Queue):=
  (loop (BQ todo) (([]:List Queue),0)).bind (TF)
def D0(s:List Ev):Option (List Ev):=
  need (([]:List Ev).length+s.length≤1073741824) (some (([]:List Ev)++s))
def zF(s:aE):Option aE:=
  (CH s.aA).bind fun x1=>(e9 s.Cells).bind fun x2=>(BP s.aV).bind fun x3=>(vG s.cL).bind fun x4=>(D0 s.Log).bind fun x5=>some (⟨x1,x2,x3,x4,x5,s.aG⟩:aE)
def oA(x1:Bool):Option Bool:=
  some x1
def cG(n low high:Int):Option Bool:=
  (if decide (low≤n) then oA (decide (n≤high)) else oA false)
def yI:Option Int:=
  some (-1)
def iD(s:List Int)(f:(Int→Option Bool)):Int→Option (Step Int (Out Unit Int))
  | x2=>(if decide (x2 < (s.length:Int)) then (idx s x2).bind fun x3=>(f x3).bind fun x4=>(if x4 then some (.stop (Out.ret x2)) else some (.next (bC (x2+1)))) else some (.stop (Out.brk ())))
def oC:(Out Unit Int)→Option Int
  | .brk ()=>yI
  | .ret r=>some r
def sB(s:List Int)(f:(Int→Option Bool)):Option Int:=
  (loop (iD s f) 0).bind (oC)
def d8(s:List Int)(f:(Int→Option Bool)):Option Bool:=
  (sB s f).bind fun x1=>some (decide (0≤x1))
def M8(x:Int):Option Bool:=
  (cG x 0 255).bind fun x1=>some x1
def zG(x:Int):Option Bool:=
  (M8 x).bind fun x1=>some (!x1)
def wL(x1:Bool):Option Bool:=
  some x1
def ET(b:List Int):Option Bool:=
  (if decide ((b.length:Int)≤1000) then (d8 b (fun y0=>zG y0)).bind fun x2=>wL (!x2) else wL false)
def CI(c:Int):Option Bool:=
  (cG c (-1) 2).bind fun x1=>some (!x1)
def oD(x1:Bool):Option Bool:=
  some x1
def DB(h:aD):Option Bool:=
  (if (h.Bytes.length:Int) == 384 then (ET h.Bytes).bind fun x2=>(if x2 then (if (h.Class.length:Int) == 6 then (d8 h.Class (fun y0=>CI y0)).bind fun x3=>oD (!x3) else oD false) else oD false) else oD false)
def U1(x5:Int):Option Int:=
  some x5
def qG(b:List Int)(at_ width:Int):(Int×Int)→Option (Step (Int×Int) Int)
  | (x3,x4)=>(if decide (x4 < (((b.take ((bC (at_+width)).toNat)).drop at_.toNat).length:Int)) then (idx ((b.take ((bC (at_+width)).toNat)).drop at_.toNat) x4).bind fun x6=>some (.next (bC ((bC (256 * x3))+x6),bC (x4+1))) else some (.stop (x3)))
def U2:Int→Option Int
  | x5=>U1 x5
def k9(b:List Int)(at_ width:Int):Option Int:=
  need (0≤(at_:Int)∧(at_:Int)≤(bC (at_+width):Int)∧(bC (at_+width):Int)≤(b.length:Int)) ((loop (qG b at_ width) (0,0)).bind (U2))
def jO(c:Int):Option Bool:=
  (cG c 0 2).bind fun x1=>some x1
def yJ(c:Int):Option Int:=
  (jO c).bind fun x1=>(if !x1 then some 0 else (idx ([8,16,40]:List Int) c).bind fun x2=>some x2)
def qW(c:Int):Option Int:=
  (jO c).bind fun x1=>(if !x1 then some 0 else (yJ c).bind fun x2=>some (bC (4+x2)))
def mT(c:Int):Option Int:=
  (jO c).bind fun x1=>(if !x1 then some 0 else (qW c).bind fun x2=>need (x2≠0) (some (bC (Int.tdiv 56 x2))))
def CJ(x:Int):Option Bool:=
  some (x != 0)
def DC(b:List Int):Option Bool:=
  (d8 b (fun y0=>CJ y0)).bind fun x1=>some (!x1)
def YA:Option Bool:=
  some true
def oE(h:aD)(page x1 x4:Int):Int→Option (Step Int (Out Unit Bool))
  | x6=>(if decide (x6 < x4) then (qW x1).bind fun x7=>(k9 ((h.Bytes.take ((bC ((bC (page+1)) * 64)).toNat)).drop ((bC (page * 64)).toNat)) (bC (8+(bC (x6 * x7)))) 4).bind fun x8=>(cG x8 1 7).bind fun x9=>(if !x9 then some (.stop (Out.ret false)) else some (.next (bC (x6+1)))) else some (.stop (Out.brk ())))
def YB:(Out Unit Bool)→Option Bool
  | .brk ()=>YA
  | .ret r=>some r
def iP(h:aD)(page x1:Int)(x3:Bool):Option Bool:=
  (if x3 then some false else (mT x1).bind fun x4=>(loop (oE h page x1 x4) 0).bind (YB))
def HJ(h:aD)(page:Int):Option Bool:=
  (idx h.Class page).bind fun x1=>need (0≤(bC (page * 64):Int)∧(bC (page * 64):Int)≤(bC ((bC (page+1)) * 64):Int)∧(bC ((bC (page+1)) * 64):Int)≤(h.Bytes.length:Int)) ((if decide (x1 < 0) then (DC ((h.Bytes.take ((bC ((bC (page+1)) * 64)).toNat)).drop ((bC (page * 64)).toNat))).bind fun x2=>some x2 else (idx ((h.Bytes.take ((bC ((bC (page+1)) * 64)).toNat)).drop ((bC (page * 64)).toNat)) 0).bind fun x10=>(if x10 != 171 then iP h page x1 true else (idx ((h.Bytes.take ((bC ((bC (page+1)) * 64)).toNat)).drop ((bC (page * 64)).toNat)) 1).bind fun x11=>(if x11 != x1 then iP h page x1 true else (idx ((h.Bytes.take ((bC ((bC (page+1)) * 64)).toNat)).drop ((bC (page * 64)).toNat)) 2).bind fun x12=>(mT x1).bind fun x13=>(if x12 != x13 then iP h page x1 true else need (0≤(3:Int)∧(3:Int)≤(8:Int)∧(8:Int)≤(((h.Bytes.take ((bC ((bC (page+1)) * 64)).toNat)).drop ((bC (page * 64)).toNat)).length:Int)) ((DC ((((h.Bytes.take ((bC ((bC (page+1)) * 64)).toNat)).drop ((bC (page * 64)).toNat)).take ((8:Int).toNat)).drop ((3:Int).toNat))).bind fun x14=>iP h page x1 (!x14)))))))
def YC:Option Bool:=
  some true
def sC(h:aD):Int→Option (Step Int (Out Unit Bool))
  | x3=>(if decide (x3 < 6) then (HJ h x3).bind fun x4=>(if !x4 then some (.stop (Out.ret false)) else some (.next (bC (x3+1)))) else some (.stop (Out.brk ())))
def YD:(Out Unit Bool)→Option Bool
  | .brk ()=>YC
  | .ret r=>some r
def DD(h:aD):Option Bool:=
  (DB h).bind fun x1=>(if !x1 then some false else (loop (sC h) 0).bind (YD))
def lL(slot:Int):Option Bool:=
  (cG slot 0 23).bind fun x1=>some x1
def pL(x10:List Raw):Option (List Raw):=
  some x10
def gP(slices:List (List Raw)):((List Raw)×Int)→Option (Step ((List Raw)×Int) (List Raw))
  | (x8,x9)=>(if decide (x9 < (slices.length:Int)) then (idx slices x9).bind fun x11=>need (x8.length+x11.length≤1073741824) (some (.next (x8++x11,bC (x9+1)))) else some (.stop (x8)))
def KM:(List Raw)→Option (List Raw)
  | x10=>pL x10
def lA(slices:List (List Raw))(x5:Int):Option (List Raw):=
  need (0≤x5∧x5≤1073741824) ((loop (gP slices) ([],0)).bind (KM))
def fM(slices:List (List Raw)):(Int×Int)→Option (Step (Int×Int) Int)
  | (x3,x4)=>(if decide (x4 < (slices.length:Int)) then (idx slices x4).bind fun x12=>(if decide ((bC (x3+(x12.length:Int))) < 0) then none else some (.next (bC (x3+(x12.length:Int)),bC (x4+1)))) else some (.stop (x3)))
def zH(slices:List (List Raw)):Int→Option (List Raw)
  | x5=>lA slices x5
def nJ(slices:List (List Raw)):Option (List Raw):=
  (loop (fM slices) (0,0)).bind (zH slices)
theorem GY{u1 u2:List Raw}(h:u1.length+u2.length≤1073741824):loop (fM [u1,u2]) (0,0)=some ((u1.length+u2.length:Nat):Int):=by
  have e1:bC (u1.length:Int)=u1.length:=FU (by omega)
  have e2:bC ((u1.length:Int)+(u2.length:Int))=((u1.length+u2.length:Nat):Int):=by rw [FU (by omega)];rfl
  have e3:bC (0+1)=1:=FU (by omega)
  have e4:bC 2=2:=FU (by omega)
  have n1:¬(u1.length:Int) < 0:=by omega
  have n2:¬((u1.length+u2.length:Nat):Int) < 0:=by omega
  rw [b8 (s':=((u1.length:Int),1)) ?_,b8 (s':=(((u1.length+u2.length:Nat):Int),2)) ?_,bV (r:=((u1.length+u2.length:Nat):Int)) ?_]
  · simp [fM]
  · simp [fM,idx,e2,e4]
    omega
  · simp [fM,idx,e1,n1]
    exact e3
theorem JN{u1 u2:List Raw}{n1 n2:Nat}(hl:u1.length=n1∧u2.length=n2)(h:n1+n2≤1073741824):nJ [u1,u2]=some (u1++u2):=by
  obtain⟨rfl,rfl⟩:=hl
  have e3:bC (0+1)=1:=FU (by omega)
  have e4:bC 2=2:=FU (by omega)
  unfold nJ
  rw [GY h]
  simp only [aI,zH,lA]
  rw [aR (by omega),b8 (s':=(u1,1)) ?_,b8 (s':=(u1++u2,2)) ?_,bV (r:=u1++u2) ?_]
  · rfl
  · simp [gP]
  · simp [gP,idx,e4,aR h]
  · have h1:u1.length≤1073741824:=by omega
    simp [gP,idx,aR h1]
    exact e3
def D1:Option Bool:=
  some true
def wM(x4:Int)(x12:List Bool):Option (Step (Int×(List Bool)) (Out Unit Bool)):=
  some (.next (bC (x4+1),x12))
def mG(x10:Int)(x11:List Bool)(x13:Int)(x14:Bool):Option (Step (Int×(List Bool)) (Out (List Bool) Bool)):=
  (if x14 then some (.stop (Out.ret false)) else need (0≤(x13:Int)∧(x13:Int) < 24) ((idx (x11:List Bool) x13).bind fun x15=>some (.next (bC (x10+1),x11.set (x13.toNat) true))))
def kJ(x6:aN):(Int×(List Bool))→Option (Step (Int×(List Bool)) (Out (List Bool) Bool))
  | (x10,x11)=>(if decide (x10 < (x6.aQ.length:Int)) then (idx x6.aQ x10).bind fun x13=>(lL x13).bind fun x16=>(if !x16 then mG x10 x11 x13 true else need (0≤(x13:Int)∧(x13:Int) < 24) ((idx (x11:List Bool) x13).bind fun x17=>mG x10 x11 x13 x17)) else some (.stop (Out.brk x11)))
def LY(x4:Int):(Out (List Bool) Bool)→Option (Step (Int×(List Bool)) (Out Unit Bool))
  | .brk x12=>wM x4 x12
  | .ret r=>some (.stop (Out.ret r))
def kK(x4:Int)(x5:List Bool)(x6:aN)(x7:Bool):Option (Step (Int×(List Bool)) (Out Unit Bool)):=
  (if x7 then some (.stop (Out.ret false)) else (loop (kJ x6) (0,x5)).bind (LY x4))
def kL(l:aB):(Int×(List Bool))→Option (Step (Int×(List Bool)) (Out Unit Bool))
  | (x4,x5)=>(if decide (x4 < ((l.Own++l.Global).length:Int)) then (idx (l.Own++l.Global) x4).bind fun x6=>(if decide (x4 < (l.Own.length:Int)) then kK x4 x5 x6 (decide (2 < (x6.aQ.length:Int))) else kK x4 x5 x6 false) else some (.stop (Out.brk ())))
def U3:(Out Unit Bool)→Option Bool
  | .brk ()=>D1
  | .ret r=>some r
def qH(l:aB)(x1:Bool):Option Bool:=
  (if x1 then some false else need (l.Own.length+l.Global.length≤1073741824) ((loop (kL l) (0,[false,false,false,false,false,false,false,false,false,false,false,false,false,false,false,false,false,false,false,false,false,false,false,false])).bind (U3)))
def jP(l:aB):Option Bool:=
  (if (l.Global.length:Int) != 3 then qH l true else qH l ((l.Own.length:Int) != 9))
def vH(slot c:Int)(x1:Bool):Option Int:=
  (if x1 then some (-1) else (qW c).bind fun x2=>some (bC ((bC ((bC ((bC (Int.tdiv slot 4)) * 64))+8))+(bC ((Int.tmod slot 4) * x2)))))
def sD(slot c:Int):Option Int:=
  (lL slot).bind fun x3=>(if !x3 then vH slot c true else (jO c).bind fun x4=>(if !x4 then vH slot c true else (mT c).bind fun x5=>vH slot c (decide (x5≤(Int.tmod slot 4)))))
def wN(h:aD)(slot:Int)(x1:Bool):Option Int:=
  (if x1 then some (-1) else (idx h.Class (bC (Int.tdiv slot 4))).bind fun x2=>some x2)
def mU(h:aD)(slot:Int):Option Int:=
  (lL slot).bind fun x3=>(if !x3 then wN h slot true else (idx h.Class (bC (Int.tdiv slot 4))).bind fun x4=>(sD slot x4).bind fun x5=>wN h slot (decide (x5 < 0)))
def pM(h:aD)(slot:Int):Option Int:=
  (DB h).bind fun x1=>(if !x1 then some (-1) else (mU h slot).bind fun x2=>some x2)
def xS(h:aD)(slot:Int):Option Int:=
  (pM h slot).bind fun x1=>(if decide (x1 < 0) then some 0 else (sD slot x1).bind fun x2=>(k9 h.Bytes x2 4).bind fun x3=>some x3)
def TG:Option Bool:=
  some true
def tS(x2:Int)(x4:Bool):Option (Step Int (Out Unit Bool)):=
  (if x4 then some (.stop (Out.ret false)) else some (.next (bC (x2+1))))
def lP(h:aD)(s:aN)(c:Int):Int→Option (Step Int (Out Unit Bool))
  | x2=>(if decide (x2 < (s.aQ.length:Int)) then (idx s.aQ x2).bind fun x3=>(mU h x3).bind fun x5=>(if x5 != c then tS x2 true else (xS h x3).bind fun x6=>tS x2 (decide (6 < x6))) else some (.stop (Out.brk ())))
def TH:(Out Unit Bool)→Option Bool
  | .brk ()=>TG
  | .ret r=>some r
def vI(h:aD)(s:aN)(c:Int):Option Bool:=
  (loop (lP h s c) 0).bind (TH)
def aAT:Option Bool:=
  some true
def qX(m:Mem):Int→Option (Step Int (Out Unit Bool))
  | x5=>(if decide (x5 < (m.aB.Own.length:Int)) then (idx m.aB.Own x5).bind fun x6=>(vI m.aD x6 (Int.tmod x5 3)).bind fun x7=>(if !x7 then some (.stop (Out.ret false)) else some (.next (bC (x5+1)))) else some (.stop (Out.brk ())))
def aAU:(Out Unit Bool)→Option Bool
  | .brk ()=>aAT
  | .ret r=>some r
def PO(m:Mem):Option Bool:=
  (loop (qX m) 0).bind (aAU)
def qY(m:Mem):Int→Option (Step Int (Out Unit Bool))
  | x3=>(if decide (x3 < (m.aB.Global.length:Int)) then (idx m.aB.Global x3).bind fun x8=>(vI m.aD x8 x3).bind fun x9=>(if !x9 then some (.stop (Out.ret false)) else some (.next (bC (x3+1)))) else some (.stop (Out.brk ())))
def PQ(m:Mem):(Out Unit Bool)→Option Bool
  | .brk ()=>PO m
  | .ret r=>some r
def CK(m:Mem)(x1:Bool):Option Bool:=
  (if x1 then some false else (loop (qY m) 0).bind (PQ m))
def FX(m:Mem):Option Bool:=
  (DD m.aD).bind fun x10=>(if !x10 then CK m true else (jP m.aB).bind fun x11=>CK m (!x11))
def yK:Option Int:=
  some (-1)
def iE(s:List o8)(f:(o8→Option Bool)):Int→Option (Step Int (Out Unit Int))
  | x2=>(if decide (x2 < (s.length:Int)) then (idx s x2).bind fun x3=>(f x3).bind fun x4=>(if x4 then some (.stop (Out.ret x2)) else some (.next (bC (x2+1)))) else some (.stop (Out.brk ())))
def oF:(Out Unit Int)→Option Int
  | .brk ()=>yK
  | .ret r=>some r
def sG(s:List o8)(f:(o8→Option Bool)):Option Int:=
  (loop (iE s f) 0).bind (oF)
def kB(s:List o8)(f:(o8→Option Bool)):Option Bool:=
  (sG s f).bind fun x1=>some (decide (0≤x1))
def kC(x1:Bool):Option Bool:=
  some x1
def sH(p:o8)(k0:aC):Option Bool:=
  (cG p.aJ 0 k0.aJ).bind fun x2=>(if !x2 then kC true else (cG p.Seen 0 2).bind fun x3=>(if !x3 then kC true else (if !p.On then kC (!(decide (p=(⟨false,0,false,0⟩:o8)))) else kC false)))
def qI(x1:Bool):Option Bool:=
  some x1
def mV(c:aC):Option Bool:=
  (cG c.aJ 0 100000).bind fun x2=>(if x2 then (if (c.cK.length:Int) == 3 then (kB c.cK (fun y0=>sH y0 c)).bind fun x3=>qI (!x3) else qI false) else qI false)
def lQ(x1:Bool):Option Bool:=
  some x1
def gJ(h:Int):Option Bool:=
  (cG h 32 223).bind fun x2=>(if x2 then lQ (decide ((Int.tmod h 32) < 24)) else lQ false)
def zI(x5:Int):Option Int:=
  some x5
def iQ(l:List aY):(Int×Int)→Option (Step (Int×Int) Int)
  | (x3,x4)=>(if decide (x4 < (l.length:Int)) then (idx l x4).bind fun x6=>some (.next (bC (x3+(x6.Rows.length:Int)),bC (x4+1))) else some (.stop (x3)))
def R0:Int→Option Int
  | x5=>zI x5
def sI(l:List aY):Option Int:=
  (loop (iQ l) (0,0)).bind (R0)
def wO(l:List aY):Option Bool:=
  (sI l).bind fun x5=>some (decide (x5≤24))
def wP(x3:Int)(x11:List Bool):Option (Step (Int×(List Bool)) (Out Unit Bool)):=
  some (.next (bC (x3+1),x11))
def iY(x9:Int)(x10:List Bool)(x12:dA)(x13:Bool):Option (Step (Int×(List Bool)) (Out (List Bool) Bool)):=
  (if x13 then some (.stop (Out.ret false)) else need (0≤(Int.tmod x12.Handle 32:Int)∧(Int.tmod x12.Handle 32:Int) < 24) ((idx (x10:List Bool) (Int.tmod x12.Handle 32)).bind fun x14=>some (.next (bC (x9+1),x10.set ((Int.tmod x12.Handle 32).toNat) true))))
def kM(x6:aY):(Int×(List Bool))→Option (Step (Int×(List Bool)) (Out (List Bool) Bool))
  | (x9,x10)=>(if decide (x9 < (x6.Rows.length:Int)) then (idx x6.Rows x9).bind fun x12=>(gJ x12.Handle).bind fun x15=>(if !x15 then iY x9 x10 x12 true else (cG x12.aJ 0 100000).bind fun x16=>(if !x16 then iY x9 x10 x12 true else need (0≤(Int.tmod x12.Handle 32:Int)∧(Int.tmod x12.Handle 32:Int) < 24) ((idx (x10:List Bool) (Int.tmod x12.Handle 32)).bind fun x17=>iY x9 x10 x12 x17))) else some (.stop (Out.brk x10)))
def LZ(x3:Int):(Out (List Bool) Bool)→Option (Step (Int×(List Bool)) (Out Unit Bool))
  | .brk x11=>wP x3 x11
  | .ret r=>some (.stop (Out.ret r))
def kO(l:List aY):(Int×(List Bool))→Option (Step (Int×(List Bool)) (Out Unit Bool))
  | (x3,x4)=>(if decide (x3 < (l.length:Int)) then (idx l x3).bind fun x6=>(loop (kM x6) (0,x4)).bind (LZ x3) else some (.stop (Out.brk ())))
def L4(l:List aY):(Out Unit Bool)→Option Bool
  | .brk ()=>wO l
  | .ret r=>some r
def lB(l:List aY):Option Bool:=
  (if (l.length:Int) != 3 then some false else (loop (kO l) (0,[false,false,false,false,false,false,false,false,false,false,false,false,false,false,false,false,false,false,false,false,false,false,false,false])).bind (L4 l))
def sJ(x1:Bool):Option Bool:=
  some x1
def pH(h:Int):Option Bool:=
  (if h == 0 then sJ true else (gJ h).bind fun x2=>sJ x2)
def EU(h:Int):Option Bool:=
  (pH h).bind fun x1=>some (!x1)
def CL(x1:Bool):Option Bool:=
  some x1
def BR(z:List Int):Option Bool:=
  (if (z.length:Int) == 3 then (d8 z (fun y0=>EU y0)).bind fun x2=>CL (!x2) else CL false)
def uO:Option Int:=
  some (-1)
def jD(s:List aY)(f:(aY→Option Bool)):Int→Option (Step Int (Out Unit Int))
  | x2=>(if decide (x2 < (s.length:Int)) then (idx s x2).bind fun x3=>(f x3).bind fun x4=>(if x4 then some (.stop (Out.ret x2)) else some (.next (bC (x2+1)))) else some (.stop (Out.brk ())))
def l9:(Out Unit Int)→Option Int
  | .brk ()=>uO
  | .ret r=>some r
def pN(s:List aY)(f:(aY→Option Bool)):Option Int:=
  (loop (jD s f) 0).bind (l9)
def gT(s:List aY)(f:(aY→Option Bool)):Option Bool:=
  (pN s f).bind fun x1=>some (decide (0≤x1))
def vJ:Option Int:=
  some (-1)
def jQ(s:List dA)(f:(dA→Option Bool)):Int→Option (Step Int (Out Unit Int))
  | x2=>(if decide (x2 < (s.length:Int)) then (idx s x2).bind fun x3=>(f x3).bind fun x4=>(if x4 then some (.stop (Out.ret x2)) else some (.next (bC (x2+1)))) else some (.stop (Out.brk ())))
def nC:(Out Unit Int)→Option Int
  | .brk ()=>vJ
  | .ret r=>some r
def rH(s:List dA)(f:(dA→Option Bool)):Option Int:=
  (loop (jQ s f) 0).bind (nC)
def g9(s:List dA)(f:(dA→Option Bool)):Option Bool:=
  (rH s f).bind fun x1=>some (decide (0≤x1))
def EI:Option Int:=
  some (-1)
def eB(s:List Int)(v:Int):Int→Option (Step Int (Out Unit Int))
  | x2=>(if decide (x2 < (s.length:Int)) then (idx s x2).bind fun x3=>(if v == x3 then some (.stop (Out.ret x2)) else some (.next (bC (x2+1)))) else some (.stop (Out.brk ())))
def nK:(Out Unit Int)→Option Int
  | .brk ()=>EI
  | .ret r=>some r
def lR(s:List Int)(v:Int):Option Int:=
  (loop (eB s v) 0).bind (nK)
def nL(s:List Int)(v:Int):Option Bool:=
  (lR s v).bind fun x1=>some (decide (0≤x1))
def nD(s:aN)(k0:Int):Option Bool:=
  (nL s.aQ k0).bind fun x1=>some x1
def uP:Option Int:=
  some (-1)
def jE(s:List aN)(f:(aN→Option Bool)):Int→Option (Step Int (Out Unit Int))
  | x2=>(if decide (x2 < (s.length:Int)) then (idx s x2).bind fun x3=>(f x3).bind fun x4=>(if x4 then some (.stop (Out.ret x2)) else some (.next (bC (x2+1)))) else some (.stop (Out.brk ())))
def mA:(Out Unit Int)→Option Int
  | .brk ()=>uP
  | .ret r=>some r
def pO(s:List aN)(f:(aN→Option Bool)):Option Int:=
  (loop (jE s f) 0).bind (mA)
def gU(s:List aN)(f:(aN→Option Bool)):Option Bool:=
  (pO s f).bind fun x1=>some (decide (0≤x1))
def zJ(x1:Bool):Option Bool:=
  some x1
def DE(l:aB)(slot:Int):Option Bool:=
  (gU l.Global (fun y0=>nD y0 slot)).bind fun x2=>(if x2 then zJ true else (gU l.Own (fun y0=>nD y0 slot)).bind fun x3=>zJ x3)
def EV(m:Mem)(slot:Int):Option Int:=
  (mU m.aD slot).bind fun x1=>(if decide (x1 < 0) then some 0 else (DE m.aB slot).bind fun x2=>(if x2 then some 1 else (xS m.aD slot).bind fun x3=>(if decide (6 < x3) then some 2 else some 3)))
def sK(x1:Bool):Option Bool:=
  some x1
def yL(m:Mem)(h:Int):Option Bool:=
  (gJ h).bind fun x2=>(if x2 then (EV m (Int.tmod h 32)).bind fun x3=>(if x3 == 3 then (xS m.aD (Int.tmod h 32)).bind fun x4=>sK (x4 == (bC (Int.tdiv h 32))) else sK false) else sK false)
def pP(x1:Bool):Option Bool:=
  some x1
def wQ(r_:dA)(k0:aA):Option Bool:=
  (yL k0.Mem r_.Handle).bind fun x2=>(if !x2 then pP true else pP (decide (k0.aC.aJ < r_.aJ)))
def CM(l:aY)(k0:aA):Option Bool:=
  (g9 l.Rows (fun y0=>wQ y0 k0)).bind fun x1=>some x1
def oG(b:aA)(x1:Bool):Option Bool:=
  (if x1 then some false else (gT b.aO (fun y0=>CM y0 b)).bind fun x2=>some (!x2))
def HK(b:aA):Option Bool:=
  (FX b.Mem).bind fun x3=>(if !x3 then oG b true else (mV b.aC).bind fun x4=>(if !x4 then oG b true else (lB b.aO).bind fun x5=>(if !x5 then oG b true else (BR b.m7).bind fun x6=>oG b (!x6))))
def uQ:Option Int:=
  some (-1)
def jF(s:List Queue)(f:(Queue→Option Bool)):Int→Option (Step Int (Out Unit Int))
  | x2=>(if decide (x2 < (s.length:Int)) then (idx s x2).bind fun x3=>(f x3).bind fun x4=>(if x4 then some (.stop (Out.ret x2)) else some (.next (bC (x2+1)))) else some (.stop (Out.brk ())))
def mB:(Out Unit Int)→Option Int
  | .brk ()=>uQ
  | .ret r=>some r
def pQ(s:List Queue)(f:(Queue→Option Bool)):Option Int:=
  (loop (jF s f) 0).bind (mB)
def gW(s:List Queue)(f:(Queue→Option Bool)):Option Bool:=
  (pQ s f).bind fun x1=>some (decide (0≤x1))
def zK:Option Int:=
  some (-1)
def lC(s:List dO)(f:(dO→Option Bool)):Int→Option (Step Int (Out Unit Int))
  | x2=>(if decide (x2 < (s.length:Int)) then (idx s x2).bind fun x3=>(f x3).bind fun x4=>(if x4 then some (.stop (Out.ret x2)) else some (.next (bC (x2+1)))) else some (.stop (Out.brk ())))
def pR:(Out Unit Int)→Option Int
  | .brk ()=>zK
  | .ret r=>some r
def uW(s:List dO)(f:(dO→Option Bool)):Option Int:=
  (loop (lC s f) 0).bind (pR)
def lD(s:List dO)(f:(dO→Option Bool)):Option Bool:=
  (uW s f).bind fun x1=>some (decide (0≤x1))
def EW(x4:Bool):Option Bool:=
  some x4
def EX(x7:Bool):Option Bool:=
  some x7
def zL(o_:dO)(x3:Bool):Option Bool:=
  (if x3 then some false else (if o_.Kind == 1 then (cG o_.f8 0 100).bind fun x5=>(if x5 then (cG o_.cV 0 65535).bind fun x6=>EW x6 else EW false) else (if o_.f8 == 0 then EX (o_.cV == 0) else EX false)))
def mW(o_:dO)(x1:Bool):Option Bool:=
  (cG o_.Kind 1 7).bind fun x2=>(if !x2 then some false else (if x1 then (cG o_.Cell 0 1).bind fun x8=>(if !x8 then zL o_ true else zL o_ false) else zL o_ (o_.Cell != 0)))
def FL(o_:dO):Option Bool:=
  (if o_.Kind == 1 then mW o_ true else (if o_.Kind == 2 then mW o_ true else (if o_.Kind == 3 then mW o_ true else mW o_ (o_.Kind == 7))))
def wR(o_:dO):Option Bool:=
  (FL o_).bind fun x1=>some (!x1)
def tT(x1:Bool):Option Bool:=
  some x1
def CN(q:Queue):Option Bool:=
  (if decide (12 < (q.hU.length:Int)) then tT true else (lD q.hU (fun y0=>wR y0)).bind fun x2=>tT x2)
def zN(x1:Bool):Option Bool:=
  some x1
def DF(todo:List Queue):Option Bool:=
  (if (todo.length:Int) == 3 then (gW todo (fun y0=>CN y0)).bind fun x2=>zN (!x2) else zN false)
def sL(h:Int):Option Bool:=
  (pH h).bind fun x1=>some (!x1)
def yN:Option Int:=
  some (-1)
def kD(s:List aZ)(f:(aZ→Option Bool)):Int→Option (Step Int (Out Unit Int))
  | x2=>(if decide (x2 < (s.length:Int)) then (idx s x2).bind fun x3=>(f x3).bind fun x4=>(if x4 then some (.stop (Out.ret x2)) else some (.next (bC (x2+1)))) else some (.stop (Out.brk ())))
def oH:(Out Unit Int)→Option Int
  | .brk ()=>yN
  | .ret r=>some r
def sM(s:List aZ)(f:(aZ→Option Bool)):Option Int:=
  (loop (kD s f) 0).bind (oH)
def iF(s:List aZ)(f:(aZ→Option Bool)):Option Bool:=
  (sM s f).bind fun x1=>some (decide (0≤x1))
def vK(x1:Bool):Option Bool:=
  some x1
def KN(j:aZ):Option Bool:=
  (if !j.dE then some (decide (j=(⟨false,(⟨0,0,0,0⟩:dO),0,0,(⟨0,0,0,0,0,0,0,0,0,false⟩:Sub),0,0,0,0⟩:aZ))) else (FL j.Op).bind fun x2=>(if x2 then (pH j.H).bind fun x3=>(if x3 then (pH j.Old).bind fun x4=>vK x4 else vK false) else vK false))
def zO(j:aZ):Option Bool:=
  (KN j).bind fun x1=>some (!x1)
def hO(x1:Bool):Option Bool:=
  some x1
def zP(s:aE):Option Bool:=
  (HK s.aA).bind fun x2=>(if x2 then (if (s.Cells.length:Int) == 2 then (if (s.aV.length:Int) == 3 then (DF s.cL).bind fun x3=>(if x3 then (cG s.aG 0 1000000).bind fun x4=>(if x4 then (d8 s.Cells (fun y0=>sL y0)).bind fun x5=>(if !x5 then (iF s.aV (fun y0=>zO y0)).bind fun x6=>hO (!x6) else hO false) else hO false) else hO false) else hO false) else hO false) else hO false)
def M9(j:aZ):Option Bool:=
  some j.dE
def NA(q:Queue):Option Bool:=
  some (decide (0 < (q.hU.length:Int)))
def EY(x1:Bool):Option Bool:=
  some x1
def PA(s:aE):Option Bool:=
  (iF s.aV (fun y0=>M9 y0)).bind fun x2=>(if !x2 then (gW s.cL (fun y0=>NA y0)).bind fun x3=>EY (!x3) else EY false)
def dB(s:aE)(kind w_ handle val code:Int)(x1:aZ):Option aE:=
  some ({s with Log:=s.Log++([(⟨kind,w_,x1.aG,x1.Op.Cell,handle,val,code⟩:Ev)])}:aE)
def cT(s:aE)(kind w_ handle val code:Int):Option aE:=
  (idx s.aV w_).bind fun x1=>need (s.Log.length+([(⟨kind,w_,x1.aG,x1.Op.Cell,handle,val,code⟩:Ev)]).length≤1073741824)<|dB s kind w_ handle val code x1
def tU(s:List dO)(i j:Int):Option (List dO):=
  need (0≤(i:Int)∧(i:Int)≤(j:Int)∧(j:Int)≤((s.length:Int):Int)∧((s.length:Int):Int)≤(s.length:Int)) ((if i == j then some s else need (0≤(i:Int)∧(i:Int)≤(s.length:Int)) (need (0≤(j:Int)∧(j:Int)≤(s.length:Int)) (need (i.toNat≤j.toNat) (need (0≤(((((dD s i.toNat (s.drop j.toNat)).take (i.toNat+(s.length - j.toNat))).drop 0).length:Int):Int)∧(((((dD s i.toNat (s.drop j.toNat)).take (i.toNat+(s.length - j.toNat))).drop 0).length:Int):Int)≤((s.length:Int):Int)∧((s.length:Int):Int)≤((dD s i.toNat (s.drop j.toNat)).length:Int)) (some (((dD s i.toNat (s.drop j.toNat)).take (i.toNat+(s.length - j.toNat))).drop 0)))))))
def iZ(kind a_:Int):Option Sub:=
  some (⟨kind,a_,0,0,0,0,0,0,0,false⟩:Sub)
def bH(j:aZ)(code:Int):Option aZ:=
  some ({j with Pc:=9,Code:=code}:aZ)
def dT(s:aE)(w_:Int)(x4:(List dO))(x5:aZ):Option aE:=
  (idx s.aV w_).bind fun x6=>(cT ({s with aV:=s.aV.set w_.toNat x5,cL:=s.cL.set w_.toNat (⟨x4⟩:Queue),aG:=bC (s.aG+1)}:aE) 1 w_ 0 0 0).bind fun x7=>some x7
def iV(s:aE)(w_:Int)(x3:dO)(x4:(List dO))(x9:Bool):Option aE:=
  (if x9 then (iZ 5 0).bind fun x10=>(idx s.aA.aC.cK w_).bind fun x11=>(if x11.On then (bH (⟨true,x3,bC (s.aG+1),0,x10,0,0,0,0⟩:aZ) 1).bind fun x12=>dT s w_ x4 x12 else dT s w_ x4 (⟨true,x3,bC (s.aG+1),0,x10,0,0,0,0⟩:aZ)) else (if x3.Kind == 4 then (iZ 3 0).bind fun x13=>dT s w_ x4 (⟨true,x3,bC (s.aG+1),0,x13,0,0,0,0⟩:aZ) else dT s w_ x4 (⟨true,x3,bC (s.aG+1),0,(⟨0,0,0,0,0,0,0,0,0,false⟩:Sub),0,0,0,0⟩:aZ)))
def nM(s:aE)(w_:Int)(x1:Bool):Option aE:=
  (if x1 then some s else (idx s.cL w_).bind fun x2=>(idx x2.hU 0).bind fun x3=>(tU x2.hU 0 1).bind fun x4=>(if x3.Kind == 1 then (iZ 1 x3.f8).bind fun x8=>dT s w_ x4 (⟨true,x3,bC (s.aG+1),0,x8,0,0,0,0⟩:aZ) else (if x3.Kind == 2 then iV s w_ x3 x4 true else iV s w_ x3 x4 (x3.Kind == 5))))
def tV(s:aE)(w_:Int):Option aE:=
  (idx s.cL w_).bind fun x14=>(if (x14.hU.length:Int) == 0 then nM s w_ true else nM s w_ (s.aG == 1000000))
def U4:Option Int:=
  some (-1)
def wS(x2:Int)(x3:Bool):Option (Step Int (Out Unit Int)):=
  (if x3 then some (.stop (Out.ret x2)) else some (.next (bC (x2+1))))
def i5(size:Int):Int→Option (Step Int (Out Unit Int))
  | x2=>(if decide (x2 < 3) then (if decide (1≤size) then (yJ x2).bind fun x4=>wS x2 (decide (size≤x4)) else wS x2 false) else some (.stop (Out.brk ())))
def U5:(Out Unit Int)→Option Int
  | .brk ()=>U4
  | .ret r=>some r
def EZ(size:Int):Option Int:=
  (loop (i5 size) 0).bind (U5)
def bB(s:Sub)(code:Int):Option Sub:=
  some ({s with Code:=code,cE:=true}:Sub)
def fJ(w_:Int):Option Bool:=
  (cG w_ 0 2).bind fun x1=>some x1
def CP(w_ c:Int)(x1:Bool):Option Int:=
  (if x1 then some (-1) else some (bC ((bC (w_ * 3))+c)))
def FY(w_ c:Int):Option Int:=
  (fJ w_).bind fun x2=>(if !x2 then CP w_ c true else (jO c).bind fun x3=>CP w_ c (!x3))
def sN(s:aN):Option (Int×aN):=
  (if decide ((bC ((s.aQ.length:Int) - 1)) < 0) then some ((-1),s) else (idx s.aQ (bC ((s.aQ.length:Int) - 1))).bind fun x1=>need (0≤(bC ((s.aQ.length:Int) - 1):Int)∧(bC ((s.aQ.length:Int) - 1):Int)≤(bC ((s.aQ.length:Int) - 1):Int)∧(bC ((s.aQ.length:Int) - 1):Int)≤(s.aQ.length:Int)) (some (x1,(⟨(s.aQ.take ((bC ((s.aQ.length:Int) - 1)).toNat)).drop 0⟩:aN))))
def wT(x1:aB)(x2:Int)(x3:Bool):Option (aB×Int):=
  (if x3 then some (x1,(-1)) else (idx x1.Own x2).bind fun x4=>(sN x4).bind fun x5=>some ((⟨x1.Global,x1.Own.set x2.toNat x5.2⟩:aB),x5.1))
def E0(l:aB)(w_ c:Int):Option (aB×Int):=
  (g8 l).bind fun x1=>(FY w_ c).bind fun x2=>(jP l).bind fun x6=>(if !x6 then wT x1 x2 true else wT x1 x2 (decide (x2 < 0)))
def pS(c:Int)(x1:aB)(x2:Bool):Option (aB×Int):=
  (if x2 then some (x1,(-1)) else (idx x1.Global c).bind fun x3=>(sN x3).bind fun x4=>some ((⟨x1.Global.set c.toNat x4.2,x1.Own⟩:aB),x4.1))
def wU(l:aB)(c:Int):Option (aB×Int):=
  (g8 l).bind fun x1=>(jP l).bind fun x5=>(if !x5 then pS c x1 true else (jO c).bind fun x6=>pS c x1 (!x6))
def jR(width:Int):Option Bool:=
  (cG width 1 7).bind fun x1=>some x1
def aAV(x8:List UInt8):Option (List UInt8):=
  some x8
def CQ:(Int×(List UInt8)×Int)→Option (Step (Int×(List UInt8)×Int) (List UInt8))
  | (x5,x6,x7)=>(if decide (0≤x7) then (idx x6 x7).bind fun x9=>some (.next (rY .i64 x5 8,x6.set x7.toNat (u8 x5),bC (x7 - 1))) else some (.stop (x6)))
def aAW:(List UInt8)→Option (List UInt8)
  | x8=>aAV x8
def vL(n width:Int)(x1:Bool):Option (List UInt8):=
  (if x1 then some ([]) else need (0≤(width:Int)∧(width:Int)≤4294967296) ((loop (CQ) (n,List.replicate (width.toNat) 0,bC (width - 1))).bind (aAW)))
def xT(n width:Int):Option (List UInt8):=
  (jR width).bind fun x10=>(if !x10 then vL n width true else (if decide (n < 0) then vL n width true else need (0≤(IntKind.u64.wrap (bC (8 * width)):Int)) (vL n width (decide ((aBX .i64 1 (IntKind.u64.wrap (bC (8 * width))))≤n)))))
def NB(b x5:List Int):Option (List Int):=
  need (x5.length=b.length) (some x5)
def zQ(b:List Int)(at_:Int)(text:List UInt8):((List Int)×Int)→Option (Step ((List Int)×Int) (List Int))
  | (x3,x4)=>need (x3.length=b.length) ((if decide (x4 < (text.length:Int)) then (idx text x4).bind fun x6=>(idx x3 (bC (at_+x4))).bind fun x7=>some (.next (x3.set ((bC (at_+x4)).toNat) (x6.toNat:Int),bC (x4+1))) else some (.stop (x3))))
def NC(b:List Int):(List Int)→Option (List Int)
  | x5=>NB b x5
def sO(b:List Int)(at_:Int)(text:List UInt8):Option (List Int):=
  (loop (zQ b at_ text) (b,0)).bind (NC b)
def zR(page index:Int)(x1:Bool):Option Int:=
  (if x1 then some (-1) else some (bC ((bC (page * 4))+index)))
def HL(page index:Int):Option Int:=
  (cG page 0 5).bind fun x2=>(if !x2 then zR page index true else (cG index 0 3).bind fun x3=>zR page index (!x3))
def aAX(c:Int)(x1:aD)(x2:Int)(x13 x14:List Int):Option (aD×(List Int)):=
  some ((⟨x14,x1.Class.set x2.toNat c⟩:aD),x13)
def H8(x10:List Int)(x11 x15:Int)(x16:List Int):Option (Step ((List Int)×Int×(List Int)) ((List Int)×(List Int))):=
  need (x10.length+([x15]).length≤1073741824) (some (.next (x10++([x15]),bC (x11+1),x16)))
def CR(c x2 x6:Int):((List Int)×Int×(List Int))→Option (Step ((List Int)×Int×(List Int)) ((List Int)×(List Int)))
  | (x10,x11,x12)=>(if decide (x11 < x6) then (HL x2 x11).bind fun x15=>(sD x15 c).bind fun x17=>(xT 1 4).bind fun x18=>(sO x12 x17 x18).bind fun x19=>H8 x10 x11 x15 x19 else some (.stop ((x10,x12))))
def aAY(c:Int)(x1:aD)(x2:Int):((List Int)×(List Int))→Option (aD×(List Int))
  | (x13,x14)=>aAX c x1 x2 x13 x14
def H9(c:Int)(x1:aD)(x2:Int)(x5:List Int):Option (aD×(List Int)):=
  (mT c).bind fun x6=>(loop (CR c x2 x6) (([]:List Int),0,x5)).bind (aAY c x1 x2)
def vM(c:Int)(x1:aD)(x2:Int)(x3:Bool):Option (aD×(List Int)):=
  (if x3 then some (x1,([]:List Int)) else (idx x1.Class x2).bind fun x4=>need (0≤(bC (x2 * 64):Int)∧(bC (x2 * 64):Int)≤(x1.Bytes.length:Int))<|(mT c).bind fun x20=>H9 c x1 x2 (dD x1.Bytes ((bC (x2 * 64)).toNat) ([171,c,x20]:List Int)))
def BS(h:aD)(c:Int):Option (aD×(List Int)):=
  (qV h).bind fun x1=>(lR h.Class (-1)).bind fun x2=>(DD h).bind fun x21=>(if !x21 then vM c x1 x2 true else (jO c).bind fun x22=>(if !x22 then vM c x1 x2 true else vM c x1 x2 (decide (x2 < 0))))
def D2(x4:Int)(x5:Mem):Option (Mem×Int):=
  some (x5,x4)
def D3(c:Int)(x1:aD×(List Int))(x2:Mem):Option (Mem×Int):=
  (if (x1.2.length:Int) == 0 then some (x2,(-1)) else (idx x2.aB.Global c).bind fun x3=>need (0≤(1:Int)∧(1:Int)≤(x1.2.length:Int)) (need (x3.aQ.length+((x1.2.take x1.2.length).drop ((1:Int).toNat)).length≤1073741824) ((idx x1.2 0).bind fun x6=>D2 x6 (⟨x2.aD,(⟨x2.aB.Global.set c.toNat (⟨x3.aQ++((x1.2.take x1.2.length).drop ((1:Int).toNat))⟩:aN),x2.aB.Own⟩:aB)⟩:Mem))))
def E1(m:Mem)(c:Int):Option (Mem×Int):=
  (BS m.aD c).bind fun x1=>(g8 m.aB).bind fun x7=>D3 c x1 (⟨x1.1,x7⟩:Mem)
def tW(slot gen:Int)(x1:Bool):Option Int:=
  (if x1 then some 0 else some (bC ((bC (gen * 32))+slot)))
def IA(slot gen:Int):Option Int:=
  (lL slot).bind fun x2=>(if !x2 then tW slot gen true else (cG gen 1 6).bind fun x3=>tW slot gen (!x3))
def CS(m:Mem)(slot:Int):Option Int:=
  (xS m.aD slot).bind fun x1=>(IA slot x1).bind fun x2=>some x2
def gZ(s:Sub)(x3:Int)(x4:aA):Option (Sub×aA):=
  (if decide (0≤x3) then (CS x4.Mem x3).bind fun x5=>(bB ({s with Out:=x5}:Sub) 0).bind fun x6=>some (x6,x4) else (if s.Pc == 3 then (bB s 3).bind fun x7=>some (x7,x4) else some (({s with Pc:=bC (s.Pc+1)}:Sub),x4)))
def l5(s:Sub)(b:aA)(x1:Int)(x9:Bool):Option (Sub×aA):=
  (if x9 then (wU b.Mem.aB x1).bind fun x10=>gZ s x10.2 ({b with Mem:=(⟨b.Mem.aD,x10.1⟩:Mem)}:aA) else (if s.Pc == 2 then (E1 b.Mem x1).bind fun x11=>gZ s x11.2 ({b with Mem:=x11.1}:aA) else (bB s 1).bind fun x12=>some (x12,b)))
def pT(s:Sub)(b:aA)(w_:Int):Option (Sub×aA):=
  (EZ s.A).bind fun x1=>(if decide (x1 < 0) then (bB s 2).bind fun x2=>some (x2,b) else (if s.Pc == 0 then (E0 b.Mem.aB w_ x1).bind fun x8=>gZ s x8.2 ({b with Mem:=(⟨b.Mem.aD,x8.1⟩:Mem)}:aA) else (if s.Pc == 1 then l5 s b x1 true else l5 s b x1 (s.Pc == 3))))
def nN(x1:Bool):Option Bool:=
  some x1
def oJ(r_:dA)(k0:Int):Option Bool:=
  (gJ r_.Handle).bind fun x2=>(if x2 then nN ((Int.tmod r_.Handle 32) == k0) else nN false)
def zT(own:aY)(k0:Int):Option Bool:=
  (g9 own.Rows (fun y0=>oJ y0 k0)).bind fun x1=>some x1
def E2(l:List aY)(slot:Int):Option Bool:=
  (gT l (fun y0=>zT y0 slot)).bind fun x1=>some x1
def tX(l:List aY)(w_ h e_:Int)(x1:Bool):Option ((List aY)×Bool):=
  (if x1 then (jY l).bind fun x2=>some (x2,false) else (jY l).bind fun x3=>(idx x3 w_).bind fun x4=>need (x4.Rows.length+([(⟨h,e_⟩:dA)]).length≤1073741824) ((lB (x3.set w_.toNat (⟨x4.Rows++([(⟨h,e_⟩:dA)])⟩:aY))).bind fun x5=>(if !x5 then (jY l).bind fun x6=>some (x6,false) else some (x3.set w_.toNat (⟨x4.Rows++([(⟨h,e_⟩:dA)])⟩:aY),true))))
def CT(l:List aY)(w_ h e_:Int):Option ((List aY)×Bool):=
  (lB l).bind fun x7=>(if !x7 then tX l w_ h e_ true else (fJ w_).bind fun x8=>tX l w_ h e_ (!x8))
def lE(s:Sub)(b:aA)(w_:Int)(x3:Bool):Option (Sub×aA):=
  (if x3 then (bB s 4).bind fun x4=>some (x4,b) else (CT b.aO w_ s.A s.E).bind fun x5=>(bB s 0).bind fun x6=>some (x6,({b with aO:=x5.1}:aA)))
def lF(s:Sub)(b:aA)(w_:Int)(x1:Bool):Option (Sub×aA):=
  (if x1 then (bB s 1).bind fun x2=>some (x2,b) else (yL b.Mem s.A).bind fun x7=>(if !x7 then lE s b w_ true else (E2 b.aO (Int.tmod s.A 32)).bind fun x8=>lE s b w_ x8))
def nO(s:Sub)(b:aA)(w_:Int):Option (Sub×aA):=
  (if s.Pc == 0 then some (({s with Pc:=1,E:=b.aC.aJ}:Sub),b) else (if s.Pc != 1 then lF s b w_ true else (cG s.E 0 b.aC.aJ).bind fun x9=>lF s b w_ (!x9)))
def oK(w_:Int)(x1:aC)(x4:Bool):Option (aC×Bool):=
  (if x4 then some (x1,true) else (idx x1.cK w_).bind fun x5=>(if decide (x5.Seen < 2) then some ((⟨x1.aJ,x1.cK.set w_.toNat ({x5 with Seen:=bC (x5.Seen+1)}:o8)⟩:aC),false) else some ((⟨x1.aJ,x1.cK.set w_.toNat ({x5 with dI:=true,Seen:=0}:o8)⟩:aC),true)))
def zU(w_ e_:Int)(x1:aC)(x2:Bool):Option (aC×Bool):=
  (if x2 then some (x1,false) else (idx x1.cK w_).bind fun x3=>(if !x3.On then oK w_ x1 true else (if x3.dI then oK w_ x1 true else oK w_ x1 (x3.aJ == e_))))
def HM(c:aC)(w_ e_:Int):Option (aC×Bool):=
  (jX c).bind fun x1=>(mV c).bind fun x6=>(if !x6 then zU w_ e_ x1 true else (fJ w_).bind fun x7=>zU w_ e_ x1 (!x7))
def zV(x1:aC)(x2:Bool):Option (aC×Bool):=
  (if x2 then some (x1,false) else some ((⟨bC (x1.aJ+1),x1.cK⟩:aC),true))
def PB(c:aC)(e_:Int):Option (aC×Bool):=
  (jX c).bind fun x1=>(mV c).bind fun x3=>(if !x3 then zV x1 true else (if c.aJ != e_ then zV x1 true else zV x1 (c.aJ == 100000)))
def kE(s:Sub)(b:aA)(x4:aC×Bool)(x5:Int):Option (Sub×aA):=
  (bB ({s with Out:=x5}:Sub) 0).bind fun x6=>some (x6,({b with aC:=x4.1}:aA))
def kG(s:Sub)(b:aA)(x1:Bool):Option (Sub×aA):=
  (if x1 then (HM b.aC s.B s.E).bind fun x2=>(if !x2.2 then (bB s 8).bind fun x3=>some (x3,({b with aC:=x2.1}:aA)) else (if (bC (s.B+1)) == 3 then some (({s with Pc:=2,B:=bC (s.B+1)}:Sub),({b with aC:=x2.1}:aA)) else some (({s with B:=bC (s.B+1)}:Sub),({b with aC:=x2.1}:aA)))) else (if s.Pc == 2 then (PB b.aC s.E).bind fun x4=>(if x4.2 then kE s b x4 1 else kE s b x4 s.Out) else (bB s 1).bind fun x7=>some (x7,b)))
def mX(s:Sub)(b:aA):Option (Sub×aA):=
  (if s.Pc == 0 then some (({s with Pc:=1,E:=b.aC.aJ,B:=0}:Sub),b) else (if s.Pc == 1 then (fJ s.B).bind fun x8=>kG s b x8 else kG s b false))
def zW(x1:Bool):Option Bool:=
  some x1
def DG(l:List aY)(w_ i:Int):Option Bool:=
  (fJ w_).bind fun x2=>(if x2 then (idx l w_).bind fun x3=>(cG i 0 (bC ((x3.Rows.length:Int) - 1))).bind fun x4=>zW x4 else zW false)
def E3(x1:Bool):Option Bool:=
  some x1
def JO(r_:dA)(e_:Int):Option Bool:=
  (if decide (2≤e_) then E3 (decide (r_.aJ≤(bC (e_ - 2)))) else E3 false)
def DH(s:Sub)(b:aA):Option (Sub×aA):=
  (bB s 0).bind fun x3=>some (x3,b)
def eM(s:Sub)(b:aA)(w_:Int):Int→Option (Step Int (Out Unit (Sub×aA)))
  | x2=>(idx b.aO w_).bind fun x4=>(if decide (x2 < (x4.Rows.length:Int)) then (idx x4.Rows x2).bind fun x5=>(JO x5 s.E).bind fun x6=>(if x6 then some (.stop (Out.ret (({s with Pc:=2,Row:=x2,B:=0,H:=x5.Handle}:Sub),b))) else some (.next (bC (x2+1)))) else some (.stop (Out.brk ())))
def ND(s:Sub)(b:aA):(Out Unit (Sub×aA))→Option (Sub×aA)
  | .brk ()=>DH s b
  | .ret r=>some r
def mY(s:Sub)(b:aA)(w_:Int):Option (Sub×aA):=
  (loop (eM s b w_) (if s.Row < 0 then 0 else s.Row)).bind (ND s b)
def xU(s:List dA)(i j:Int):Option (List dA):=
  need (0≤(i:Int)∧(i:Int)≤(j:Int)∧(j:Int)≤((s.length:Int):Int)∧((s.length:Int):Int)≤(s.length:Int)) ((if i == j then some s else need (0≤(i:Int)∧(i:Int)≤(s.length:Int)) (need (0≤(j:Int)∧(j:Int)≤(s.length:Int)) (need (i.toNat≤j.toNat) (need (0≤(((((dD s i.toNat (s.drop j.toNat)).take (i.toNat+(s.length - j.toNat))).drop 0).length:Int):Int)∧(((((dD s i.toNat (s.drop j.toNat)).take (i.toNat+(s.length - j.toNat))).drop 0).length:Int):Int)≤((s.length:Int):Int)∧((s.length:Int):Int)≤((dD s i.toNat (s.drop j.toNat)).length:Int)) (some (((dD s i.toNat (s.drop j.toNat)).take (i.toNat+(s.length - j.toNat))).drop 0)))))))
def wV(w_ i:Int)(x1:(List aY))(x2:Bool):Option ((List aY)×Bool):=
  (if x2 then some (x1,false) else (idx x1 w_).bind fun x3=>(xU x3.Rows i (bC (i+1))).bind fun x4=>some (x1.set w_.toNat (⟨x4⟩:aY),true))
def E4(l:List aY)(w_ i:Int):Option ((List aY)×Bool):=
  (jY l).bind fun x1=>(lB l).bind fun x5=>(if !x5 then wV w_ i x1 true else (DG l w_ i).bind fun x6=>wV w_ i x1 (!x6))
def FZ(x3 x5:List Int):Option (aD×Bool):=
  some ((⟨x5,x3⟩:aD),true)
def zX(slot gen x1:Int)(x2 x3:List Int)(x4:Bool):Option (aD×Bool):=
  (if x4 then some ((⟨x2,x3⟩:aD),false) else (sD slot x1).bind fun x6=>(xT gen 4).bind fun x7=>(sO x2 x6 x7).bind fun x8=>FZ x3 x8)
def F5(slot gen x1:Int)(x2 x3:List Int):Option (aD×Bool):=
  (if decide (x1 < 0) then zX slot gen x1 x2 x3 true else (cG gen 1 7).bind fun x9=>zX slot gen x1 x2 x3 (!x9))
def NF(h:aD)(slot gen:Int):Option (aD×Bool):=
  (qV h).bind fun x10=>(pM h slot).bind fun x11=>F5 slot gen x11 x10.Bytes x10.Class
def tY(c slot:Int)(x1:aB)(x2:Int)(x3:Bool):Option (aB×Bool):=
  (if x3 then some (x1,false) else (idx x1.Own x2).bind fun x4=>(if decide (2≤(x4.aQ.length:Int)) then (idx x1.Global c).bind fun x5=>need (x5.aQ.length+([slot]).length≤1073741824) (some ((⟨x1.Global.set c.toNat (⟨x5.aQ++([slot])⟩:aN),x1.Own⟩:aB),true)) else need (x4.aQ.length+([slot]).length≤1073741824) (some ((⟨x1.Global,x1.Own.set x2.toNat (⟨x4.aQ++([slot])⟩:aN)⟩:aB),true))))
def TJ(l:aB)(w_ c slot:Int):Option (aB×Bool):=
  (g8 l).bind fun x1=>(FY w_ c).bind fun x2=>(jP l).bind fun x6=>(if !x6 then tY c slot x1 x2 true else (if decide (x2 < 0) then tY c slot x1 x2 true else (lL slot).bind fun x7=>(if !x7 then tY c slot x1 x2 true else (DE l slot).bind fun x8=>tY c slot x1 x2 x8)))
def IB(x3:Mem):Option Mem:=
  some x3
def IC(m:Mem)(w_ h:Int)(x2:Mem):Option Mem:=
  (if decide ((bC ((bC (Int.tdiv h 32))+1))≤6) then (mU m.aD (Int.tmod h 32)).bind fun x4=>(TJ m.aB w_ x4 (Int.tmod h 32)).bind fun x5=>IB (⟨x2.aD,x5.1⟩:Mem) else IB x2)
def KO(m:Mem)(w_ h:Int):Option Mem:=
  (NF m.aD (Int.tmod h 32) (bC ((bC (Int.tdiv h 32))+1))).bind fun x1=>(g8 m.aB).bind fun x6=>IC m w_ h (⟨x1.1,x6⟩:Mem)
def c9(s:Sub)(b:aA)(w_:Int)(x5:Bool):Option (Sub×aA):=
  (if x5 then (E4 b.aO w_ s.Row).bind fun x6=>(KO b.Mem w_ s.H).bind fun x7=>some (({s with Pc:=1,Out:=bC (s.Out+1)}:Sub),({b with Mem:=x7,aO:=x6.1}:aA)) else (bB s 1).bind fun x8=>some (x8,b))
def d9(s:Sub)(b:aA)(w_:Int)(x1 x3:Bool):Option (Sub×aA):=
  (if x3 then (idx b.m7 s.B).bind fun x4=>(if x4 == s.H then some (({s with Pc:=1,Row:=bC (s.Row+1)}:Sub),b) else (if (bC (s.B+1)) == 3 then some (({s with Pc:=3,B:=bC (s.B+1)}:Sub),b) else some (({s with B:=bC (s.B+1)}:Sub),b))) else (if s.Pc == 3 then (if x1 then (idx b.aO w_).bind fun x9=>(idx x9.Rows s.Row).bind fun x10=>(JO x10 s.E).bind fun x11=>c9 s b w_ x11 else c9 s b w_ false) else c9 s b w_ false))
def fA(s:Sub)(b:aA)(w_:Int)(x1:Bool):Option (Sub×aA):=
  (if s.Pc == 0 then some (({s with Pc:=1,E:=b.aC.aJ,Row:=0}:Sub),b) else (if s.Pc == 1 then (mY s b w_).bind fun x2=>some (x2.1,x2.2) else (if s.Pc == 2 then (fJ s.B).bind fun x12=>(if x12 then d9 s b w_ x1 x1 else d9 s b w_ x1 false) else d9 s b w_ x1 false)))
def mZ(s:Sub)(b:aA)(w_:Int):Option (Sub×aA):=
  (DG b.aO w_ s.Row).bind fun x13=>(if x13 then (idx b.aO w_).bind fun x14=>(idx x14.Rows s.Row).bind fun x15=>fA s b w_ (x15.Handle == s.H) else fA s b w_ false)
def vN(w_ e_:Int)(x1:aC)(x2:Bool):Option (aC×Bool):=
  (if x2 then some (x1,false) else (idx x1.cK w_).bind fun x3=>some ((⟨x1.aJ,x1.cK.set w_.toNat (⟨true,e_,false,0⟩:o8)⟩:aC),true))
def KP(c:aC)(w_ e_:Int):Option (aC×Bool):=
  (jX c).bind fun x1=>(mV c).bind fun x4=>(if !x4 then vN w_ e_ x1 true else (fJ w_).bind fun x5=>(if !x5 then vN w_ e_ x1 true else (cG e_ 0 c.aJ).bind fun x6=>vN w_ e_ x1 (!x6)))
def uX(s:Sub)(b:aA)(x1:Bool)(x2:Int)(x3:List o8):Option (Sub×aA):=
  (if !x1 then (bB s 1).bind fun x4=>some (x4,b) else some (({s with Pc:=2}:Sub),({b with aC:=(⟨x2,x3⟩:aC)}:aA)))
def tZ(s:Sub)(b:aA)(w_:Int):Option (Sub×aA):=
  (if s.Pc == 0 then some (({s with Pc:=1,E:=b.aC.aJ}:Sub),b) else (if s.Pc == 1 then (KP b.aC w_ s.E).bind fun x5=>uX s b x5.2 x5.1.aJ x5.1.cK else (if s.Pc == 2 then (if b.aC.aJ == s.E then (bB s 0).bind fun x6=>some (x6,b) else some (({s with Pc:=0}:Sub),b)) else (bB s 1).bind fun x7=>some (x7,b))))
def jS(s:Sub)(b:aA)(w_:Int):Option (Sub×aA):=
  (if s.cE then some (s,b) else (if s.Kind == 1 then (pT s b w_).bind fun x1=>some (x1.1,x1.2) else (if s.Kind == 2 then (nO s b w_).bind fun x2=>some (x2.1,x2.2) else (if s.Kind == 3 then (mX s b).bind fun x3=>some (x3.1,x3.2) else (if s.Kind == 4 then (mZ s b w_).bind fun x4=>some (x4.1,x4.2) else (if s.Kind == 5 then (tZ s b w_).bind fun x5=>some (x5.1,x5.2) else (bB s 1).bind fun x6=>some (x6,b)))))))
def cW(j:aZ)(pc:Int):Option aZ:=
  some ({j with Pc:=pc,Code:=0}:aZ)
def E5(slot c:Int):Option Int:=
  (sD slot c).bind fun x1=>(if decide (x1 < 0) then some (-1) else some (bC (x1+4)))
def KQ(slot c:Int):Option Span:=
  (E5 slot c).bind fun x1=>(if decide (x1 < 0) then some (⟨0,0⟩:Span) else (yJ c).bind fun x2=>some (⟨x1,bC (x1+x2)⟩:Span))
def uA(h:aD)(slot at_ width:Int):Option Int:=
  (mU h slot).bind fun x1=>(KQ slot x1).bind fun x2=>(cG at_ 0 (bC ((bC (x2.To - x2.aOW)) - width))).bind fun x3=>(if !x3 then some (-1) else some (bC (x2.aOW+at_)))
def zY(m:Mem)(h at_ width:Int)(x1:Bool):Option (Int×Int):=
  (if x1 then some (0,1) else (yL m h).bind fun x2=>(if !x2 then some (0,4) else (uA m.aD (Int.tmod h 32) at_ width).bind fun x3=>(if decide (x3 < 0) then some (0,2) else (k9 m.aD.Bytes x3 width).bind fun x4=>some (x4,0))))
def NG(m:Mem)(h at_ width:Int):Option (Int×Int):=
  (FX m).bind fun x5=>(if !x5 then zY m h at_ width true else (jR width).bind fun x6=>zY m h at_ width (!x6))
def L5(x4:Mem):Option (Mem×Int):=
  some (x4,0)
def E6(m:Mem)(h at_ width n:Int):Option (Mem×Int):=
  (zD m).bind fun x1=>(xT n width).bind fun x2=>(NG m h at_ width).bind fun x3=>(if x3.2 != 0 then some (x1,x3.2) else (if x2 == ([]) then some (x1,1) else (uA m.aD (Int.tmod h 32) at_ width).bind fun x5=>(sO x1.aD.Bytes x5 x2).bind fun x6=>L5 (⟨(⟨x6,x1.aD.Class⟩:aD),x1.aB⟩:Mem)))
def zZ(s:aE)(w_ x7:Int)(x8:Mem):Option aE:=
  (if x7 != 0 then (idx s.aV w_).bind fun x9=>(bH x9 x7).bind fun x10=>some ({s with aV:=s.aV.set w_.toNat x10}:aE) else (idx s.aV w_).bind fun x11=>(cW x11 2).bind fun x12=>some ({s with aA:=(⟨x8,s.aA.aC,s.aA.aO,s.aA.m7⟩:aA),aV:=s.aV.set w_.toNat x12}:aE))
def z6(w_:Int)(x16:aE):Option aE:=
  (idx x16.aV w_).bind fun x17=>(if x17.Old == 0 then (bH x17 0).bind fun x18=>some ({x16 with aV:=x16.aV.set w_.toNat x18}:aE) else (iZ 2 x17.Old).bind fun x19=>(cW ({x17 with Sub:=x19}:aZ) 3).bind fun x20=>some ({x16 with aV:=x16.aV.set w_.toNat x20}:aE))
def z7(s:aE)(w_:Int)(x1:aZ)(x14:Int)(x15:List Int):Option aE:=
  (idx (s.aV.set w_.toNat ({x1 with Old:=x14}:aZ)) w_).bind fun x21=>(cT ({s with Cells:=x15,aV:=s.aV.set w_.toNat ({x1 with Old:=x14}:aZ)}:aE) 2 w_ x21.H x21.Op.cV 0).bind fun x22=>z6 w_ x22
def z8(s:aE)(w_:Int):Option aE:=
  (idx s.aV w_).bind fun x1=>(if x1.Pc == 0 then (jS x1.Sub s.aA w_).bind fun x2=>(if !x2.1.cE then some ({s with aA:=x2.2,aV:=s.aV.set w_.toNat ({x1 with Sub:=x2.1}:aZ)}:aE) else (if x2.1.Code != 0 then (bH ({x1 with Sub:=x2.1}:aZ) x2.1.Code).bind fun x3=>some ({s with aA:=x2.2,aV:=s.aV.set w_.toNat x3}:aE) else (gJ x2.1.Out).bind fun x4=>(if !x4 then (bH ({x1 with Sub:=x2.1}:aZ) 1).bind fun x5=>some ({s with aA:=x2.2,aV:=s.aV.set w_.toNat x5}:aE) else (cW ({x1 with Sub:=x2.1,H:=x2.1.Out}:aZ) 1).bind fun x6=>some ({s with aA:=x2.2,aV:=s.aV.set w_.toNat x6}:aE)))) else (if x1.Pc == 1 then (E6 s.aA.Mem x1.H 0 4 x1.Op.cV).bind fun x13=>zZ s w_ x13.2 x13.1 else (if x1.Pc == 2 then (idx s.Cells x1.Op.Cell).bind fun x14=>(idx (s.aV.set w_.toNat ({x1 with Old:=x14}:aZ)) w_).bind fun x23=>(idx s.Cells x23.Op.Cell).bind fun x24=>z7 s w_ x1 x14 (s.Cells.set x23.Op.Cell.toNat x23.H) else (if x1.Pc == 3 then (jS x1.Sub s.aA w_).bind fun x25=>(if x25.1.cE then (bH ({x1 with Sub:=x25.1}:aZ) x25.1.Code).bind fun x26=>some ({s with aA:=x25.2,aV:=s.aV.set w_.toNat x26}:aE) else some ({s with aA:=x25.2,aV:=s.aV.set w_.toNat ({x1 with Sub:=x25.1}:aZ)}:aE)) else (bH x1 1).bind fun x27=>some ({s with aV:=s.aV.set w_.toNat x27}:aE)))))
def sP(s:aE)(w_:Int):Option aE:=
  (idx s.aV w_).bind fun x1=>(idx s.Cells x1.Op.Cell).bind fun x2=>(cT ({s with aV:=s.aV.set w_.toNat ({x1 with H:=x2}:aZ)}:aE) 3 w_ x2 0 0).bind fun x3=>some x3
def qJ(b:aA)(h at_ width:Int)(x1:Bool):Option (Int×Bool):=
  (if x1 then some (0,false) else (uA b.Mem.aD (Int.tmod h 32) at_ width).bind fun x2=>(if decide (x2 < 0) then some (0,false) else (k9 b.Mem.aD.Bytes x2 width).bind fun x3=>some (x3,true)))
def E7(b:aA)(h at_ width:Int):Option (Int×Bool):=
  (gJ h).bind fun x4=>(if !x4 then qJ b h at_ width true else (pM b.Mem.aD (Int.tmod h 32)).bind fun x5=>(if decide (x5 < 0) then qJ b h at_ width true else (jR width).bind fun x6=>qJ b h at_ width (!x6)))
def kP(s:aE)(w_:Int):Option aE:=
  (idx s.aV w_).bind fun x1=>(E7 s.aA x1.H 0 4).bind fun x2=>some ({s with aV:=s.aV.set w_.toNat ({x1 with cV:=x2.1}:aZ)}:aE)
def jH(x1:Bool):Option Bool:=
  some x1
def pU(p:o8):Option Bool:=
  (if p.On then jH (!p.dI) else jH false)
def kV(s:aE)(w_ pc:Int):Option aE:=
  (idx s.aV w_).bind fun x1=>(cW x1 pc).bind fun x2=>(idx s.aA.aC.cK w_).bind fun x3=>(pU x3).bind fun x4=>(if !x4 then some ({s with aV:=s.aV.set w_.toNat ({x2 with cV:=0,Code:=6}:aZ)}:aE) else some ({s with aV:=s.aV.set w_.toNat x2}:aE))
def vO(w_:Int)(x1:aC)(x2:Bool):Option (aC×Bool):=
  (if x2 then some (x1,false) else (idx x1.cK w_).bind fun x3=>some ((⟨x1.aJ,x1.cK.set w_.toNat (⟨false,0,false,0⟩:o8)⟩:aC),true))
def KR(c:aC)(w_:Int):Option (aC×Bool):=
  (jX c).bind fun x1=>(mV c).bind fun x4=>(if !x4 then vO w_ x1 true else (fJ w_).bind fun x5=>(if !x5 then vO w_ x1 true else (idx c.cK w_).bind fun x6=>vO w_ x1 (!x6.On)))
def qK(b:aA)(w_:Int):Option (Bool×aA):=
  (KR b.aC w_).bind fun x1=>some (x1.2,({b with aC:=x1.1}:aA))
def z9(s:aE)(w_:Int):Option aE:=
  (idx s.aV w_).bind fun x1=>(if x1.Pc == 0 then (jS x1.Sub s.aA w_).bind fun x2=>(if x2.1.cE then (cW ({x1 with Sub:=x2.1}:aZ) 1).bind fun x3=>some ({s with aA:=x2.2,aV:=s.aV.set w_.toNat x3}:aE) else some ({s with aA:=x2.2,aV:=s.aV.set w_.toNat ({x1 with Sub:=x2.1}:aZ)}:aE)) else (if x1.Pc == 1 then (sP s w_).bind fun x4=>(idx x4.aV w_).bind fun x5=>(cW x5 2).bind fun x6=>(if x6.H == 0 then some ({x4 with aV:=x4.aV.set w_.toNat ({x6 with Pc:=4,Code:=8}:aZ)}:aE) else some ({x4 with aV:=x4.aV.set w_.toNat x6}:aE)) else (if x1.Pc == 2 then (kP s w_).bind fun x7=>(idx x7.aV w_).bind fun x8=>(cW x8 3).bind fun x9=>some ({x7 with aV:=x7.aV.set w_.toNat x9}:aE) else (if x1.Pc == 3 then (kV s w_ 4).bind fun x10=>some x10 else (if x1.Pc == 4 then (qK s.aA w_).bind fun x11=>(bH x1 x1.Code).bind fun x12=>some ({s with aA:=x11.2,aV:=s.aV.set w_.toNat x12}:aE) else (bH x1 1).bind fun x13=>some ({s with aV:=s.aV.set w_.toNat x13}:aE))))))
def qL(w_ h:Int)(x1:(List Int))(x2:Bool):Option ((List Int)×Bool):=
  (if x2 then some (x1,false) else (idx x1 w_).bind fun x3=>some (x1.set w_.toNat h,true))
def E8(z:List Int)(w_ h:Int):Option ((List Int)×Bool):=
  (e9 z).bind fun x1=>(BR z).bind fun x4=>(if !x4 then qL w_ h x1 true else (fJ w_).bind fun x5=>(if !x5 then qL w_ h x1 true else (gJ h).bind fun x6=>qL w_ h x1 (!x6)))
def vP(w_:Int)(x1:(List Int))(x2:Bool):Option ((List Int)×Bool):=
  (if x2 then some (x1,false) else (idx x1 w_).bind fun x3=>some (x1.set w_.toNat 0,true))
def KS(z:List Int)(w_:Int):Option ((List Int)×Bool):=
  (e9 z).bind fun x1=>(BR z).bind fun x4=>(if !x4 then vP w_ x1 true else (fJ w_).bind fun x5=>(if !x5 then vP w_ x1 true else (idx z w_).bind fun x6=>vP w_ x1 (x6 == 0)))
def AA(s:aE)(w_:Int)(x6:List Int):Option aE:=
  (idx s.aV w_).bind fun x7=>(cW x7 2).bind fun x8=>some ({s with aA:=(⟨s.aA.Mem,s.aA.aC,s.aA.aO,x6⟩:aA),aV:=s.aV.set w_.toNat x8}:aE)
def AB(s:aE)(w_:Int)(x10:Bool):Option aE:=
  (if x10 then (idx s.aV w_).bind fun x11=>(cW x11 0).bind fun x12=>some ({s with aV:=s.aV.set w_.toNat x12}:aE) else (idx s.aV w_).bind fun x13=>(cT s 3 w_ x13.H 0 0).bind fun x14=>(idx x14.aV w_).bind fun x15=>(cW x15 3).bind fun x16=>some ({x14 with aV:=x14.aV.set w_.toNat x16}:aE))
def AD(s:aE)(w_:Int):Option aE:=
  (idx s.aV w_).bind fun x1=>(if x1.Pc == 0 then (idx s.Cells x1.Op.Cell).bind fun x2=>(cW ({x1 with H:=x2}:aZ) 1).bind fun x3=>(if x3.H == 0 then (cT ({s with aV:=s.aV.set w_.toNat x3}:aE) 3 w_ 0 0 0).bind fun x4=>(idx x4.aV w_).bind fun x5=>some ({x4 with aV:=x4.aV.set w_.toNat ({x5 with Pc:=4,Code:=8}:aZ)}:aE) else some ({s with aV:=s.aV.set w_.toNat x3}:aE)) else (if x1.Pc == 1 then (E8 s.aA.m7 w_ x1.H).bind fun x9=>AA s w_ x9.1 else (if x1.Pc == 2 then (idx s.Cells x1.Op.Cell).bind fun x17=>AB s w_ (x17 != x1.H) else (if x1.Pc == 3 then (kP s w_).bind fun x18=>(idx x18.aV w_).bind fun x19=>(cW x19 4).bind fun x20=>some ({x18 with aV:=x18.aV.set w_.toNat x20}:aE) else (if x1.Pc == 4 then (KS s.aA.m7 w_).bind fun x21=>(bH x1 x1.Code).bind fun x22=>some ({s with aA:=(⟨s.aA.Mem,s.aA.aC,s.aA.aO,x21.1⟩:aA),aV:=s.aV.set w_.toNat x22}:aE) else (bH x1 1).bind fun x23=>some ({s with aV:=s.aV.set w_.toNat x23}:aE))))))
def pW(s:aE)(w_:Int)(x5:Bool):Option aE:=
  (if x5 then (idx s.aV w_).bind fun x6=>(bH x6 6).bind fun x7=>some ({s with aV:=s.aV.set w_.toNat x7}:aE) else (idx s.aV w_).bind fun x8=>(if x8.Pc == 0 then (sP s w_).bind fun x9=>(idx x9.aV w_).bind fun x10=>(cW x10 1).bind fun x11=>(if x11.H == 0 then (bH x11 8).bind fun x12=>some ({x9 with aV:=x9.aV.set w_.toNat x12}:aE) else some ({x9 with aV:=x9.aV.set w_.toNat x11}:aE)) else (if x8.Pc == 1 then (kP s w_).bind fun x13=>(idx x13.aV w_).bind fun x14=>(cW x14 2).bind fun x15=>some ({x13 with aV:=x13.aV.set w_.toNat x15}:aE) else (if x8.Pc == 2 then (kV s w_ 9).bind fun x16=>some x16 else (bH x8 1).bind fun x17=>some ({s with aV:=s.aV.set w_.toNat x17}:aE)))))
def pX(s:aE)(w_:Int)(x1:o8)(x2:Bool):Option aE:=
  (if x2 then (idx s.aV w_).bind fun x3=>(bH x3 5).bind fun x4=>some ({s with aV:=s.aV.set w_.toNat x4}:aE) else (idx s.aV w_).bind fun x18=>(if x18.Pc == 0 then pW s w_ x1.dI else pW s w_ false))
def xV(s:aE)(w_:Int)(x1:o8):Option aE:=
  (idx s.aV w_).bind fun x19=>(if x19.Pc == 0 then pX s w_ x1 (!x1.On) else pX s w_ x1 false)
def wW(s:aE)(w_:Int):Option aE:=
  (idx s.aV w_).bind fun x20=>(idx s.aA.aC.cK w_).bind fun x21=>xV s w_ x21
def nP(w_ x3:Int)(x4:aE):Option aE:=
  (idx x4.aV w_).bind fun x5=>(bH x5 x3).bind fun x6=>some ({x4 with aV:=x4.aV.set w_.toNat x6}:aE)
def nQ(s:aE)(w_:Int)(x17:Bool):Option aE:=
  (if x17 then (idx s.aV w_).bind fun x18=>(jS x18.Sub s.aA w_).bind fun x19=>(if x19.1.cE then (bH ({x18 with Sub:=x19.1,cV:=x19.1.Out}:aZ) x19.1.Code).bind fun x20=>some ({s with aA:=x19.2,aV:=s.aV.set w_.toNat x20}:aE) else some ({s with aA:=x19.2,aV:=s.aV.set w_.toNat ({x18 with Sub:=x19.1}:aZ)}:aE)) else (idx s.aV w_).bind fun x21=>(bH x21 1).bind fun x22=>some ({s with aV:=s.aV.set w_.toNat x22}:aE))
def nR(s:aE)(w_:Int)(x12:Bool):Option aE:=
  (if x12 then (idx s.aV w_).bind fun x13=>(jS x13.Sub s.aA w_).bind fun x14=>(if x14.1.cE then (iZ 4 0).bind fun x15=>(cW ({x13 with Sub:=x15}:aZ) 1).bind fun x16=>some ({s with aA:=x14.2,aV:=s.aV.set w_.toNat x16}:aE) else some ({s with aA:=x14.2,aV:=s.aV.set w_.toNat ({x13 with Sub:=x14.1}:aZ)}:aE)) else (idx s.aV w_).bind fun x23=>(if x23.Op.Kind == 4 then nQ s w_ (x23.Pc == 1) else nQ s w_ false))
def nS(s:aE)(w_:Int)(x8:Bool):Option aE:=
  (if x8 then (idx s.aV w_).bind fun x9=>(jS x9.Sub s.aA w_).bind fun x10=>(if x10.1.cE then (bH ({x9 with Sub:=x10.1}:aZ) x10.1.Code).bind fun x11=>some ({s with aA:=x10.2,aV:=s.aV.set w_.toNat x11}:aE) else some ({s with aA:=x10.2,aV:=s.aV.set w_.toNat ({x9 with Sub:=x10.1}:aZ)}:aE)) else (idx s.aV w_).bind fun x24=>(if x24.Op.Kind == 4 then nR s w_ (x24.Pc == 0) else nR s w_ false))
def nT(s:aE)(w_:Int)(x2:Bool):Option aE:=
  (if x2 then (qK s.aA w_).bind fun x7=>(if !x7.1 then nP w_ 5 ({s with aA:=x7.2}:aE) else nP w_ 0 ({s with aA:=x7.2}:aE)) else (idx s.aV w_).bind fun x25=>(if x25.Op.Kind == 5 then nS s w_ (x25.Pc == 0) else nS s w_ false))
def uB(s:aE)(w_:Int):Option aE:=
  (idx s.aV w_).bind fun x1=>(if x1.Op.Kind == 6 then nT s w_ (x1.Pc == 0) else nT s w_ false)
def mH(s:aE)(w_:Int):Option aE:=
  (idx s.aV w_).bind fun x1=>(if !x1.dE then (tV s w_).bind fun x2=>some x2 else (if x1.Pc == 9 then (cT s 4 w_ x1.H x1.cV x1.Code).bind fun x3=>(idx x3.aV w_).bind fun x4=>some ({x3 with aV:=x3.aV.set w_.toNat (⟨false,(⟨0,0,0,0⟩:dO),0,0,(⟨0,0,0,0,0,0,0,0,0,false⟩:Sub),0,0,0,0⟩:aZ)}:aE) else (if x1.Op.Kind == 1 then (z8 s w_).bind fun x5=>some x5 else (if x1.Op.Kind == 2 then (z9 s w_).bind fun x6=>some x6 else (if x1.Op.Kind == 3 then (AD s w_).bind fun x7=>some x7 else (if x1.Op.Kind == 7 then (wW s w_).bind fun x8=>some x8 else (uB s w_).bind fun x9=>some x9))))))
def YE(x7:aE):Option aE:=
  some x7
def oL(x5:Int)(x8:Bool)(x9:aE):Option (Step (Int×aE) aE):=
  (if x8 then (mH x9 (Int.tmod x5 3)).bind fun x10=>some (.next (bC (x5+1),x10)) else some (.stop (x9)))
def sQ:(Int×aE)→Option (Step (Int×aE) aE)
  | (x5,x6)=>(if decide (x5 < 3000) then (PA x6).bind fun x11=>oL x5 (!x11) x6 else oL x5 false x6)
def YF:aE→Option aE
  | x7=>YE x7
def HN(s:aE):Option aE:=
  (zF s).bind fun x1=>(zP s).bind fun x2=>(if !x2 then some x1 else (loop (sQ) (0,x1)).bind (YF))
def L6(x y:Int):Option (Int×Int):=
  some (IntKind.u64.wrap ((IntKind.u64.wrap ((IntKind.u64.wrap ((rY .u64 x 32) * (rY .u64 y 32)))+(rY .u64 (IntKind.u64.wrap ((IntKind.u64.wrap ((rY .u64 x 32) * (f9 .and .u64 y 4294967295)))+(rY .u64 (IntKind.u64.wrap ((f9 .and .u64 x 4294967295) * (f9 .and .u64 y 4294967295))) 32))) 32)))+(rY .u64 (IntKind.u64.wrap ((f9 .and .u64 (IntKind.u64.wrap ((IntKind.u64.wrap ((rY .u64 x 32) * (f9 .and .u64 y 4294967295)))+(rY .u64 (IntKind.u64.wrap ((f9 .and .u64 x 4294967295) * (f9 .and .u64 y 4294967295))) 32))) 4294967295)+(IntKind.u64.wrap ((f9 .and .u64 x 4294967295) * (rY .u64 y 32))))) 32)),IntKind.u64.wrap (x * y))
def ID(x y:Int):Option (Int×Int):=
  (L6 x y).bind fun x1=>some (x1.1,x1.2)
def NH(x7:List Int):Option (List Int):=
  some x7
def jZ:((List Int)×Int)→Option (Step ((List Int)×Int) (List Int))
  | (x5,x6)=>(if decide (x6 < (x5.length:Int)) then need (0≤(x6:Int)∧(x6:Int)≤(x5.length:Int)) (need (0≤(x6:Int)∧(x6:Int)≤(x5.length:Int)) (some (.next (dD x5 x6.toNat ((x5.take x6.toNat).drop 0),bC (x6+((min ((x5.take x6.toNat).drop 0).length (x5.length - x6.toNat):Nat):Int)))))) else some (.stop (x5)))
def NI:(List Int)→Option (List Int)
  | x7=>NH x7
def m3(x:List Int)(x1:Int×Int)(x2:Bool):Option (List Int):=
  (if x2 then none else need (0≤(IntKind.i64.wrap x1.2:Int)∧(IntKind.i64.wrap x1.2:Int)≤4294967296) ((loop (jZ) (dD (List.replicate ((IntKind.i64.wrap x1.2).toNat) 0) 0 x,((min x.length ((List.replicate ((IntKind.i64.wrap x1.2).toNat) 0:List Int).length - 0):Nat):Int))).bind (NI)))
def rO(x:List Int)(count:Int):Option (List Int):=
  (if decide (count < 0) then none else (ID (IntKind.u64.wrap (x.length:Int)) (IntKind.u64.wrap count)).bind fun x1=>(if decide (0 < x1.1) then m3 x x1 true else m3 x x1 (decide (9223372036854775807 < x1.2))))
def L7(x1:List Int):Option aD:=
  some (⟨List.replicate ((384:Int).toNat) 0,x1⟩:aD)
def E9:Option aD:=
  need (0≤(384:Int)∧(384:Int)≤4294967296)<|(rO ([(-1)]) 6).bind fun x2=>L7 x2
def JQ:Option aB:=
  some (⟨List.replicate ((3:Int).toNat) (⟨[]⟩:aN),List.replicate ((9:Int).toNat) (⟨[]⟩:aN)⟩:aB)
def IE:Option aB:=
  need (0≤(3:Int)∧(3:Int)≤4294967296)<|need (0≤(9:Int)∧(9:Int)≤4294967296)<|JQ
def NJ:Option Mem:=
  (E9).bind fun x1=>(IE).bind fun x2=>some (⟨x1,x2⟩:Mem)
def IF:Option aC:=
  need (0≤(3:Int)∧(3:Int)≤4294967296) (some (⟨0,List.replicate ((3:Int).toNat) (⟨false,0,false,0⟩:o8)⟩:aC))
def IG:Option (List aY):=
  need (0≤(3:Int)∧(3:Int)≤4294967296) (some (List.replicate ((3:Int).toNat) (⟨[]⟩:aY)))
def NM:Option (List Int):=
  need (0≤(3:Int)∧(3:Int)≤4294967296) (some (List.replicate ((3:Int).toNat) 0))
def FA:Option aA:=
  (NJ).bind fun x1=>(IF).bind fun x2=>(IG).bind fun x3=>(NM).bind fun x4=>some (⟨x1,x2,x3,x4⟩:aA)
def JS(x2:aE):Option aE:=
  some ({x2 with Log:=[]}:aE)
def CU(todo:List Queue):Option aE:=
  (DF todo).bind fun x1=>(if !x1 then some (⟨(⟨(⟨(⟨[],[]⟩:aD),(⟨[],[]⟩:aB)⟩:Mem),(⟨0,[]⟩:aC),[],[]⟩:aA),[],[],[],[],0⟩:aE) else (FA).bind fun x3=>need (0≤(2:Int)∧(2:Int)≤4294967296)<|need (0≤(3:Int)∧(3:Int)≤4294967296)<|(vG todo).bind fun x4=>JS (⟨x3,List.replicate ((2:Int).toNat) 0,List.replicate ((3:Int).toNat) (⟨false,(⟨0,0,0,0⟩:dO),0,0,(⟨0,0,0,0,0,0,0,0,0,false⟩:Sub),0,0,0,0⟩:aZ),x4,[],0⟩:aE))
def R1(x6:aE):Option aE:=
  some x6
def rP(x4:Int)(x7:aE):Option (Step (Int×aE) aE):=
  some (.next (bC (x4+1),x7))
def HO(x:DY):(Int×aE)→Option (Step (Int×aE) aE)
  | (x4,x5)=>(if decide (x4 < (((x.rR.take ((if 400 < (x.rR.length:Int) then 400 else (x.rR.length:Int)).toNat)).drop 0).length:Int)) then (idx ((x.rR.take ((if 400 < (x.rR.length:Int) then 400 else (x.rR.length:Int)).toNat)).drop 0) x4).bind fun x8=>(fJ x8).bind fun x9=>(if x9 then (mH x5 x8).bind fun x10=>rP x4 x10 else rP x4 x5) else some (.stop (x5)))
def R2:aE→Option aE
  | x6=>R1 x6
def AE(x:DY):Option aE:=
  (CU x.cL).bind fun x1=>(if (x1.aV.length:Int) == 0 then some x1 else need (0≤(if 400 < (x.rR.length:Int) then 400 else (x.rR.length:Int):Int)∧(if 400 < (x.rR.length:Int) then 400 else (x.rR.length:Int):Int)≤(x.rR.length:Int)) ((loop (HO x) (0,x1)).bind (R2)))
def QX(cell:Int)(e:Ev):Bool:=decide (e.Kind=2) && decide (e.Cell=cell)
def sS(l:List Ev)(i cell:Int):Option Ev:=
  some (((l.take (max (min i (l.length:Int)) 0).toNat).reverse.find? (QX cell)).getD ⟨0,0,0,0,0,0,0⟩)
def YG(x5:Ev):Option Ev:=
  some x5
def AF(x3:Int)(x7:Ev):Option (Step (Int×Ev) Ev):=
  some (.next (bC (x3+1),x7))
def AG(l:List Ev)(x3:Int)(x4:Ev)(x8:Bool):Option (Step (Int×Ev) Ev):=
  (if x8 then (idx l x3).bind fun x9=>AF x3 x9 else AF x3 x4)
def sT(l:List Ev)(cell x3:Int)(x4:Ev)(x6:Bool):Option (Step (Int×Ev) Ev):=
  (if x6 then (idx l x3).bind fun x10=>(if x10.Kind == 2 then (idx l x3).bind fun x11=>AG l x3 x4 (x11.Cell == cell) else AG l x3 x4 false) else some (.stop (x4)))
def AH(l:List Ev)(i cell:Int):(Int×Ev)→Option (Step (Int×Ev) Ev)
  | (x3,x4)=>(if decide (x3 < i) then sT l cell x3 x4 (decide (x3 < (l.length:Int))) else sT l cell x3 x4 false)
def NN:Ev→Option Ev
  | x5=>YG x5
def DI(l:List Ev)(i cell:Int):Option Ev:=
  (loop (AH l i cell) (0,(⟨0,0,0,0,0,0,0⟩:Ev))).bind (NN)
def U6(x5:Int):Option Int:=
  some x5
def wX(x4 x6:Int):Option (Step (Int×Int) Int):=
  some (.next (x6,bC (x4+1)))
def wY(x3 x4:Int)(x7:Bool):Option (Step (Int×Int) Int):=
  (if x7 then wX x4 x4 else wX x4 x3)
def wZ(l:List Ev)(i serial:Int):(Int×Int)→Option (Step (Int×Int) Int)
  | (x3,x4)=>(if decide (x4 < i) then (idx l x4).bind fun x8=>(if x8.Kind == 3 then (idx l x4).bind fun x9=>wY x3 x4 (x9.aG == serial) else wY x3 x4 false) else some (.stop (x3)))
def L8:Int→Option Int
  | x5=>U6 x5
def FB(l:List Ev)(i serial:Int):Option Int:=
  (loop (wZ l i serial) ((-1),0)).bind (L8)
def U7:Option Bool:=
  some true
def kQ(x2:Int):Option (Step Int (Out Unit Bool)):=
  some (.next (bC (x2+1)))
def qM(x2:Int)(x9:Bool):Option (Step Int (Out Unit Bool)):=
  (if x9 then some (.stop (Out.ret false)) else kQ x2)
def xA(x2:Int)(x12:Bool):Option (Step Int (Out Unit Bool)):=
  (if x12 then some (.stop (Out.ret false)) else kQ x2)
def mI(l:List Ev)(x2 x4:Int)(x5:Bool):Option (Step Int (Out Unit Bool)):=
  (if x5 then kQ x2 else (idx l x4).bind fun x6=>(DI l x4 x6.Cell).bind fun x7=>(idx l x2).bind fun x8=>(if x8.Code == 0 then (if x7.Handle == 0 then qM x2 true else (idx l x4).bind fun x10=>(if x7.Handle != x10.Handle then qM x2 true else (idx l x2).bind fun x11=>qM x2 (x7.cV != x11.cV))) else (if x8.Code == 8 then (if x7.Handle != 0 then xA x2 true else (idx l x4).bind fun x13=>xA x2 (x13.Handle != 0)) else kQ x2)))
def xB(l:List Ev):Int→Option (Step Int (Out Unit Bool))
  | x2=>(if decide (x2 < (l.length:Int)) then (idx l x2).bind fun x3=>(FB l x2 x3.aG).bind fun x4=>(idx l x2).bind fun x14=>(if x14.Kind != 4 then mI l x2 x4 true else mI l x2 x4 (decide (x4 < 0))) else some (.stop (Out.brk ())))
def L9:(Out Unit Bool)→Option Bool
  | .brk ()=>U7
  | .ret r=>some r
def FC(l:List Ev):Option Bool:=
  (loop (xB l) 0).bind (L9)
def aAZ(x5:Int):Option Int:=
  some x5
def CV(x4 x6:Int):Option (Step (Int×Int) Int):=
  some (.next (x6,bC (x4+1)))
def vQ(l:List Ev)(kind:Int):(Int×Int)→Option (Step (Int×Int) Int)
  | (x3,x4)=>(if decide (x4 < (l.length:Int)) then (idx l x4).bind fun x7=>(if x7.Kind == kind then CV x4 (bC (x3+1)) else CV x4 x3) else some (.stop (x3)))
def aA0:Int→Option Int
  | x5=>aAZ x5
def KT(l:List Ev)(kind:Int):Option Int:=
  (loop (vQ l kind) (0,0)).bind (aA0)
def aA1(x5:Int):Option Int:=
  some x5
def CX(x4 x6:Int):Option (Step (Int×Int) Int):=
  some (.next (x6,bC (x4+1)))
def vR(l:List Ev)(kind:Int):(Int×Int)→Option (Step (Int×Int) Int)
  | (x3,x4)=>(if decide (x4 < (l.length:Int)) then (idx l x4).bind fun x7=>(if x7.Kind == kind then CX x4 (bC (x3+1)) else CX x4 x3) else some (.stop (x3)))
def aA2:Int→Option Int
  | x5=>aA1 x5
def KU(l:List Ev)(kind:Int):Option Int:=
  (loop (vR l kind) (0,0)).bind (aA2)
def kR(x11:Bool):Option Bool:=
  some x11
def MA(x5 x10:aE):Option Bool:=
  (FC x5.Log).bind fun x12=>(if x12 then (if (x10.Cells.length:Int) == 2 then (idx x10.Cells 0).bind fun x13=>(sS x5.Log (x5.Log.length:Int) 0).bind fun x14=>(if x13 == x14.Handle then (idx x10.Cells 1).bind fun x15=>(sS x5.Log (x5.Log.length:Int) 1).bind fun x16=>(if x15 == x16.Handle then (KT x5.Log 2).bind fun x17=>(KU x5.Log 2).bind fun x18=>kR (x17 == x18) else kR false) else kR false) else kR false) else kR false)
def gK(x5:aE)(x8:Int)(x39:Bool)(x40:aE):Option (Step (Int×aE) (Out aE Bool)):=
  (if x39 then some (.stop (Out.ret false)) else (idx x5.Log x8).bind fun x41=>(sS x5.Log x8 x41.Cell).bind fun x42=>(idx x5.Log x8).bind fun x43=>(DI x5.Log x8 x43.Cell).bind fun x44=>(if !(decide (x42=x44)) then some (.stop (Out.ret false)) else some (.next (bC (x8+1),({x40 with Log:=x5.Log}:aE)))))
def qN(x5:aE):(Int×aE)→Option (Step (Int×aE) (Out aE Bool))
  | (x8,x9)=>(if decide (x8 < (x5.Log.length:Int)) then (idx x5.Log x8).bind fun x45=>(if x45.Kind == 2 then (if x45.Handle == 0 then gK x5 x8 true ({x9 with Log:=x5.Log}:aE) else (if x45.Kind == 4 then (if x45.Code != 0 then gK x5 x8 (x45.cV != 0) ({x9 with Log:=x5.Log}:aE) else gK x5 x8 false ({x9 with Log:=x5.Log}:aE)) else gK x5 x8 false ({x9 with Log:=x5.Log}:aE))) else (if x45.Kind == 4 then (if x45.Code != 0 then gK x5 x8 (x45.cV != 0) ({x9 with Log:=x5.Log}:aE) else gK x5 x8 false ({x9 with Log:=x5.Log}:aE)) else gK x5 x8 false ({x9 with Log:=x5.Log}:aE))) else some (.stop (Out.brk ({x9 with Log:=x5.Log}:aE))))
def MB(x5:aE):(Out aE Bool)→Option Bool
  | .brk x10=>MA x5 x10
  | .ret r=>some r
def KV(code:List UInt8):Option Bool:=
  (X9 code).bind fun x1=>(if x1 then some true else (pK code).bind fun x2=>(KL x2).bind fun x3=>(if !x3 then some true else (AE x2).bind fun x4=>(HN x4).bind fun x5=>(loop (qN x5) (0,x5)).bind (MB x5)))
def MC(b:List Int):Option Bool:=
  some (decide ((b.length:Int)≤1000))
def mJ(b:List Int):Int→Option (Step Int (Out Unit Bool))
  | x2=>(if decide (x2 < (b.length:Int)) then (idx b x2).bind fun x3=>(bR x3 0 255).bind fun x4=>(if !x4 then some (.stop (Out.ret false)) else some (.next (bC (x2+1)))) else some (.stop (Out.brk ())))
def D4(b:List Int):(Out Unit Bool)→Option Bool
  | .brk ()=>MC b
  | .ret r=>some r
def KW(b:List Int):Option Bool:=
  (loop (mJ b) 0).bind (D4 b)
def U8:Option Bool:=
  some true
def mK(h:aD):Int→Option (Step Int (Out Unit Bool))
  | x3=>(if decide (x3 < 6) then (idx h.Class x3).bind fun x4=>(bR x4 (-1) 2).bind fun x5=>(if !x5 then some (.stop (Out.ret false)) else some (.next (bC (x3+1)))) else some (.stop (Out.brk ())))
def U9:(Out Unit Bool)→Option Bool
  | .brk ()=>U8
  | .ret r=>some r
def xC(h:aD)(x1:Bool):Option Bool:=
  (if x1 then some false else (loop (mK h) 0).bind (U9))
def KX(h:aD):Option Bool:=
  (if (h.Bytes.length:Int) != 384 then xC h true else (if (h.Class.length:Int) != 6 then xC h true else (KW h.Bytes).bind fun x6=>xC h (!x6)))
def YH(x5:Int):Option Int:=
  some x5
def sU(b:List Int)(at_ width:Int):(Int×Int)→Option (Step (Int×Int) Int)
  | (x3,x4)=>(if decide (x4 < width) then (idx b (bC (at_+x4))).bind fun x6=>some (.next (bC ((bC (x3 * 256))+x6),bC (x4+1))) else some (.stop (x3)))
def YI:Int→Option Int
  | x5=>YH x5
def yO(b:List Int)(at_ width:Int):Option Int:=
  (loop (sU b at_ width) (0,0)).bind (YI)
def pI(c:Int):Option Int:=
  (if c == 0 then some 8 else (if c == 1 then some 16 else (if c == 2 then some 40 else some 0)))
def CY(c:Int):Option Int:=
  (bR c 0 2).bind fun x1=>(if !x1 then some 0 else (pI c).bind fun x2=>some (bC (4+x2)))
def m4(c:Int):Option Int:=
  (bR c 0 2).bind fun x1=>(if !x1 then some 0 else (CY c).bind fun x2=>need (x2≠0) (some (bC (Int.tdiv 56 x2))))
def DJ(slot:Int):Option Int:=
  (bR slot 0 23).bind fun x1=>(if !x1 then some (-1) else some (bC (Int.tdiv slot 4)))
def AI(slot:Int):Option Int:=
  (bR slot 0 23).bind fun x1=>(if !x1 then some (-1) else some (Int.tmod slot 4))
def IH(slot c:Int)(x1:Bool):Option Int:=
  (if x1 then some (-1) else (DJ slot).bind fun x2=>(AI slot).bind fun x3=>(CY c).bind fun x4=>some (bC ((bC ((bC (x2 * 64))+8))+(bC (x3 * x4)))))
def xW(slot c:Int):Option Int:=
  (DJ slot).bind fun x5=>(if decide (x5 < 0) then IH slot c true else (AI slot).bind fun x6=>(m4 c).bind fun x7=>(bR x6 0 (bC (x7 - 1))).bind fun x8=>IH slot c (!x8))
def AJ(page index:Int)(x1:Bool):Option Int:=
  (if x1 then some (-1) else some (bC ((bC (page * 4))+index)))
def sV(page index:Int):Option Int:=
  (bR page 0 5).bind fun x2=>(if !x2 then AJ page index true else (bR index 0 3).bind fun x3=>AJ page index (!x3))
def YJ:Option Bool:=
  some true
def oN(h:aD)(p:Int):Int→Option (Step Int (Out Unit Bool))
  | x3=>(if decide (x3 < (bC ((bC (p * 64))+64))) then (idx h.Bytes x3).bind fun x4=>(if x4 != 0 then some (.stop (Out.ret false)) else some (.next (bC (x3+1)))) else some (.stop (Out.brk ())))
def YK:(Out Unit Bool)→Option Bool
  | .brk ()=>YJ
  | .ret r=>some r
def YL:Option Bool:=
  some true
def oO(h:aD)(p x1:Int):Int→Option (Step Int (Out Unit Bool))
  | x9=>(m4 x1).bind fun x10=>(if decide (x9 < x10) then (sV p x9).bind fun x11=>(xW x11 x1).bind fun x12=>(yO h.Bytes x12 4).bind fun x13=>(bR x13 1 7).bind fun x14=>(if !x14 then some (.stop (Out.ret false)) else some (.next (bC (x9+1)))) else some (.stop (Out.brk ())))
def YM:(Out Unit Bool)→Option Bool
  | .brk ()=>YL
  | .ret r=>some r
def NO(h:aD)(p x1:Int):Option Bool:=
  (loop (oO h p x1) 0).bind (YM)
def oP(h:aD)(p:Int):Int→Option (Step Int (Out Unit Bool))
  | x7=>(if decide (x7 < (bC ((bC (p * 64))+8))) then (idx h.Bytes x7).bind fun x15=>(if x15 != 0 then some (.stop (Out.ret false)) else some (.next (bC (x7+1)))) else some (.stop (Out.brk ())))
def NP(h:aD)(p x1:Int):(Out Unit Bool)→Option Bool
  | .brk ()=>NO h p x1
  | .ret r=>some r
def lV(h:aD)(p x1:Int)(x5:Bool):Option Bool:=
  (if x5 then some false else (loop (oP h p) (bC ((bC (p * 64))+3))).bind (NP h p x1))
def NQ(h:aD)(p:Int):Option Bool:=
  (idx h.Class p).bind fun x1=>(if decide (x1 < 0) then (loop (oN h p) (bC (p * 64))).bind (YK) else (idx h.Bytes (bC (p * 64))).bind fun x16=>(if x16 != 171 then lV h p x1 true else (idx h.Bytes (bC ((bC (p * 64))+1))).bind fun x17=>(if x17 != x1 then lV h p x1 true else (idx h.Bytes (bC ((bC (p * 64))+2))).bind fun x18=>(m4 x1).bind fun x19=>lV h p x1 (x18 != x19))))
def YN:Option Bool:=
  some true
def sW(h:aD):Int→Option (Step Int (Out Unit Bool))
  | x3=>(if decide (x3 < 6) then (NQ h x3).bind fun x4=>(if !x4 then some (.stop (Out.ret false)) else some (.next (bC (x3+1)))) else some (.stop (Out.brk ())))
def YO:(Out Unit Bool)→Option Bool
  | .brk ()=>YN
  | .ret r=>some r
def NR(h:aD):Option Bool:=
  (KX h).bind fun x1=>(if !x1 then some false else (loop (sW h) 0).bind (YO))
def aA3(x10:List Int):Option (List Int):=
  some x10
def vS(l:aB):((List Int)×Int)→Option (Step ((List Int)×Int) (List Int))
  | (x8,x9)=>(if decide (x9 < (l.Own.length:Int)) then (idx l.Own x9).bind fun x11=>need (x8.length+x11.aQ.length≤1073741824) (some (.next (x8++x11.aQ,bC (x9+1)))) else some (.stop (x8)))
def aA4:(List Int)→Option (List Int)
  | x10=>aA3 x10
def PR(l:aB)(x5:List Int):Option (List Int):=
  (loop (vS l) (x5,0)).bind (aA4)
def vT(l:aB):((List Int)×Int)→Option (Step ((List Int)×Int) (List Int))
  | (x3,x4)=>(if decide (x4 < (l.Global.length:Int)) then (idx l.Global x4).bind fun x12=>need (x3.length+x12.aQ.length≤1073741824) (some (.next (x3++x12.aQ,bC (x4+1)))) else some (.stop (x3)))
def PT(l:aB):(List Int)→Option (List Int)
  | x5=>PR l x5
def KY(l:aB):Option (List Int):=
  (loop (vT l) (([]:List Int),0)).bind (PT l)
def aA5:Option Bool:=
  some false
def qZ(l:List Int)(x:Int):Int→Option (Step Int (Out Unit Bool))
  | x2=>(if decide (x2 < (l.length:Int)) then (idx l x2).bind fun x3=>(if x3 == x then some (.stop (Out.ret true)) else some (.next (bC (x2+1)))) else some (.stop (Out.brk ())))
def aA6:(Out Unit Bool)→Option Bool
  | .brk ()=>aA5
  | .ret r=>some r
def KZ(l:List Int)(x:Int):Option Bool:=
  (loop (qZ l x) 0).bind (aA6)
def VA:Option Bool:=
  some true
def D5(x6:Int)(x7:Bool):Option (Step Int (Out Unit Bool)):=
  (if x7 then some (.stop (Out.ret false)) else some (.next (bC (x6+1))))
def mL(x4:(List Int)):Int→Option (Step Int (Out Unit Bool))
  | x6=>(if decide (x6 < (x4.length:Int)) then (idx x4 x6).bind fun x8=>(bR x8 0 23).bind fun x9=>(if !x9 then D5 x6 true else need (0≤(x6:Int)∧(x6:Int)≤(x4.length:Int)) ((KZ ((x4.take x6.toNat).drop 0) x8).bind fun x10=>D5 x6 x10)) else some (.stop (Out.brk ())))
def VB:(Out Unit Bool)→Option Bool
  | .brk ()=>VA
  | .ret r=>some r
def MD(l:aB):Option Bool:=
  (KY l).bind fun x4=>(loop (mL x4) 0).bind (VB)
def mM(l:aB):Int→Option (Step Int (Out Unit Bool))
  | x3=>(if decide (x3 < (l.Own.length:Int)) then (idx l.Own x3).bind fun x11=>(if decide (2 < (x11.aQ.length:Int)) then some (.stop (Out.ret false)) else some (.next (bC (x3+1)))) else some (.stop (Out.brk ())))
def ME(l:aB):(Out Unit Bool)→Option Bool
  | .brk ()=>MD l
  | .ret r=>some r
def D6(l:aB)(x1:Bool):Option Bool:=
  (if x1 then some false else (loop (mM l) 0).bind (ME l))
def K0(l:aB):Option Bool:=
  (if (l.Global.length:Int) != 3 then D6 l true else D6 l ((l.Own.length:Int) != 9))
def xD(h:aD)(x1:Int)(x2:Bool):Option Int:=
  (if x2 then some (-1) else (idx h.Class x1).bind fun x3=>some x3)
def m5(h:aD)(slot:Int):Option Int:=
  (DJ slot).bind fun x1=>(if decide (x1 < 0) then xD h x1 true else (idx h.Class x1).bind fun x4=>(if decide (x4 < 0) then xD h x1 true else (idx h.Class x1).bind fun x5=>(AI slot).bind fun x6=>(m4 x5).bind fun x7=>xD h x1 (decide (x7≤x6))))
def xX(h:aD)(slot:Int):Option Int:=
  (m5 h slot).bind fun x1=>(xW slot x1).bind fun x2=>(yO h.Bytes x2 4).bind fun x3=>some x3
def TL:Option Bool:=
  some true
def BT(x2:Int)(x3:Bool):Option (Step Int (Out Unit Bool)):=
  (if x3 then some (.stop (Out.ret false)) else some (.next (bC (x2+1))))
def lS(h:aD)(l:List Int)(c:Int):Int→Option (Step Int (Out Unit Bool))
  | x2=>(if decide (x2 < (l.length:Int)) then (idx l x2).bind fun x4=>(m5 h x4).bind fun x5=>(if x5 != c then BT x2 true else (idx l x2).bind fun x6=>(xX h x6).bind fun x7=>BT x2 (decide (6 < x7))) else some (.stop (Out.brk ())))
def TM:(Out Unit Bool)→Option Bool
  | .brk ()=>TL
  | .ret r=>some r
def CZ(h:aD)(l:List Int)(c:Int):Option Bool:=
  (loop (lS h l c) 0).bind (TM)
def C0(w_ c:Int)(x1:Bool):Option Int:=
  (if x1 then some (-1) else some (bC ((bC (w_ * 3))+c)))
def xY(w_ c:Int):Option Int:=
  (bR w_ 0 2).bind fun x2=>(if !x2 then C0 w_ c true else (bR c 0 2).bind fun x3=>C0 w_ c (!x3))
def aA7:Option Bool:=
  some true
def PU(x3:Int):Option (Step Int (Out Unit Bool)):=
  some (.next (bC (x3+1)))
def vU(m:Mem)(x3:Int):Int→Option (Step Int (Out Unit Bool))
  | x7=>(if decide (x7 < 3) then (xY x7 x3).bind fun x8=>(idx m.aB.Own x8).bind fun x9=>(CZ m.aD x9.aQ x3).bind fun x10=>(if !x10 then some (.stop (Out.ret false)) else some (.next (bC (x7+1)))) else some (.stop (Out.brk ())))
def PW(x3:Int):(Out Unit Bool)→Option (Step Int (Out Unit Bool))
  | .brk ()=>PU x3
  | .ret r=>some (.stop (Out.ret r))
def vV(m:Mem):Int→Option (Step Int (Out Unit Bool))
  | x3=>(if decide (x3 < 3) then (idx m.aB.Global x3).bind fun x4=>(CZ m.aD x4.aQ x3).bind fun x5=>(if !x5 then some (.stop (Out.ret false)) else (loop (vU m x3) 0).bind (PW x3)) else some (.stop (Out.brk ())))
def aA8:(Out Unit Bool)→Option Bool
  | .brk ()=>aA7
  | .ret r=>some r
def II(m:Mem)(x1:Bool):Option Bool:=
  (if x1 then some false else (loop (vV m) 0).bind (aA8))
def QY(m:Mem):Option Bool:=
  (NR m.aD).bind fun x11=>(if !x11 then II m true else (K0 m.aB).bind fun x12=>II m (!x12))
def BU(x1:Bool):Option Bool:=
  some x1
def iN(h:Int):Option Bool:=
  (bR h 32 223).bind fun x2=>(if x2 then BU (decide ((Int.tmod h 32) < 24)) else BU false)
def gL(h:Int):Option Int:=
  (iN h).bind fun x1=>(if !x1 then some (-1) else some (Int.tmod h 32))
def NS(l:aB)(slot:Int):Option Bool:=
  (KY l).bind fun x1=>(KZ x1 slot).bind fun x2=>some x2
def K2(m:Mem)(slot:Int):Option Int:=
  (m5 m.aD slot).bind fun x1=>(if decide (x1 < 0) then some 0 else (NS m.aB slot).bind fun x2=>(if x2 then some 1 else (xX m.aD slot).bind fun x3=>(if decide (6 < x3) then some 2 else some 3)))
def F6(h:Int):Option Int:=
  (iN h).bind fun x1=>(if !x1 then some 0 else some (bC (Int.tdiv h 32)))
def xE(x1:Bool):Option Bool:=
  some x1
def FD(m:Mem)(h:Int):Option Bool:=
  (iN h).bind fun x2=>(if x2 then (gL h).bind fun x3=>(K2 m x3).bind fun x4=>(if x4 == 3 then (gL h).bind fun x5=>(xX m.aD x5).bind fun x6=>(F6 h).bind fun x7=>xE (x6 == x7) else xE false) else xE false)
def YP(x5:List dA):Option (List dA):=
  some x5
def sY(l:List aY):((List dA)×Int)→Option (Step ((List dA)×Int) (List dA))
  | (x3,x4)=>(if decide (x4 < (l.length:Int)) then (idx l x4).bind fun x6=>need (x3.length+x6.Rows.length≤1073741824) (some (.next (x3++x6.Rows,bC (x4+1)))) else some (.stop (x3)))
def YQ:(List dA)→Option (List dA)
  | x5=>YP x5
def NT(l:List aY):Option (List dA):=
  (loop (sY l) (([]:List dA),0)).bind (YQ)
def VC:Option Bool:=
  some false
def xF(x3:Int)(x4:Bool):Option (Step Int (Out Unit Bool)):=
  (if x4 then some (.stop (Out.ret true)) else some (.next (bC (x3+1))))
def mN(slot:Int)(x1:(List dA)):Int→Option (Step Int (Out Unit Bool))
  | x3=>(if decide (x3 < (x1.length:Int)) then (idx x1 x3).bind fun x5=>(iN x5.Handle).bind fun x6=>(if x6 then (gL x5.Handle).bind fun x7=>xF x3 (x7 == slot) else xF x3 false) else some (.stop (Out.brk ())))
def VD:(Out Unit Bool)→Option Bool
  | .brk ()=>VC
  | .ret r=>some r
def K3(l:List aY)(slot:Int):Option Bool:=
  (NT l).bind fun x1=>(loop (mN slot x1) 0).bind (VD)
def MF:Option Bool:=
  some true
def mO(x3:Int)(x5:Bool):Option (Step Int (Out Unit Bool)):=
  (if x5 then some (.stop (Out.ret false)) else some (.next (bC (x3+1))))
def qO(c:aC):Int→Option (Step Int (Out Unit Bool))
  | x3=>(if decide (x3 < 3) then (idx c.cK x3).bind fun x4=>(if !x4.On then (if !(decide (x4=(⟨false,0,false,0⟩:o8))) then mO x3 true else (bR x4.aJ 0 c.aJ).bind fun x6=>(if !x6 then mO x3 true else (bR x4.Seen 0 2).bind fun x7=>mO x3 (!x7))) else (bR x4.aJ 0 c.aJ).bind fun x8=>(if !x8 then mO x3 true else (bR x4.Seen 0 2).bind fun x9=>mO x3 (!x9))) else some (.stop (Out.brk ())))
def D7:(Out Unit Bool)→Option Bool
  | .brk ()=>MF
  | .ret r=>some r
def qP(c:aC)(x1:Bool):Option Bool:=
  (if x1 then some false else (loop (qO c) 0).bind (D7))
def uC(c:aC):Option Bool:=
  (bR c.aJ 0 100000).bind fun x10=>(if !x10 then qP c true else qP c ((c.cK.length:Int) != 3))
def PX(z:List Int):Option Bool:=
  some ((z.length:Int) == 3)
def IJ(x2:Int)(x3:Bool):Option (Step Int (Out Unit Bool)):=
  (if x3 then some (.stop (Out.ret false)) else some (.next (bC (x2+1))))
def vW(z:List Int):Int→Option (Step Int (Out Unit Bool))
  | x2=>(if decide (x2 < (z.length:Int)) then (idx z x2).bind fun x4=>(if x4 != 0 then (idx z x2).bind fun x5=>(iN x5).bind fun x6=>IJ x2 (!x6) else IJ x2 false) else some (.stop (Out.brk ())))
def PY(z:List Int):(Out Unit Bool)→Option Bool
  | .brk ()=>PX z
  | .ret r=>some r
def K4(z:List Int):Option Bool:=
  (loop (vW z) 0).bind (PY z)
def gD(kind a_:Int):Option Sub:=
  some (⟨kind,a_,0,0,0,0,0,0,0,false⟩:Sub)
def eG(s:aE)(w_:Int)(x2:Queue)(x3:dO)(x4:aZ):Option aE:=
  (idx s.aV w_).bind fun x5=>need (s.Log.length+([(⟨1,w_,bC (s.aG+1),x3.Cell,0,0,0⟩:Ev)]).length≤1073741824) (some (⟨s.aA,s.Cells,s.aV.set w_.toNat x4,s.cL.set w_.toNat (⟨(x2.hU.take x2.hU.length).drop ((1:Int).toNat)⟩:Queue),s.Log++([(⟨1,w_,bC (s.aG+1),x3.Cell,0,0,0⟩:Ev)]),bC (s.aG+1)⟩:aE))
def iG(s:aE)(w_:Int)(x2:Queue)(x3:dO)(x7:Bool):Option aE:=
  (if x7 then (gD 5 0).bind fun x8=>(idx s.aA.aC.cK w_).bind fun x9=>(if x9.On then eG s w_ x2 x3 (⟨true,x3,bC (s.aG+1),9,x8,0,0,0,1⟩:aZ) else eG s w_ x2 x3 (⟨true,x3,bC (s.aG+1),0,x8,0,0,0,0⟩:aZ)) else (if x3.Kind == 4 then (gD 3 0).bind fun x10=>eG s w_ x2 x3 (⟨true,x3,bC (s.aG+1),0,x10,0,0,0,0⟩:aZ) else eG s w_ x2 x3 (⟨true,x3,bC (s.aG+1),0,(⟨0,0,0,0,0,0,0,0,0,false⟩:Sub),0,0,0,0⟩:aZ)))
def uD(s:aE)(w_:Int)(x1:Bool):Option aE:=
  (if x1 then some s else (idx s.cL w_).bind fun x2=>(idx x2.hU 0).bind fun x3=>need (0≤(1:Int)∧(1:Int)≤(x2.hU.length:Int)) ((if x3.Kind == 1 then (gD 1 x3.f8).bind fun x6=>eG s w_ x2 x3 (⟨true,x3,bC (s.aG+1),0,x6,0,0,0,0⟩:aZ) else (if x3.Kind == 2 then iG s w_ x2 x3 true else iG s w_ x2 x3 (x3.Kind == 5)))))
def vX(s:aE)(w_:Int):Option aE:=
  (idx s.cL w_).bind fun x11=>(if (x11.hU.length:Int) == 0 then uD s w_ true else uD s w_ (s.aG == 1000000))
def VE:Option Int:=
  some (-1)
def eU(size:Int):Int→Option (Step Int (Out Unit Int))
  | x2=>(if decide (x2 < 3) then (pI x2).bind fun x3=>(bR size 1 x3).bind fun x4=>(if x4 then some (.stop (Out.ret x2)) else some (.next (bC (x2+1)))) else some (.stop (Out.brk ())))
def VF:(Out Unit Int)→Option Int
  | .brk ()=>VE
  | .ret r=>some r
def AK(size:Int):Option Int:=
  (loop (eU size) 0).bind (VF)
def bG(s:Sub)(code:Int):Option Sub:=
  some ({s with Code:=code,cE:=true}:Sub)
def IK(s:aN)(x1:Int):Option (aN×Int):=
  some ((⟨(s.aQ.take ((bC ((s.aQ.length:Int) - 1)).toNat)).drop 0⟩:aN),x1)
def pY(s:aN):Option (aN×Int):=
  (if (s.aQ.length:Int) == 0 then some (s,(-1)) else need (0≤(bC ((s.aQ.length:Int) - 1):Int)∧(bC ((s.aQ.length:Int) - 1):Int)≤(s.aQ.length:Int)) ((idx s.aQ (bC ((s.aQ.length:Int) - 1))).bind fun x2=>IK s x2))
def VG(x7:List Int):Option (List Int):=
  some x7
def xG(at_:Int):((List Int)×Int×Int)→Option (Step ((List Int)×Int×Int) (List Int))
  | (x4,x5,x6)=>(if decide (0≤x6) then (idx x4 (bC (at_+x6))).bind fun x8=>some (.next (x4.set ((bC (at_+x6)).toNat) (Int.tmod x5 256),bC (Int.tdiv x5 256),bC (x6 - 1))) else some (.stop (x4)))
def VH:(List Int)→Option (List Int)
  | x7=>VG x7
def uE(b:List Int)(at_ width n:Int):Option (List Int):=
  (loop (xG at_) (b,n,bC (width - 1))).bind (VH)
def VI(h:aD):Option (aD×(List Int)):=
  some (h,([]:List Int))
def D8(x2:Int):Option (Step Int (Out Unit (aD×(List Int)))):=
  some (.next (bC (x2+1)))
def VK(h:aD)(c x2:Int)(x14 x15:List Int):Option (Step Int (Out Unit (aD×(List Int)))):=
  some (.stop (Out.ret ((⟨x15,h.Class.set x2.toNat c⟩:aD),x14)))
def MG(x2:Int)(x11:List Int)(x12:Int)(x17:List Int):Option (Step ((List Int)×Int×(List Int)) ((List Int)×(List Int))):=
  (sV x2 x12).bind fun x18=>need (x11.length+([x18]).length≤1073741824) (some (.next (x11++([x18]),bC (x12+1),x17)))
def xH(c x2:Int):((List Int)×Int×(List Int))→Option (Step ((List Int)×Int×(List Int)) ((List Int)×(List Int)))
  | (x11,x12,x13)=>(m4 c).bind fun x16=>(if decide (x12 < x16) then (sV x2 x12).bind fun x19=>(xW x19 c).bind fun x20=>(uE x13 x20 4 1).bind fun x21=>MG x2 x11 x12 x21 else some (.stop ((x11,x13))))
def VL(h:aD)(c x2:Int):((List Int)×(List Int))→Option (Step Int (Out Unit (aD×(List Int))))
  | (x14,x15)=>VK h c x2 x14 x15
def eI(h:aD)(c:Int):Int→Option (Step Int (Out Unit (aD×(List Int))))
  | x2=>(if decide (x2 < 6) then (idx h.Class x2).bind fun x3=>(if x3 != (-1) then D8 x2 else (idx h.Bytes (bC (x2 * 64))).bind fun x4=>(idx (h.Bytes.set ((bC (x2 * 64)).toNat) 171) (bC ((bC (x2 * 64))+1))).bind fun x5=>(m4 c).bind fun x6=>(idx ((h.Bytes.set ((bC (x2 * 64)).toNat) 171).set ((bC ((bC (x2 * 64))+1)).toNat) c) (bC ((bC (x2 * 64))+2))).bind fun x7=>(loop (xH c x2) (([]:List Int),0,((h.Bytes.set ((bC (x2 * 64)).toNat) 171).set ((bC ((bC (x2 * 64))+1)).toNat) c).set ((bC ((bC (x2 * 64))+2)).toNat) x6)).bind (VL h c x2)) else some (.stop (Out.brk ())))
def VM(h:aD):(Out Unit (aD×(List Int)))→Option (aD×(List Int))
  | .brk ()=>VI h
  | .ret r=>some r
def pZ(h:aD)(c:Int):Option (aD×(List Int)):=
  (loop (eI h c) 0).bind (VM h)
def D9(m:Mem)(c:Int)(x1:aD×(List Int))(x2:aN)(x3:Int):Option (Mem×Int):=
  some ((⟨x1.1,(⟨m.aB.Global.set c.toNat (⟨x2.aQ++((x1.2.take x1.2.length).drop ((1:Int).toNat))⟩:aN),m.aB.Own⟩:aB)⟩:Mem),x3)
def AL(m:Mem)(c:Int):Option (Mem×Int):=
  (pZ m.aD c).bind fun x1=>(if (x1.2.length:Int) == 0 then some ((⟨x1.1,m.aB⟩:Mem),(-1)) else (idx m.aB.Global c).bind fun x2=>need (0≤(1:Int)∧(1:Int)≤(x1.2.length:Int)) (need (x2.aQ.length+((x1.2.take x1.2.length).drop ((1:Int).toNat)).length≤1073741824) ((idx x1.2 0).bind fun x4=>D9 m c x1 x2 x4)))
def uF(slot gen:Int)(x1:Bool):Option Int:=
  (if x1 then some 0 else some (bC ((bC (gen * 32))+slot)))
def IL(slot gen:Int):Option Int:=
  (bR slot 0 23).bind fun x2=>(if !x2 then uF slot gen true else (bR gen 1 6).bind fun x3=>uF slot gen (!x3))
def vY(m:Mem)(slot:Int):Option Int:=
  (xX m.aD slot).bind fun x1=>(IL slot x1).bind fun x2=>some x2
def K5(b:aA)(s:Sub)(slot pc:Int):Option Sub:=
  (if decide (0≤slot) then (vY b.Mem slot).bind fun x1=>(bG ({s with Out:=x1}:Sub) 0).bind fun x2=>some x2 else some ({s with Pc:=pc}:Sub))
def uG(s:Sub)(x3:Int)(x5:Bool)(x6:aA):Option (aA×Sub):=
  (if x5 then (bG s 3).bind fun x7=>some (x6,x7) else (K5 x6 s x3 (bC (s.Pc+1))).bind fun x8=>some (x6,x8))
def iH(s:Sub)(x3:Int)(x4:aA):Option (aA×Sub):=
  (if decide (x3 < 0) then uG s x3 (s.Pc == 3) x4 else uG s x3 false x4)
def uH(b:aA)(s:Sub)(x1:Int)(x12:Bool):Option (aA×Sub):=
  (if x12 then (idx b.Mem.aB.Global x1).bind fun x13=>(pY x13).bind fun x14=>iH s x14.2 ({b with Mem:=(⟨b.Mem.aD,(⟨b.Mem.aB.Global.set x1.toNat x14.1,b.Mem.aB.Own⟩:aB)⟩:Mem)}:aA) else (if s.Pc == 2 then (AL b.Mem x1).bind fun x15=>iH s x15.2 ({b with Mem:=x15.1}:aA) else (bG s 1).bind fun x16=>some (b,x16)))
def vZ(b:aA)(w_:Int)(s:Sub):Option (aA×Sub):=
  (AK s.A).bind fun x1=>(if decide (x1 < 0) then (bG s 2).bind fun x2=>some (b,x2) else (if s.Pc == 0 then (xY w_ x1).bind fun x9=>(idx b.Mem.aB.Own x9).bind fun x10=>(pY x10).bind fun x11=>iH s x11.2 ({b with Mem:=(⟨b.Mem.aD,(⟨b.Mem.aB.Global,b.Mem.aB.Own.set x9.toNat x11.1⟩:aB)⟩:Mem)}:aA) else (if s.Pc == 1 then uH b s x1 true else uH b s x1 (s.Pc == 3))))
def AM(b:aA)(s:Sub)(x5:List aY):Option (aA×Sub):=
  (bG s 0).bind fun x6=>some (({b with aO:=x5}:aA),x6)
def rQ(b:aA)(w_:Int)(s:Sub)(x3:Bool):Option (aA×Sub):=
  (if x3 then (bG s 4).bind fun x4=>some (b,x4) else (idx b.aO w_).bind fun x7=>need (x7.Rows.length+([(⟨s.A,s.E⟩:dA)]).length≤1073741824)<|AM b s (b.aO.set w_.toNat (⟨x7.Rows++([(⟨s.A,s.E⟩:dA)])⟩:aY)))
def sZ(b:aA)(w_:Int)(s:Sub):Option (aA×Sub):=
  (if s.Pc == 0 then some (b,({s with Pc:=1,E:=b.aC.aJ}:Sub)) else (if s.Pc == 1 then (bR s.E 0 b.aC.aJ).bind fun x1=>(if !x1 then (bG s 1).bind fun x2=>some (b,x2) else (FD b.Mem s.A).bind fun x8=>(if !x8 then rQ b w_ s true else (gL s.A).bind fun x9=>(K3 b.aO x9).bind fun x10=>rQ b w_ s x10)) else (bG s 1).bind fun x11=>some (b,x11)))
def uI(c:aC):Option aC:=
  need (([]:List o8).length+c.cK.length≤1073741824) (some (⟨c.aJ,([]:List o8)++c.cK⟩:aC))
def oQ(w_:Int)(x1:aC)(x3:o8)(x4:Bool):Option (aC×Bool):=
  (if x4 then some (x1,true) else (if x3.Seen == 2 then (idx x1.cK w_).bind fun x5=>some ((⟨x1.aJ,x1.cK.set w_.toNat ({x5 with dI:=true,Seen:=0}:o8)⟩:aC),true) else (idx x1.cK w_).bind fun x6=>some ((⟨x1.aJ,x1.cK.set w_.toNat ({x6 with Seen:=bC (x3.Seen+1)}:o8)⟩:aC),false)))
def AN(c:aC)(w_ e_:Int)(x1:aC)(x2:Bool):Option (aC×Bool):=
  (if x2 then some (x1,false) else (idx c.cK w_).bind fun x3=>(if !x3.On then oQ w_ x1 x3 true else (if x3.dI then oQ w_ x1 x3 true else oQ w_ x1 x3 (x3.aJ == e_))))
def DK(c:aC)(w_ e_:Int):Option (aC×Bool):=
  (uI c).bind fun x1=>(uC c).bind fun x7=>(if !x7 then AN c w_ e_ x1 true else (bR w_ 0 2).bind fun x8=>AN c w_ e_ x1 (!x8))
def AO(e_:Int)(x1:aC)(x2:Bool):Option (aC×Bool):=
  (if x2 then some (x1,false) else some ((⟨bC (e_+1),x1.cK⟩:aC),true))
def JT(c:aC)(e_:Int):Option (aC×Bool):=
  (uI c).bind fun x1=>(uC c).bind fun x3=>(if !x3 then AO e_ x1 true else (if c.aJ != e_ then AO e_ x1 true else AO e_ x1 (e_ == 100000)))
def p7(b:aA)(s:Sub)(x3:aC×Bool)(x5:Int):Option (aA×Sub):=
  some (({b with aC:=x3.1}:aA),({s with Pc:=x5,B:=bC (s.B+1)}:Sub))
def p8(b:aA)(s:Sub)(x6:aC×Bool)(x7:Int):Option (aA×Sub):=
  (bG ({s with Out:=x7}:Sub) 0).bind fun x8=>some (({b with aC:=x6.1}:aA),x8)
def qQ(b:aA)(s:Sub):Option (aA×Sub):=
  (if s.Pc == 0 then some (b,({s with Pc:=1,E:=b.aC.aJ,B:=0}:Sub)) else (if s.Pc == 1 then (bR s.B 0 2).bind fun x1=>(if !x1 then (bG s 1).bind fun x2=>some (b,x2) else (DK b.aC s.B s.E).bind fun x3=>(if !x3.2 then (bG s 8).bind fun x4=>some (({b with aC:=x3.1}:aA),x4) else (if (bC (s.B+1)) == 3 then p7 b s x3 2 else p7 b s x3 s.Pc))) else (if s.Pc == 2 then (JT b.aC s.E).bind fun x6=>(if x6.2 then p8 b s x6 1 else p8 b s x6 s.Out) else (bG s 1).bind fun x9=>some (b,x9))))
def FE(x1:Bool):Option Bool:=
  some x1
def FM(r_:dA)(e_:Int):Option Bool:=
  (if decide (2≤e_) then FE (decide (r_.aJ≤(bC (e_ - 2)))) else FE false)
def VN:Option Int:=
  some (-1)
def d4(l:List dA)(e_:Int):Int→Option (Step Int (Out Unit Int))
  | x2=>(if decide (x2 < (l.length:Int)) then (idx l x2).bind fun x3=>(FM x3 e_).bind fun x4=>(if x4 then some (.stop (Out.ret x2)) else some (.next (bC (x2+1)))) else some (.stop (Out.brk ())))
def VO:(Out Unit Int)→Option Int
  | .brk ()=>VN
  | .ret r=>some r
def uJ(l:List dA)(from_ e_:Int):Option Int:=
  (loop (d4 l e_) (if 0 < from_ then from_ else 0)).bind (VO)
def F7(x2 x3:List aN):Option aB:=
  some (⟨x2,x3⟩:aB)
def NU(x:aB)(slot x1:Int)(x4:aN):Option aB:=
  F7 x.Global (x.Own.set x1.toNat (⟨x4.aQ++([slot])⟩:aN))
def NV(x:aB)(x5:List aN):Option aB:=
  F7 x5 x.Own
def NW(x:aB)(w_ c slot:Int):Option aB:=
  (xY w_ c).bind fun x1=>(idx x.Own x1).bind fun x4=>(if decide ((x4.aQ.length:Int) < 2) then need (x4.aQ.length+([slot]).length≤1073741824)<|NU x slot x1 x4 else (idx x.Global c).bind fun x6=>need (x6.aQ.length+([slot]).length≤1073741824)<|NV x (x.Global.set c.toNat (⟨x6.aQ++([slot])⟩:aN)))
def F8(x:Mem)(x3:List Int)(x4 x5:List aN):Option Mem:=
  some (⟨(⟨x3,x.aD.Class⟩:aD),(⟨x4,x5⟩:aB)⟩:Mem)
def F9(x:Mem)(w_ slot x1 x2:Int)(x3:List Int):Option Mem:=
  (if decide ((bC (x2+1))≤6) then (NW x.aB w_ x1 slot).bind fun x6=>F8 x x3 x6.Global x6.Own else F8 x x3 x.aB.Global x.aB.Own)
def DL(x:Mem)(w_ slot:Int):Option Mem:=
  (m5 x.aD slot).bind fun x1=>(xX x.aD slot).bind fun x2=>(xW slot x1).bind fun x7=>(uE x.aD.Bytes x7 4 (bC (x2+1))).bind fun x8=>F9 x w_ slot x1 x2 x8
def qA(b:aA)(s:Sub)(x8:Int):Option (aA×Sub):=
  some (b,({s with Pc:=x8,B:=bC (s.B+1)}:Sub))
def eO(b:aA)(s:Sub)(x5:Bool):Option (aA×Sub):=
  (if x5 then (bG s 1).bind fun x6=>some (b,x6) else (idx b.m7 s.B).bind fun x7=>(if x7 == s.H then some (b,({s with Pc:=1,Row:=bC (s.Row+1)}:Sub)) else (if (bC (s.B+1)) == 3 then qA b s 3 else qA b s s.Pc)))
def xZ(s:Sub)(x14:aA):Option (aA×Sub):=
  some (x14,({s with Pc:=1,Out:=bC (s.Out+1)}:Sub))
def eP(b:aA)(w_:Int)(s:Sub)(x1:aY)(x12:Bool):Option (aA×Sub):=
  (if x12 then (bG s 1).bind fun x13=>some (b,x13) else need (0≤(s.Row:Int)∧(s.Row:Int)≤(x1.Rows.length:Int)) (need (0≤(bC (s.Row+1):Int)∧(bC (s.Row+1):Int)≤(x1.Rows.length:Int)) (need (s.Row.toNat≤(bC (s.Row+1)).toNat) ((gL s.H).bind fun x15=>(DL b.Mem w_ x15).bind fun x16=>xZ s ({b with Mem:=x16,aO:=b.aO.set w_.toNat (⟨((dD x1.Rows s.Row.toNat (x1.Rows.drop ((bC (s.Row+1)).toNat))).take (s.Row.toNat+(x1.Rows.length - ((bC (s.Row+1)).toNat)))).drop 0⟩:aY)}:aA)))))
def qR(b:aA)(w_:Int)(s:Sub):Option (aA×Sub):=
  (idx b.aO w_).bind fun x1=>(if s.Pc == 0 then some (b,({s with Pc:=1,E:=b.aC.aJ,Row:=0}:Sub)) else (if s.Pc == 1 then (uJ x1.Rows s.Row s.E).bind fun x2=>(if decide (x2 < 0) then (bG s 0).bind fun x3=>some (b,x3) else (idx x1.Rows x2).bind fun x4=>some (b,({s with Pc:=2,Row:=x2,B:=0,H:=x4.Handle}:Sub))) else (if s.Pc == 2 then (bR s.B 0 2).bind fun x9=>(if !x9 then eO b s true else (bR s.Row 0 (bC ((x1.Rows.length:Int) - 1))).bind fun x10=>(if !x10 then eO b s true else (idx x1.Rows s.Row).bind fun x11=>eO b s (x11.Handle != s.H))) else (if s.Pc == 3 then (bR s.Row 0 (bC ((x1.Rows.length:Int) - 1))).bind fun x17=>(if !x17 then eP b w_ s x1 true else (idx x1.Rows s.Row).bind fun x18=>(if x18.Handle != s.H then eP b w_ s x1 true else (FM x18 s.E).bind fun x19=>eP b w_ s x1 (!x19))) else (bG s 1).bind fun x20=>some (b,x20)))))
def v7(w_ e_:Int)(x1:aC)(x2:Bool):Option (aC×Bool):=
  (if x2 then some (x1,false) else (idx x1.cK w_).bind fun x3=>some ((⟨x1.aJ,x1.cK.set w_.toNat (⟨true,e_,false,0⟩:o8)⟩:aC),true))
def GA(c:aC)(w_ e_:Int):Option (aC×Bool):=
  (uI c).bind fun x1=>(uC c).bind fun x4=>(if !x4 then v7 w_ e_ x1 true else (bR w_ 0 2).bind fun x5=>(if !x5 then v7 w_ e_ x1 true else (bR e_ 0 c.aJ).bind fun x6=>v7 w_ e_ x1 (!x6)))
def DM(b:aA)(w_:Int)(s:Sub):Option (aA×Sub):=
  (if s.Pc == 0 then some (b,({s with Pc:=1,E:=b.aC.aJ}:Sub)) else (if s.Pc == 1 then (GA b.aC w_ s.E).bind fun x1=>(if !x1.2 then (bG s 1).bind fun x2=>some (({b with aC:=x1.1}:aA),x2) else some (({b with aC:=x1.1}:aA),({s with Pc:=2}:Sub))) else (if s.Pc == 2 then (if b.aC.aJ == s.E then (bG s 0).bind fun x3=>some (b,x3) else some (b,({s with Pc:=0}:Sub))) else (bG s 1).bind fun x4=>some (b,x4))))
def tA(b:aA)(w_:Int)(s:Sub):Option (aA×Sub):=
  (if s.cE then some (b,s) else (if s.Kind == 1 then (vZ b w_ s).bind fun x1=>some (x1.1,x1.2) else (if s.Kind == 2 then (sZ b w_ s).bind fun x2=>some (x2.1,x2.2) else (if s.Kind == 3 then (qQ b s).bind fun x3=>some (x3.1,x3.2) else (if s.Kind == 4 then (qR b w_ s).bind fun x4=>some (x4.1,x4.2) else (if s.Kind == 5 then (DM b w_ s).bind fun x5=>some (x5.1,x5.2) else (bG s 1).bind fun x6=>some (b,x6)))))))
def bA(j:aZ)(pc code:Int):Option aZ:=
  some ({j with Pc:=pc,Code:=code}:aZ)
def tB(b:List Int):Option (List Int):=
  need (([]:List Int).length+b.length≤1073741824) (some (([]:List Int)++b))
def NX(h:aD):Option aD:=
  (tB h.Bytes).bind fun x1=>(tB h.Class).bind fun x2=>some (⟨x1,x2⟩:aD)
def YR(x5:List aN):Option (List aN):=
  some x5
def GB(l:List aN):((List aN)×Int)→Option (Step ((List aN)×Int) (List aN))
  | (x3,x4)=>(if decide (x4 < (l.length:Int)) then (idx l x4).bind fun x6=>(tB x6.aQ).bind fun x7=>need (x3.length+([(⟨x7⟩:aN)]).length≤1073741824) (some (.next (x3++([(⟨x7⟩:aN)]),bC (x4+1)))) else some (.stop (x3)))
def YS:(List aN)→Option (List aN)
  | x5=>YR x5
def HP(l:List aN):Option (List aN):=
  (loop (GB l) (([]:List aN),0)).bind (YS)
def NY(l:aB):Option aB:=
  (HP l.Global).bind fun x1=>(HP l.Own).bind fun x2=>some (⟨x1,x2⟩:aB)
def NZ(m:Mem):Option Mem:=
  (NX m.aD).bind fun x1=>(NY m.aB).bind fun x2=>some (⟨x1,x2⟩:Mem)
def FF(slot c:Int):Option Int:=
  (xW slot c).bind fun x1=>(if decide (x1 < 0) then some (-1) else some (bC (x1+4)))
def AP(at_ x3 x4:Int)(x5:Bool):Option (Int×Int):=
  (if x5 then some (0,2) else (FF x3 x4).bind fun x6=>some (bC (x6+at_),0))
def AQ(m:Mem)(h at_ width:Int)(x1:Bool):Option (Int×Int):=
  (if x1 then some (0,1) else (FD m h).bind fun x2=>(if !x2 then some (0,4) else (gL h).bind fun x3=>(m5 m.aD x3).bind fun x4=>(pI x4).bind fun x7=>(bR at_ 0 (bC (x7 - 1))).bind fun x8=>(if !x8 then AP at_ x3 x4 true else (pI x4).bind fun x9=>AP at_ x3 x4 (decide ((bC (x9 - at_)) < width)))))
def N0(m:Mem)(h at_ width:Int):Option (Int×Int):=
  (QY m).bind fun x10=>(if !x10 then AQ m h at_ width true else (bR width 1 7).bind fun x11=>AQ m h at_ width (!x11))
def PZ(x8:Int)(x9:List UInt8):Option (List UInt8):=
  (if decide (0 < x8) then some ([]) else some x9)
def C1(width:Int):(Int×(List UInt8)×Int)→Option (Step (Int×(List UInt8)×Int) (Int×(List UInt8)))
  | (x5,x6,x7)=>(if decide (x7 < width) then need (([u8 (Int.tmod x5 256)]).length+x6.length≤9223372036854775807) (some (.next (bC (Int.tdiv x5 256),([u8 (Int.tmod x5 256)])++x6,bC (x7+1)))) else some (.stop ((x5,x6))))
def P0:(Int×(List UInt8))→Option (List UInt8)
  | (x8,x9)=>PZ x8 x9
def IM(n width:Int)(x1:Bool):Option (List UInt8):=
  (if x1 then some ([]) else (loop (C1 width) (n,[],0)).bind (P0))
def K6(n width:Int):Option (List UInt8):=
  (bR width 1 7).bind fun x10=>(if !x10 then IM n width true else IM n width (decide (n < 0)))
def AR(m:Mem)(h at_ width n:Int):Option (Mem×Int):=
  (NZ m).bind fun x1=>(N0 m h at_ width).bind fun x2=>(if x2.2 != 0 then some (x1,x2.2) else (K6 n width).bind fun x3=>(if x3 == ([]) then some (x1,1) else (uE x1.aD.Bytes x2.1 width n).bind fun x4=>some ((⟨(⟨x4,x1.aD.Class⟩:aD),x1.aB⟩:Mem),0)))
def DN(s:aE)(w_:Int)(j:aZ):Option (aE×aZ):=
  (if j.Pc == 0 then (tA s.aA w_ j.Sub).bind fun x1=>(if !x1.2.cE then some (({s with aA:=x1.1}:aE),({j with Sub:=x1.2}:aZ)) else (if x1.2.Code != 0 then (bA ({j with Sub:=x1.2}:aZ) 9 x1.2.Code).bind fun x2=>some (({s with aA:=x1.1}:aE),x2) else (iN x1.2.Out).bind fun x3=>(if !x3 then (bA ({j with Sub:=x1.2}:aZ) 9 1).bind fun x4=>some (({s with aA:=x1.1}:aE),x4) else (bA ({j with Sub:=x1.2,H:=x1.2.Out}:aZ) 1 0).bind fun x5=>some (({s with aA:=x1.1}:aE),x5)))) else (if j.Pc == 1 then (AR s.aA.Mem j.H 0 4 j.Op.cV).bind fun x6=>(if x6.2 != 0 then (bA j 9 x6.2).bind fun x7=>some (({s with aA:=(⟨x6.1,s.aA.aC,s.aA.aO,s.aA.m7⟩:aA)}:aE),x7) else (bA j 2 0).bind fun x8=>some (({s with aA:=(⟨x6.1,s.aA.aC,s.aA.aO,s.aA.m7⟩:aA)}:aE),x8)) else (if j.Pc == 2 then (idx s.Cells j.Op.Cell).bind fun x9=>need (s.Log.length+([(⟨2,w_,j.aG,j.Op.Cell,j.H,j.Op.cV,0⟩:Ev)]).length≤1073741824) ((if x9 == 0 then (bA ({j with Old:=x9}:aZ) 9 0).bind fun x10=>some (({s with Cells:=s.Cells.set j.Op.Cell.toNat j.H,Log:=s.Log++([(⟨2,w_,j.aG,j.Op.Cell,j.H,j.Op.cV,0⟩:Ev)])}:aE),x10) else (gD 2 x9).bind fun x11=>(bA ({j with Sub:=x11,Old:=x9}:aZ) 3 0).bind fun x12=>some (({s with Cells:=s.Cells.set j.Op.Cell.toNat j.H,Log:=s.Log++([(⟨2,w_,j.aG,j.Op.Cell,j.H,j.Op.cV,0⟩:Ev)])}:aE),x12))) else (if j.Pc == 3 then (tA s.aA w_ j.Sub).bind fun x13=>(if !x13.2.cE then some (({s with aA:=x13.1}:aE),({j with Sub:=x13.2}:aZ)) else (bA ({j with Sub:=x13.2}:aZ) 9 x13.2.Code).bind fun x14=>some (({s with aA:=x13.1}:aE),x14)) else (bA j 9 1).bind fun x15=>some (s,x15)))))
def iS(s:aE)(w_:Int)(j:aZ):Option aE:=
  need (s.Log.length+([(⟨3,w_,j.aG,j.Op.Cell,j.H,0,0⟩:Ev)]).length≤1073741824) (some ({s with Log:=s.Log++([(⟨3,w_,j.aG,j.Op.Cell,j.H,0,0⟩:Ev)])}:aE))
def lW(h:aD)(x at_ width x3:Int)(x4:Bool):Option (Int×Bool):=
  (if x4 then some (0,false) else (gL x).bind fun x5=>(FF x5 x3).bind fun x6=>(yO h.Bytes (bC (x6+at_)) width).bind fun x7=>some (x7,true))
def AS(h:aD)(x at_ width:Int)(x1:Bool):Option (Int×Bool):=
  (if x1 then some (0,false) else (gL x).bind fun x2=>(m5 h x2).bind fun x3=>(if decide (x3 < 0) then lW h x at_ width x3 true else (pI x3).bind fun x8=>(bR at_ 0 (bC (x8 - 1))).bind fun x9=>(if !x9 then lW h x at_ width x3 true else (pI x3).bind fun x10=>lW h x at_ width x3 (decide ((bC (x10 - at_)) < width)))))
def HQ(h:aD)(x at_ width:Int):Option (Int×Bool):=
  (iN x).bind fun x11=>(if !x11 then AS h x at_ width true else (bR width 1 7).bind fun x12=>AS h x at_ width (!x12))
def m6(s:aE)(j:aZ):Option Int:=
  (HQ s.aA.Mem.aD j.H 0 4).bind fun x1=>some x1.1
def lT(j:aZ)(pc:Int)(x2:Bool):Option aZ:=
  (if x2 then (bA j pc 0).bind fun x3=>some x3 else (bA ({j with cV:=0}:aZ) pc 6).bind fun x4=>some x4)
def rA(s:aE)(w_:Int)(j:aZ)(pc:Int):Option aZ:=
  (idx s.aA.aC.cK w_).bind fun x1=>(if x1.On then lT j pc (!x1.dI) else lT j pc false)
def v8(w_:Int)(x1:aC)(x2:Bool):Option (aC×Bool):=
  (if x2 then some (x1,false) else (idx x1.cK w_).bind fun x3=>some ((⟨x1.aJ,x1.cK.set w_.toNat (⟨false,0,false,0⟩:o8)⟩:aC),true))
def BV(c:aC)(w_:Int):Option (aC×Bool):=
  (uI c).bind fun x1=>(uC c).bind fun x4=>(if !x4 then v8 w_ x1 true else (bR w_ 0 2).bind fun x5=>(if !x5 then v8 w_ x1 true else (idx c.cK w_).bind fun x6=>v8 w_ x1 (!x6.On)))
def DO(s:aE)(w_:Int)(j:aZ):Option (aE×aZ):=
  (if j.Pc == 0 then (tA s.aA w_ j.Sub).bind fun x1=>(if !x1.2.cE then some (({s with aA:=x1.1}:aE),({j with Sub:=x1.2}:aZ)) else (bA ({j with Sub:=x1.2}:aZ) 1 0).bind fun x2=>some (({s with aA:=x1.1}:aE),x2)) else (if j.Pc == 1 then (idx s.Cells j.Op.Cell).bind fun x3=>(iS s w_ ({j with H:=x3}:aZ)).bind fun x4=>(if x3 == 0 then (bA ({j with H:=x3}:aZ) 4 8).bind fun x5=>some (x4,x5) else (bA ({j with H:=x3}:aZ) 2 0).bind fun x6=>some (x4,x6)) else (if j.Pc == 2 then (m6 s j).bind fun x7=>(bA ({j with cV:=x7}:aZ) 3 0).bind fun x8=>some (s,x8) else (if j.Pc == 3 then (rA s w_ j 4).bind fun x9=>some (s,x9) else (if j.Pc == 4 then (BV s.aA.aC w_).bind fun x10=>(bA j 9 j.Code).bind fun x11=>some (({s with aA:=(⟨s.aA.Mem,x10.1,s.aA.aO,s.aA.m7⟩:aA)}:aE),x11) else (bA j 9 1).bind fun x12=>some (s,x12))))))
def qS(w_ h:Int)(x1:(List Int))(x2:Bool):Option ((List Int)×Bool):=
  (if x2 then some (x1,false) else (idx x1 w_).bind fun x3=>some (x1.set w_.toNat h,true))
def AT(z:List Int)(w_ h:Int):Option ((List Int)×Bool):=
  (tB z).bind fun x1=>(K4 z).bind fun x4=>(if !x4 then qS w_ h x1 true else (bR w_ 0 2).bind fun x5=>(if !x5 then qS w_ h x1 true else (iN h).bind fun x6=>qS w_ h x1 (!x6)))
def v9(w_:Int)(x1:(List Int))(x2:Bool):Option ((List Int)×Bool):=
  (if x2 then some (x1,false) else (idx x1 w_).bind fun x3=>some (x1.set w_.toNat 0,true))
def GC(z:List Int)(w_:Int):Option ((List Int)×Bool):=
  (tB z).bind fun x1=>(K4 z).bind fun x4=>(if !x4 then v9 w_ x1 true else (bR w_ 0 2).bind fun x5=>(if !x5 then v9 w_ x1 true else (idx z w_).bind fun x6=>v9 w_ x1 (x6 == 0)))
def DP(s:aE)(w_:Int)(j:aZ):Option (aE×aZ):=
  (if j.Pc == 0 then (idx s.Cells j.Op.Cell).bind fun x1=>(if x1 == 0 then (iS s w_ ({j with H:=x1}:aZ)).bind fun x2=>(bA ({j with H:=x1}:aZ) 4 8).bind fun x3=>some (x2,x3) else (bA ({j with H:=x1}:aZ) 1 0).bind fun x4=>some (s,x4)) else (if j.Pc == 1 then (AT s.aA.m7 w_ j.H).bind fun x5=>(bA j 2 0).bind fun x6=>some (({s with aA:=(⟨s.aA.Mem,s.aA.aC,s.aA.aO,x5.1⟩:aA)}:aE),x6) else (if j.Pc == 2 then (idx s.Cells j.Op.Cell).bind fun x7=>(if x7 != j.H then (bA j 0 0).bind fun x8=>some (s,x8) else (iS s w_ j).bind fun x9=>(bA j 3 0).bind fun x10=>some (x9,x10)) else (if j.Pc == 3 then (m6 s j).bind fun x11=>(bA ({j with cV:=x11}:aZ) 4 0).bind fun x12=>some (s,x12) else (if j.Pc == 4 then (GC s.aA.m7 w_).bind fun x13=>(bA j 9 j.Code).bind fun x14=>some (({s with aA:=(⟨s.aA.Mem,s.aA.aC,s.aA.aO,x13.1⟩:aA)}:aE),x14) else (bA j 9 1).bind fun x15=>some (s,x15))))))
def AU(s:aE)(w_:Int)(j:aZ):Option (aE×aZ):=
  (idx s.aA.aC.cK w_).bind fun x1=>(if j.Pc == 0 then (if !x1.On then (bA j 9 5).bind fun x2=>some (s,x2) else (if x1.dI then (bA j 9 6).bind fun x3=>some (s,x3) else (idx s.Cells j.Op.Cell).bind fun x4=>(iS s w_ ({j with H:=x4}:aZ)).bind fun x5=>(if x4 == 0 then (bA ({j with H:=x4}:aZ) 9 8).bind fun x6=>some (x5,x6) else (bA ({j with H:=x4}:aZ) 1 0).bind fun x7=>some (x5,x7)))) else (if j.Pc == 1 then (m6 s j).bind fun x8=>(bA ({j with cV:=x8}:aZ) 2 0).bind fun x9=>some (s,x9) else (if j.Pc == 2 then (rA s w_ j 9).bind fun x10=>some (s,x10) else (bA j 9 1).bind fun x11=>some (s,x11))))
def gQ(s:aE)(w_:Int)(j:aZ)(x5:Bool):Option (aE×aZ):=
  (if x5 then (bA j 9 1).bind fun x6=>some (s,x6) else (tA s.aA w_ j.Sub).bind fun x7=>(if !x7.2.cE then some (({s with aA:=x7.1}:aE),({j with Sub:=x7.2}:aZ)) else (if j.Op.Kind == 5 then (bA ({j with Sub:=x7.2}:aZ) 9 x7.2.Code).bind fun x8=>some (({s with aA:=x7.1}:aE),x8) else (if j.Pc == 0 then (gD 4 0).bind fun x9=>(bA ({j with Sub:=x9}:aZ) 1 0).bind fun x10=>some (({s with aA:=x7.1}:aE),x10) else (bA ({j with Sub:=x7.2,cV:=x7.2.Out}:aZ) 9 x7.2.Code).bind fun x11=>some (({s with aA:=x7.1}:aE),x11)))))
def uK(s:aE)(w_:Int)(j:aZ)(x1:Bool):Option (aE×aZ):=
  (if x1 then (BV s.aA.aC w_).bind fun x2=>(if !x2.2 then (bA j 9 5).bind fun x3=>some (({s with aA:=(⟨s.aA.Mem,x2.1,s.aA.aO,s.aA.m7⟩:aA)}:aE),x3) else (bA j 9 0).bind fun x4=>some (({s with aA:=(⟨s.aA.Mem,x2.1,s.aA.aO,s.aA.m7⟩:aA)}:aE),x4)) else (if j.Op.Kind == 6 then gQ s w_ j true else (if j.Pc != 0 then (if j.Pc != 1 then gQ s w_ j true else gQ s w_ j (j.Op.Kind == 5)) else gQ s w_ j false)))
def wA(s:aE)(w_:Int)(j:aZ):Option (aE×aZ):=
  (if j.Op.Kind == 6 then uK s w_ j (j.Pc == 0) else uK s w_ j false)
def cH(w_:Int)(x3:aE)(x4:aZ):Option aE:=
  (idx x3.aV w_).bind fun x5=>some ({x3 with aV:=x3.aV.set w_.toNat x4}:aE)
def K7(s:aE)(w_:Int):Option aE:=
  (idx s.aV w_).bind fun x1=>(if !x1.dE then (vX s w_).bind fun x2=>some x2 else (if x1.Pc == 9 then need (s.Log.length+([(⟨4,w_,x1.aG,x1.Op.Cell,x1.H,x1.cV,x1.Code⟩:Ev)]).length≤1073741824) (some ({s with aV:=s.aV.set w_.toNat (⟨false,(⟨0,0,0,0⟩:dO),0,0,(⟨0,0,0,0,0,0,0,0,0,false⟩:Sub),0,0,0,0⟩:aZ),Log:=s.Log++([(⟨4,w_,x1.aG,x1.Op.Cell,x1.H,x1.cV,x1.Code⟩:Ev)])}:aE)) else (if x1.Op.Kind == 1 then (DN s w_ x1).bind fun x6=>cH w_ x6.1 x6.2 else (if x1.Op.Kind == 2 then (DO s w_ x1).bind fun x7=>cH w_ x7.1 x7.2 else (if x1.Op.Kind == 3 then (DP s w_ x1).bind fun x8=>cH w_ x8.1 x8.2 else (if x1.Op.Kind == 7 then (AU s w_ x1).bind fun x9=>cH w_ x9.1 x9.2 else (wA s w_ x1).bind fun x10=>cH w_ x10.1 x10.2))))))
end
end Go.Gv
end
