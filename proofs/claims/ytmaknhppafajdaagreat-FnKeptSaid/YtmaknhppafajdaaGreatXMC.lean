import Derived.Test.YtmaknhppafajdaaGreatXMB
set_option linter.unusedVariables false
set_option linter.unusedSimpArgs false
set_option linter.unusedSectionVars false
set_option linter.constructorNameAsVariable false
set_option linter.unnecessarySimpa false
noncomputable section
namespace Go.Gv
def swN(i j n:Nat):Nat:=match Nat.beq n i with
  | true=>j
  | false => match Nat.beq n j with
    | true=>i
    | false=>n
def swC(i j:Nat):SV→SV
  | .p n o=>.p (swN i j n) o
  | x=>x
def aM0(i j:Nat):List SV→List SV
  | []=>[]
  | x :: r=>swC i j x :: aM0 i j r
def swG(i j:Nat):SV→SV
  | .g cs=>.g (aM0 i j cs)
  | x=>swC i j x
def aTQ(i j:Nat):List SV→List SV
  | []=>[]
  | x :: r=>swG i j x :: aTQ i j r
def swF(i j:Nat):List Nat→List Nat
  | []=>[]
  | n :: r=>swN i j n :: swF i j r
def swT(i j:Nat):SV→SV
  | .t cs=>.t (aTQ i j cs)
  | .f f ns=>.f f (swF i j ns)
  | x=>swG i j x
def swE(i j:Nat):SE→SE
  | []=>[]
  | (k,x) :: r=>(k,swT i j x) :: swE i j r
def swL(i j:Nat):List Ch→List Ch
  | []=>[]
  | x :: r => (match x with
    | .box n cs=>.box (swN i j n) (aM0 i j cs)
    | .ro n cs=>.ro (swN i j n) (aM0 i j cs)
    | .w n b z=>.w (swN i j n) b z
    | y=>y) :: swL i j r
noncomputable section
variable {B B':Bl} {i j:Nat}
theorem aQR(h:∀n,B'[swN i j n]?=B[n]?)(x:SV):bQ B' (swC i j x)=bQ B x:=by
  cases x <;> first | rfl | (simp only [swC,bQ,h])
theorem Y2(h:∀n,B'[swN i j n]?=B[n]?):∀cs:List SV,aY (bQ B') (aM0 i j cs)=aY (bQ B) cs
  | []=>rfl
  | x :: r=>by simp only [aM0,aY,aQR h,Y2 h r]
theorem aJM(h:∀n,B'[swN i j n]?=B[n]?)(x:SV):gV B' (swG i j x)=gV B x:=by
  cases x with
  | g cs=>simp only [swG,gV,Y2 h]
  | p n o=>exact aQR h (.p n o)
  | _=>rfl
theorem aLY(h:∀n,B'[swN i j n]?=B[n]?):∀cs:List SV,aY (gV B') (aTQ i j cs)=aY (gV B) cs
  | []=>rfl
  | x :: r=>by simp only [aTQ,aY,aJM h,aLY h r]
theorem aQS(h:∀n,B'[swN i j n]?=B[n]?):∀cs:List Nat,aY (NN B') (swF i j cs)=aY (NN B) cs
  | []=>rfl
  | x :: r=>by simp only [swF,aY,NN,h];rw [show aY (NN B') (swF i j r)=aY (NN B) r from aQS h r]
theorem aWO(h:∀n,B'[swN i j n]?=B[n]?)(x:SV):eF B' (swT i j x)=eF B x:=by
  cases x with
  | t cs=>simp only [swT,eF,aLY h]
  | f f ns=>simp only [swT,eF,aQS h]
  | g cs=>exact aJM h (.g cs)
  | p n o=>exact aJM h (.p n o)
  | _=>rfl
theorem aQT{k:Nat}{x:SV}:∀{e:SE},zC (swE i j e) k=some x→∃y,zC e k=some y∧x=swT i j y
  | [],h=>by cases h
  | (k', y) :: r, h => by
    simp only [swE,zC] at h ⊢
    split at h
    · rename_i hb;cases h;exact⟨y,rfl,rfl⟩
    · rename_i hb;exact aQT h
theorem aLZ(h:∀n,B'[swN i j n]?=B[n]?){w:World}{R:List Fact}:∀(L:List Ch),gD w (L.map (iB B)) ((swL i j L).map (iB B'))∧((∀x∈L,roF B R x)→∀x∈swL i j L,roF B' R x)
  | []=>⟨.nil,fun _ x hx=>by cases hx⟩
  | x :: L => by
    obtain⟨h1,h2⟩:=aLZ h (w:=w) (R:=R) L
    refine⟨.cons (fun F hF=>?_) h1,fun hr y hy=>?_⟩
    · cases x with
      | box n cs =>
        obtain⟨b,z,vs,k1,k2,k3⟩:=hF
        exact⟨b,z,vs,by rw [h];exact k1,by rw [Y2 h];exact k2,k3⟩
      | _=>exact hF
    · rcases List.mem_cons.1 hy with hy | hy
      · have hx:=hr x (by simp)
        cases x with
        | box n cs=>subst hy;trivial
        | ro n cs =>
          obtain⟨b,z,vs,k1,k2,k3⟩:=hx
          subst hy
          exact⟨b,z,vs,by rw [h];exact k1,by rw [Y2 h];exact k2,k3⟩
        | w n b z=>subst hy;show B'[swN i j n]?=_;rw [h];exact hx
        | o c=>subst hy;trivial
        | no=>subst hy;trivial
        | f f=>subst hy;exact hx
      · exact h2 (fun x hx=>hr x (List.mem_cons_of_mem _ hx)) y hy
end
theorem aYS{B:Bl}{i j:Nat}(hi:i < B.length)(hj:j < B.length):∃B':Bl,B'.length=B.length∧(∀n,B'[swN i j n]?=B[n]?):=by
  refine⟨(B.set i B[j]).set j B[i],by simp,fun n=>?_⟩
  unfold swN
  cases h1:Nat.beq n i with
  | true =>
    have h1:=Nat.eq_of_beq_eq_true h1
    subst h1
    simp only
    rw [List.getElem?_set_self (by simpa using hj),List.getElem?_eq_getElem hi]
  | false =>
    have h1:n≠i:=fun h=>by rw [h] at h1;simp at h1
    cases h2:Nat.beq n j with
    | true =>
      have h2:=Nat.eq_of_beq_eq_true h2
      subst h2
      simp only
      rw [List.getElem?_set_ne h1,List.getElem?_set_self hi,List.getElem?_eq_getElem hj]
    | false =>
      have h2:n≠j:=fun h=>by rw [h] at h2;simp at h2
      simp only
      rw [List.getElem?_set_ne (Ne.symm h2),List.getElem?_set_ne (Ne.symm h1)]
noncomputable section
variable {n:Nat} {c:Ctx} {B0:Bl} {m:Nat} {e:SE} {L:List Ch}
theorem UM{Z:Act→World→Prop}(i j:Nat)(h:(Nat.ble B0.length i && (Nat.ble B0.length j && (Nat.blt i m && Nat.blt j m)))=true)
    (kk:∀a w,lZ n c B0 m (swE i j e) (swL i j L) a w→Z a w):∀a w,lZ n c B0 m e L a w→Z a w:=by
  simp only [Bool.and_eq_true,Nat.ble_eq,Nat.blt_eq] at h
  obtain⟨h1,h2,h3,h4⟩:=h
  intro a w ⟨B,hm,hA,hS⟩
  refine kk a w ?_
  rw [List.length_append] at hm
  obtain⟨B',hl,hB⟩:=aYS (B:=B) (i:=i - B0.length) (j:=j - B0.length) (by omega) (by omega)
  have key:∀n,(B0++B')[swN i j n]?=(B0++B)[n]?:=by
    intro n
    have hsw:∀n,n < B0.length→swN i j n=n:=fun n hn=>by
      unfold swN
      cases e1:Nat.beq n i with
      | true=>have:=Nat.eq_of_beq_eq_true e1;omega
      | false =>
        cases e2:Nat.beq n j with
        | true=>have:=Nat.eq_of_beq_eq_true e2;omega
        | false=>rfl
    have hge:∀n,B0.length≤n→swN i j n=B0.length+swN (i - B0.length) (j - B0.length) (n - B0.length):=fun n hn=>by
      have q1:Nat.beq (n - B0.length) (i - B0.length)=Nat.beq n i:=by
        rw [Bool.eq_iff_iff];simp only [Nat.beq_eq];omega
      have q2:Nat.beq (n - B0.length) (j - B0.length)=Nat.beq n j:=by
        rw [Bool.eq_iff_iff];simp only [Nat.beq_eq];omega
      unfold swN
      rw [q1,q2]
      cases Nat.beq n i <;> cases Nat.beq n j <;> simp only <;> omega
    by_cases hn:n < B0.length
    · rw [hsw n hn,List.getElem?_append_left hn,List.getElem?_append_left hn]
    · rw [hge n (by omega),List.getElem?_append_right (by omega),List.getElem?_append_right (by omega),Nat.add_sub_cancel_left]
      exact hB _
  refine⟨B',by rw [List.length_append];omega,⟨hA.d,hA.size,fun k x hk=>?_⟩,?_⟩
  · obtain⟨y,g1,rfl⟩:=aQT hk
    obtain⟨v,g2,g3⟩:=hA.get k y g1
    exact⟨v,by rw [aWO key];exact g2,g3⟩
  · obtain⟨⟨R,s1,s2⟩,s0⟩:=hS
    obtain⟨g1,g2⟩:=aLZ key (w:=w) (R:=R) L
    exact⟨⟨R,s1.imp g1,g2 s2⟩,s0⟩
theorem pnR{Z:Act→World→Prop}{α:Type}[aN α](j:Nat){s:AC}{l:List α}{n0:Nat}(hl:l.length=n0)(hj:L[j]?=some (ow s l))
    (kk:∀a w,lZ n c B0 m e (L.set j (.o (eY [s.v n0] l))) a w→Z a w):∀a w,lZ n c B0 m e L a w→Z a w:=by
  subst hl
  have:L.set j (.o (eY [s.v l.length] l))=L:=by
    obtain⟨h1,h2⟩:=List.getElem?_eq_some_iff.1 hj
    rw [←show L[j]=.o (eY [s.v l.length] l) from h2];exact List.set_getElem_self h1
  rw [this] at kk
  exact kk
end
def fc1:SV→Option SV
  | .i k x=>some (.i k x)
  | .y b=>some (.y b)
  | .b c=>some (.b c)
  | .l c=>some (.l c)
  | .s l=>some (.s l)
  | .p n o=>some (.p n o)
  | .h s n=>some (.h s n)
  | .e s n i o=>some (.e s n i o)
  | .k x=>some (.k x)
  | .g cs=>some (.g cs)
  | .t cs=>some (.t cs)
  | .f f cs=>some (.f f cs)
  | .u=>some .u
def fcs:List SV→Option (List SV)
  | []=>some []
  | x :: r => match fc1 x with
    | some y => match fcs r with
      | some s=>some (y :: s)
      | none=>none
    | none=>none
def fc2:SV→Option SV
  | .g cs => match fcs cs with
    | some ds=>some (.g ds)
    | none=>none
  | x=>fc1 x
def fgs:List SV→Option (List SV)
  | []=>some []
  | x :: r => match fc2 x with
    | some y => match fgs r with
      | some s=>some (y :: s)
      | none=>none
    | none=>none
def fc3:SV→Option SV
  | .t cs => match fgs cs with
    | some ds=>some (.t ds)
    | none=>none
  | x=>fc2 x
def fdE:SE→Option SE
  | []=>some []
  | (k, v) :: r => match fc3 v with
    | some y => match fdE r with
      | some s=>some ((k,y) :: s)
      | none=>none
    | none=>none
def fdL:List Ch→Option (List Ch)
  | []=>some []
  | x :: r => match fdL r with
    | some s => match x with
      | .box n cs => match fcs cs with
        | some ds=>some (.box n ds :: s)
        | none=>none
      | .ro n cs => match fcs cs with
        | some ds=>some (.ro n ds :: s)
        | none=>none
      | y=>some (y :: s)
    | none=>none
theorem aQU{x y:SV}(h:fc1 x=some y):y=x:=by cases x <;> simp only [fc1] at h <;> cases h <;> rfl
theorem aFZ:∀{l r:List SV},fcs l=some r→r=l
  | [],r,h=>by cases h;rfl
  | x :: l, r, h => by
    simp only [fcs] at h
    split at h
    · rename_i y hy
      split at h
      · rename_i s hs;cases h;rw [aQU hy,aFZ hs]
      · cases h
    · cases h
theorem aQV{x y:SV}(h:fc2 x=some y):y=x:=by
  cases x with
  | g cs =>
    simp only [fc2] at h
    split at h
    · rename_i ds hd;cases h;rw [aFZ hd]
    · cases h
  | _=>exact aQU h
theorem aQW:∀{l r:List SV},fgs l=some r→r=l
  | [],r,h=>by cases h;rfl
  | x :: l, r, h => by
    simp only [fgs] at h
    split at h
    · rename_i y hy
      split at h
      · rename_i s hs;cases h;rw [aQV hy,aQW hs]
      · cases h
    · cases h
theorem aWP{x y:SV}(h:fc3 x=some y):y=x:=by
  cases x with
  | t cs =>
    simp only [fc3] at h
    split at h
    · rename_i ds hd;cases h;rw [aQW hd]
    · cases h
  | _=>exact aQV h
theorem aQX:∀{e r:SE},fdE e=some r→r=e
  | [],r,h=>by cases h;rfl
  | (k, v) :: l, r, h => by
    simp only [fdE] at h
    split at h
    · rename_i y hy
      split at h
      · rename_i s hs;cases h;rw [aWP hy,aQX hs]
      · cases h
    · cases h
theorem aQY:∀{e r:List Ch},fdL e=some r→r=e
  | [],r,h=>by cases h;rfl
  | x :: l, r, h => by
    simp only [fdL] at h
    split at h
    · rename_i s hs
      have:=aQY hs
      subst this
      split at h
      · split at h
        · rename_i ds hds;cases h;rw [aFZ hds]
        · cases h
      · split at h
        · rename_i ds hds;cases h;rw [aFZ hds]
        · cases h
      · cases h;rfl
    · cases h
theorem fD{n:Nat}{c:Ctx}{B0:Bl}{m:Nat}{e e1:SE}{L L1:List Ch}{Z:Act→World→Prop}(h1:fdE e=some e1)(h2:fdL L=some L1)(kk:∀a w,lZ n c B0 m e1 L1 a w→Z a w):∀a w,lZ n c B0 m e L a w→Z a w:=by
  have:=aQX h1
  have:=aQY h2
  subst e1;subst L1
  exact kk
end Go.Gv
end
noncomputable section
namespace Go.Gv
universe u
theorem Q{α:Sort u}{a:α}:a=a:=Eq.refl a
def W{ρ:Type}(C:Prop)(r:ρ)(F:Option ρ):Prop:=F=some r→C
theorem wm{ρ:Type}{C:Prop}{r:ρ}{F F':Option ρ}(h:F'=F)(k:W C r F):W C r F':=h ▸ k
theorem wi{ρ:Type}{C:Prop}{r:ρ}{F:Option ρ}(h:F=some r)(k:W C r F):C:=k h
def VS(P:Program)(c:Ctx)(f:FuncId){ρ ex:Type}(F:Option ρ)(xs:List SV)(B0:Bl)(L0:List Ch)(sv:ρ→ex→SV)(Lf:ρ→ex→List Ch):Prop:=∀r,F=some r→FnS P f c xs B0 L0 sv Lf r
abbrev V0(P:Program)(c:Ctx)(f:FuncId){ρ:Type}(F:Option ρ)(xs:List SV)(sv:ρ→SV):Prop:=VS P c f F xs [] [] (fun r (_:Unit)=>sv r) (fun _ _=>[])
theorem VS.r{P:Program}{c:Ctx}{f:FuncId}{ρ ex:Type}{F:Option ρ}{xs:List SV}{B0:Bl}{L0:List Ch}{sv:ρ→ex→SV}{Lf:ρ→ex→List Ch}(h:VS P c f F xs B0 L0 sv Lf){r:ρ}(hF:F=some r):FnS P f c xs B0 L0 sv Lf r:=h r hF
def QR(P:Program)(fn:Func){rs:List ResultVar}(_:fn.results=rs.toArray)(c:Ctx)(B0:Bl){ρ ex:Type}(sv:ρ→ex→SV)(Lf:ρ→ex→List Ch)(r:ρ):Act→World→Prop:=QS P fn c B0 sv Lf r
def aQZ(T:TT)(rs:List ResultVar)(is:List Nat)(b0:Nat)(L2:List Ch):Stop→Option (SV×List Ch)
  | .ret m e L => match aFG T e L rs with
    | some x => match EW b0 (nbS x) with
      | true => match QV b0 m e L is b0 [] L2 with
        | some ([],L3)=>some (nbS x,L3)
        | _=>none
      | false=>none
    | none=>none
  | _=>none
def aM1(is:List Nat)(b0 mj:Nat)(ej:SE)(Lj:List Ch):Stop→Option (SE×List Ch)
  | .fin m e L=>QV b0 m e L is mj ej Lj
  | _=>none
def exQ(is:List Nat)(id b0 mj:Nat)(ej:SE)(Lj:List Ch):Stop→Option (SE×List Ch)
  | .ex i m e L => match Nat.beq i id with
    | true=>QV b0 m e L is mj ej Lj
    | false=>none
  | _=>none
def aYT:Stop→Stop
  | .fin m e L=>.ret m e L
  | _=>.stuck
def ixT(T:TT)(t n:Nat):Bool:=match y8 T t with
  | some ⟨.sl el, _, _, _⟩ => match y8 T el with
    | some ⟨_,_,sz,_⟩=>Nat.beq n sz
    | none=>false
  | _=>false
noncomputable section
variable {P:Program} {T:TT} {hT:EX P T} {n:Nat} {c:Ctx} {B0:Bl} {N:Act→World→Prop} {X:Nat→Act→World→Prop} {Q:Act→World→Prop} {K K':List Fr} {m m':Nat} {e e':SE} {L L' Lv:List Ch} {cf cf' cf1 cf2:uZ} {o:Oper}
theorem cE(hT:EX P T){f:FuncId}{fn:Func}{cd:Code}{xs:List SV}{L0:List Ch}{ρ ex:Type}{sv:ρ→ex→SV}{Lf:ρ→ex→List Ch}{F:Option ρ}{rs:List ResultVar}(hc:∀args w,(callFunc f args).run P w=.ok (.enter f args) w)(hf:P.funcs[f]?=some fn)(hr:fn.results=rs.toArray)(hb:fn.body=some cd)(hm:fn.ntmps=n)
    (k:∀{r},W (G (.mk P T hT n c B0 (QR P fn hr c B0 sv Lf r) (fun _ _ _=>False) (QR P fn hr c B0 sv Lf r)) [] B0.length (aEF 0 xs) L0 (.c cd)) r F) (hl:Nat.ble xs.length n=true:=by exact rfl):VS P c f F xs B0 L0 sv Lf:=
  fun _ hF=>en n hc hf hT hb hm hl (k hF)
theorem aL0{rs:List ResultVar}{is:List Nat}{b0:Nat}{L2 L3:List Ch}{s:SV}{st:Stop}(h:aQZ T rs is b0 L2 st=some (s,L3)):∃m' e' L' x,st=.ret m' e' L'∧aFG T e' L' rs=some x∧nbS x=s∧EW b0 s=true∧QV b0 m' e' L' is b0 [] L2=some ([],L3):=by
  unfold aQZ at h
  split at h
  · split at h
    · rename_i h1
      split at h
      · rename_i h2
        split at h
        · rename_i h3
          cases h
          exact⟨_,_,_,_,rfl,h1,rfl,h2,h3⟩
        · cases h
      · cases h
    · cases h
  · cases h
theorem dV{fn:Func}{ρ ex:Type}{sv:ρ→ex→SV}{Lf:ρ→ex→List Ch}{r r':ρ}{rs:List ResultVar}{hr:fn.results=rs.toArray}{zz:Option ρ}(y:ex)(is:List Nat)(hz:zz=some r')(h:aQZ T rs is B0.length (Lf r' y) (iZ T n K cf m e L)=some (sv r' y,Lf r' y)):W (G (.mk P T hT n c B0 N X (QR P fn hr c B0 sv Lf r)) K m e L cf) r zz:=fun hF=>by
  obtain⟨_,_,_,_,h1,h2,h3,h4,h5⟩:=aL0 h
  exact rt y is hF hz h1 hr h2 h3 h4 h5
theorem cJ{fn:Func}{ρ:Type}{sv:ρ→Unit→SV}{Lf:ρ→Unit→List Ch}{r r':ρ}{rs:List ResultVar}{hr:fn.results=rs.toArray}{zz:Option ρ}(hz:zz=some r')(h:aQZ T rs [] B0.length (Lf r' ()) (iZ T n K cf m e L)=some (sv r' (),Lf r' ())):W (G (.mk P T hT n c B0 N X (QR P fn hr c B0 sv Lf r)) K m e L cf) r zz:=dV () [] hz h
theorem S3{fn:Func}{ρ ex:Type}{sv:ρ→ex→SV}{Lf:ρ→ex→List Ch}{r r':ρ}{rs:List ResultVar}{hr:fn.results=rs.toArray}{zz:Option ρ}(y:ex)(is:List Nat)(hz:zz=some r')(h:aQZ T rs is B0.length (Lf r' y) (aYT (iZ T n K cf m e L))=some (sv r' y,Lf r' y)):W (G (.mk P T hT n c B0 (QR P fn hr c B0 sv Lf r) X Q) K m e L cf) r zz:=fun hF=>by
  obtain⟨m',e',L',_,h1,h2,h3,h4,h5⟩:=aL0 h
  refine rf y is hF hz (m':=m') (e':=e') (L':=L') ?_ hr h2 h3 h4 h5
  unfold aYT at h1
  split at h1
  · rename_i h0;rw [h0];cases h1;rfl
  · cases h1
theorem aL1{is:List Nat}{b0 mj:Nat}{ej e3:SE}{Lj L3:List Ch}{st:Stop}(h:aM1 is b0 mj ej Lj st=some (e3,L3)):∃m' e' L',st=.fin m' e' L'∧QV b0 m' e' L' is mj ej Lj=some (e3,L3):=by
  unfold aM1 at h
  split at h
  · exact⟨_,_,_,rfl,h⟩
  · cases h
theorem eP{π υ α:Type}{eq:π→Prop}{mj:Nat}{ej:π→υ→SE}{Lj:π→υ→List Ch}{p:π}{q:α}{zz:Option α}(u:υ)(is:List Nat)(hz:(zz=some q)=eq p)(h:aM1 is B0.length mj (ej p u) (Lj p u) (iZ T n K cf m e L)=some (ej p u,Lj p u)):W (G (.mk P T hT n c B0 (JP n c B0 eq mj ej Lj) X Q) K m e L cf) q zz:=fun hF=>by
  obtain⟨_,_,_,h1,h2⟩:=aL1 h
  exact jn u is (hz ▸ hF) h1 h2
theorem cA{π α:Type}{eq:π→Prop}{mj:Nat}{ej:π→Unit→SE}{Lj:π→Unit→List Ch}{p:π}{q:α}{zz:Option α}(is:List Nat)(hz:(zz=some q)=eq p)(h:aM1 is B0.length mj (ej p ()) (Lj p ()) (iZ T n K cf m e L)=some (ej p (),Lj p ())):W (G (.mk P T hT n c B0 (JP n c B0 eq mj ej Lj) X Q) K m e L cf) q zz:=eP () is hz h
theorem GA{σ ρ υ:Type}{o:Step σ ρ}{mj:Nat}{el:σ→υ→SE}{Ll:σ→υ→List Ch}{s:σ}(u:υ)(is:List Nat)(h:aM1 is B0.length mj (el s u) (Ll s u) (iZ T n K cf m e L)=some (el s u,Ll s u)):W (G (.mk P T hT n c B0 (NxP n c B0 o mj el Ll) X Q) K m e L cf) o (some (Step.next s)):=fun hF=>by
  obtain⟨_,_,_,h1,h2⟩:=aL1 h
  exact nx u is hF h1 h2
theorem y9{σ ρ:Type}{o:Step σ ρ}{mj:Nat}{el:σ→Unit→SE}{Ll:σ→Unit→List Ch}{s:σ}(is:List Nat)(h:aM1 is B0.length mj (el s ()) (Ll s ()) (iZ T n K cf m e L)=some (el s (),Ll s ())):W (G (.mk P T hT n c B0 (NxP n c B0 o mj el Ll) X Q) K m e L cf) o (some (Step.next s)):=GA () is h
def BkR(n:Nat)(c:Ctx)(B0:Bl){β ρ σ υ:Type}{o:Step σ ρ}{ro:ρ}(_:∀p,o=.stop p→p=ro)(enc:β→ρ)(m:Nat)(ej:β→υ→SE)(Lj:β→υ→List Ch)(id:Nat)(X:Nat→Act→World→Prop):Nat→Act→World→Prop:=BkP n c B0 ro enc m ej Lj id X
theorem HP{σ ρ β υ:Type}{o:Step σ ρ}{ro:ρ}{enc:β→ρ}{mj id:Nat}{ej:β→υ→SE}{Lj:β→υ→List Ch}{b:β}{hr:∀p,o=.stop p→p=ro}(u:υ)(is:List Nat)(h:exQ is id B0.length mj (ej b u) (Lj b u) (iZ T n K cf m e L)=some (ej b u,Lj b u)):W (G (.mk P T hT n c B0 N (BkR n c B0 hr enc mj ej Lj id X) Q) K m e L cf) o (some (Step.stop (enc b))):=fun hF=>by
  unfold exQ at h
  split at h
  · rename_i h0
    split at h
    · rename_i hb
      rw [Nat.eq_of_beq_eq_true hb] at h0
      exact bk u is hF hr h0 h
    · cases h
  · cases h
theorem zA{σ ρ β:Type}{o:Step σ ρ}{ro:ρ}{enc:β→ρ}{mj id:Nat}{ej:β→Unit→SE}{Lj:β→Unit→List Ch}{b:β}{hr:∀p,o=.stop p→p=ro}(is:List Nat)(h:exQ is id B0.length mj (ej b ()) (Lj b ()) (iZ T n K cf m e L)=some (ej b (),Lj b ())):W (G (.mk P T hT n c B0 N (BkR n c B0 hr enc mj ej Lj id X) Q) K m e L cf) o (some (Step.stop (enc b))):=HP () is h
theorem J4{σ ρ α:Type}{o:Step σ ρ}{p ro:ρ}{F:ρ→Option α}{q:α}{C:Prop}(hr:∀p,o=.stop p→p=ro)(hF:F ro=some q)(k:W C q (F p)):W C o (some (Step.stop p)):=fun h=>k (re h rfl hr hF)
noncomputable section
variable {b:Bool} {α:Type} {A B':Option α} {q:α}
theorem bG{o:Operand}{x y:Code}(ss:List Nat)(hs:iZ T n K cf m e L=.cond o b x y K' m' e' L')(ho:aY (zC e') ss=some (ss.map fun _=>SV.b b))
    (k1:W (G (.mk P T hT n c B0 N X Q) K' m' (ovr true e' ss) L' (.c x)) q A) (k2:W (G (.mk P T hT n c B0 N X Q) K' m' (ovr false e' ss) L' (.c y)) q B'):W (G (.mk P T hT n c B0 N X Q) K m e L cf) q (if b=true then A else B'):=fun hF=>cs ss hs ho hF k1 k2
theorem aQ0{o:Operand}{x y:Code}(ss:List Nat)(hs:iZ T n K cf m e L=.cond o b x y K' m' e' L')(ho:aY (zC e') ss=some (ss.map fun _=>SV.b b))
    (k1:b=true→W (G (.mk P T hT n c B0 N X Q) K' m' (ovr true e' ss) L' (.c x)) q A) (k2:b=false→W (G (.mk P T hT n c B0 N X Q) K' m' (ovr false e' ss) L' (.c y)) q B'):W (G (.mk P T hT n c B0 N X Q) K m e L cf) q (if b=true then A else B'):=fun hF=>csK ss hs ho hF k1 k2
theorem eE(ss:List Nat)(hs:iZ T n K cf m e L=.case b cf' K' m' e' L')(ho:aY (zC e') ss=some (ss.map fun _=>SV.b b))
    (k1:W (G (.mk P T hT n c B0 N X Q) K' m' (ovr true e' ss) L' cf') q A) (k2:W (G (.mk P T hT n c B0 N X Q) K' m' (ovr false e' ss) L' cf') q B'):W (G (.mk P T hT n c B0 N X Q) K m e L cf) q (if b=true then A else B'):=fun hF=>ca ss hs ho hF k1 k2
theorem a0G(ss:List Nat)(hs:iZ T n K cf m e L=.case b cf' K' m' e' L')(ho:aY (zC e') ss=some (ss.map fun _=>SV.b b))
    (k1:b=true→W (G (.mk P T hT n c B0 N X Q) K' m' (ovr true e' ss) L' cf') q A) (k2:b=false→W (G (.mk P T hT n c B0 N X Q) K' m' (ovr false e' ss) L' cf') q B'):W (G (.mk P T hT n c B0 N X Q) K m e L cf) q (if b=true then A else B'):=fun hF=>caK ss hs ho hF k1 k2
end
noncomputable section
variable {α β:Type} {fo:Option α} {kf:α→Option β} {q:β} {d:Nat} {f:FuncId} {xs:List SV}
theorem c0{sv:α→SV}(hs:iZ T n K cf m e L=.call o (some d) f xs cf1 cf2 K' m' e' L')
    (hc:∀{w},HS c w L'→V0 P (cG w) f fo xs sv) (k:∀x,W (G (.mk P T hT n c B0 N X Q) K' m' ((d,sv x) :: e') L' cf2) q (kf x)):W (G (.mk P T hT n c B0 N X Q) K m e L cf) q (fo.bind kf):=fun hF=>cl0 hs (fun h _ hx=>hc h _ hx) hF fun x _ h=>k x h
theorem c1{ex:Type}{sv:α→ex→SV}{Lf:α→ex→List Ch}(hs:iZ T n K cf m e L=.call o (some d) f xs cf1 cf2 K' m' e' L')
    (hc:∀{w},HS c w L'→VS P (cG w) f fo xs [] [] sv Lf) (k:∀x,∀y:ex,W (G (.mk P T hT n c B0 N X Q) K' m' ((d,sv x y) :: e') (L'++Lf x y) cf2) q (kf x)) (hn:∀x y,noF (Lf x y)=true:=by exact fun _ _=>rfl):W (G (.mk P T hT n c B0 N X Q) K m e L cf) q (fo.bind kf):=fun hF=>cl hs hn (fun h _ hx=>hc h _ hx) hF fun x _ h y=>k x y h
theorem D4{β:Type}{kf:α→Option β}{q:β}{iR:aN α}(C:QL α){d t:Nat}{s:AC}{i:Int}{ls:List α}(hs:iZ T n K cf m e L=.idx o d t s ls.length i Lv cf1 cf2 K' m' e' L')(h1:bL c s ls)(ht:ixT T t (aN.n α)=true)
    (k:∀x,∀y:C.ex,C.sub c.S0 c.w0 x y→W (G (.mk P T hT n c B0 N X Q) K' (m'+1) ((d,.p m' 0) :: e') (L' ++ [.ro m' (C.cs x y)]) (cf2.ext [.ro m' (C.cs x y)])) q (kf x)):W (G (.mk P T hT n c B0 N X Q) K m e L cf) q ((idx ls i).bind kf):=fun hF=>by
  unfold ixT at ht
  split at ht
  · rename_i h2
    split at ht
    · rename_i h3
      exact ix C hs h1 hF h2 h3 (Nat.eq_of_beq_eq_true ht) fun x _ h y hy=>k x y hy h
    · cases ht
  · cases ht
theorem K8{β:Type}{kf:Int→Option β}{q:β}{d t:Nat}{s:AC}{i:Int}{ls:List Int}(hs:iZ T n K cf m e L=.idx o d t s ls.length i Lv cf1 cf2 K' m' e' L')(h1:bL c s ls)(ht:ixT T t 1=true)
    (k:∀x,W (G (.mk P T hT n c B0 N X Q) K' (m'+1) ((d,.p m' 0) :: e') (L' ++ [.ro m' [.i .i64 x]]) (cf2.ext [.ro m' [.i .i64 x]])) q (kf x)):W (G (.mk P T hT n c B0 N X Q) K m e L cf) q ((idx ls i).bind kf):=D4 cI hs h1 ht fun x _ _=>k x
theorem eG(hm:P.follows .mixedOrders=true){id:Nat}{ops:Array Oper}{zz:Option β}(is:List Nat)(hs:iZ T n K cf m e L=.rgn id ops K' m' e' L')
    (k:∀{B1},W (G (.mk P T hT n c B0 N X Q) K' m' e' L' (.d B1 ops (List.replicate ops.size false) is (kl L' is) (kl L' is))) q zz) (hf:(aHB ops && (okL m' (kl L' is) && (cZ is && is.all fun j=>Nat.blt j L'.length)))=true:=by kernel_rfl):W (G (.mk P T hT n c B0 N X Q) K m e L cf) q zz:=fun hF=>dr is hs hm hf fun _=>k hF
theorem dB{π υ:Type}{zz:Option β}(j mj:Nat)(Fj:π→Option β)(ks:List Nat)(ej:π→υ→SE)(is:List Nat)(Lj:π→υ→List Ch)(hs:R0 (iZ T n K cf m e L)=some (K',cf',m',e',L'))
    (k1:W (G (.mk P T hT n c B0 (JP n c B0 (fun p=>Fj p=some q) mj (fun p u=>ej p u++kp e' ks) (fun p u=>Lj p u++kl L' is)) (XK (.mk P T hT n c B0 N X Q) (K'.drop j)) Q) (K'.take j) m' e' L' cf') q zz)
    (k2:∀p u,W (G (.mk P T hT n c B0 N X Q) (K'.drop j) mj (ej p u++kp e' ks) (Lj p u++kl L' is) .n) q (Fj p)):W (G (.mk P T hT n c B0 N X Q) K m e L cf) q zz:=fun hF=>cut j mj (fun p=>Fj p=some q) ks ej is Lj hs (k1 hF) fun p u h=>k2 p u h
theorem dE{zz:Option β}(j mj:Nat)(Fj:Bool→Option β)(ks:List Nat)(v:Nat)(is:List Nat)(hs:R0 (iZ T n K cf m e L)=some (K',cf',m',e',L'))
    (k1:W (G (.mk P T hT n c B0 (JP n c B0 (fun p=>Fj p=some q) mj (fun p (_:Unit)=>[(v,.b p)]++kp e' ks) (fun _ _=>[]++kl L' is)) (XK (.mk P T hT n c B0 N X Q) (K'.drop j)) Q) (K'.take j) m' e' L' cf') q zz)
    (k2:∀p,W (G (.mk P T hT n c B0 N X Q) (K'.drop j) mj ([(v,.b p)]++kp e' ks) ([]++kl L' is) .n) q (Fj p)):W (G (.mk P T hT n c B0 N X Q) K m e L cf) q zz:=dB j mj Fj ks (fun p (_:Unit)=>[(v,.b p)]) is (fun _ _=>[]) hs k1 fun p _=>k2 p
theorem tS{σ ρ υ γ ω:Type}{id:Nat}{y:Code}{fb:σ→Option (Step σ ρ)}{s0:σ}{gk:ρ→Option β}(u0:υ)(ks:List Nat)(el:σ→υ→SE)(is0 is:List Nat)(Ll:σ→υ→List Ch)(enc:γ→ρ)(kb:List Nat)(ej:γ→ω→SE)(ib:List Nat)(Lj:γ→ω→List Ch)
    (hs:iZ T n K cf m e L=.loop id y K' m' e' L')
    (h0:QV B0.length m' e' L' is0 m' (el s0 u0++kp e' ks) (Ll s0 u0++kl L' is)=some (el s0 u0++kp e' ks,Ll s0 u0++kl L' is))
    (k1:∀{ro o},gk ro=some q→∀s u,(hr:∀p,o=.stop p→p=ro)→W (G (.mk P T hT n c B0 (NxP n c B0 o m' (fun s u=>el s u++kp e' ks) (fun s u=>Ll s u++kl L' is)) (BkR n c B0 hr enc m' (fun b u=>ej b u++kp e' kb) (fun b u=>Lj b u++kl L' ib) id (XK (.mk P T hT n c B0 N X Q) K')) Q) [] m' (el s u++kp e' ks) (Ll s u++kl L' is) (.c y)) o (fb s))
    (k2:∀b u,W (G (.mk P T hT n c B0 N X Q) K' m' (ej b u++kp e' kb) (Lj b u++kl L' ib) .n) q (gk (enc b))):W (G (.mk P T hT n c B0 N X Q) K m e L cf) q ((loop fb s0).bind gk):=fun hF=>
  lp u0 ks el is0 is Ll enc kb ej ib Lj hs hF h0 (fun ro h1 s u o h2 h3=>k1 h1 s u h3 h2) fun b u h=>k2 b u h
theorem L9{ρ:Type}{id:Nat}{y:Code}{fb:Int→Option (Step Int ρ)}{s0:Int}{gk:ρ→Option β}(v:Nat)(ks:List Nat)(is:List Nat)(enc:Unit→ρ)(kb:List Nat)(ib:List Nat)
    (hs:iZ T n K cf m e L=.loop id y K' m' e' L')
    (h0:QV B0.length m' e' L' is m' ([(v,.i .i64 s0)]++kp e' ks) ([]++kl L' is)=some ([(v,.i .i64 s0)]++kp e' ks,[]++kl L' is))
    (k1:∀{ro o},gk ro=some q→∀s,(hr:∀p,o=.stop p→p=ro)→W (G (.mk P T hT n c B0 (NxP n c B0 o m' (fun s (_:Unit)=>[(v,.i .i64 s)]++kp e' ks) (fun _ _=>[]++kl L' is)) (BkR n c B0 hr enc m' (fun _ (_:Unit)=>[]++kp e' kb) (fun _ _=>[]++kl L' ib) id (XK (.mk P T hT n c B0 N X Q) K')) Q) [] m' ([(v,.i .i64 s)]++kp e' ks) ([]++kl L' is) (.c y)) o (fb s))
    (k2:W (G (.mk P T hT n c B0 N X Q) K' m' ([]++kp e' kb) ([]++kl L' ib) .n) q (gk (enc ()))):W (G (.mk P T hT n c B0 N X Q) K m e L cf) q ((loop fb s0).bind gk):=
  tS () ks (fun s (_:Unit)=>[(v,.i .i64 s)]) is is (fun _ _=>[]) enc kb (fun _ (_:Unit)=>[]) ib (fun _ _=>[]) hs h0 (fun h s _ hr=>k1 h s hr) fun _ _=>k2
theorem qX{β:Type}{kf:α→Option β}{q:β}[aN α](E:CO α)(j:Nat){t:TypeId}{s:AC}{i:Int}{ls:List α}(hs:iZ T n K cf m e L=.idx o d t s ls.length i Lv cf1 cf2 K' m' e' L')(hj:L'[j]?=some (ow s ls))(hz:fB j cf1.A8=true)
    (k:∀x,idx ls i=some x→∀y:E.ex,Shp s ls.length→W (G (.mk P T hT n c B0 N X Q) K' (m'+1) e' (L'.set j .no++([.o (vF (s.v ls.length) ls i.toNat),.box m' (E.cs x y),wOf α m' s ls.length i.toNat]++E.Lx x y)) (cf1.ext [wOf α m' s ls.length i.toNat])) q (kf x)):W (G (.mk P T hT n c B0 N X Q) K m e L cf) q ((idx ls i).bind kf):=fun hF=>oe E j hs hj hz hF fun x h1 h2 y h3=>k x h1 y h3 h2
end
noncomputable section
variable {α β ex:Type} {fo:Option α} {kf:α→Option β} {q:β} {d:Option Nat} {f:FuncId} {xs xs0:List SV} {M:List Ch} {sv:α→ex→SV} {Lr:α→ex→List Ch}
theorem rZ(is:List Nat)
    (hs:cpS (iZ T n K cf m e L)=some (o,d,f,xs,cf1,cf2,K',m',e',L')) (hi:aY (fun i=>L'[i]?) is=some M) (hx:aY (rnP [] 0) xs=some xs0)
    (hk:(N6 M && (cZ is && is.all fun j=>fB j cf1.A8))=true)
    (hc:∀{κ:Ctx},HG c κ L' is→VS P κ f fo xs0 [] M sv Lr)
    (k:∀x,∀y:ex,W (G (.mk P T hT n c B0 N X Q) K' m' (dse d (sv x y) e') (N5 L' is++Lr x y) cf2) q (kf x)) (hn:∀x y,(N6 (Lr x y) && EW 0 (sv x y))=true:=by exact fun _ _=>rfl):W (G (.mk P T hT n c B0 N X Q) K m e L cf) q (fo.bind kf):=fun hF=>
  cw0 is hs hi hx hk hn (fun h _ hx=>hc h _ hx) hF fun x _ h y=>k x y h
theorem bM{c1:List SV}{a1:α→ex→List SV}(i1 n1 o1 k1:Nat)(is:List Nat)
    (hs:cpS (iZ T n K cf m e L)=some (o,d,f,xs,cf1,cf2,K',m',e',L')) (hb:aHM L' [(i1,n1,o1,k1)]=some [c1]) (hi:aY (fun i=>L'[i]?) is=some M) (hx:aY (rnP [(i1,n1,o1,k1)] 0) xs=some xs0)
    (hk:(N6 M && ([c1].all (EW.okC 0) && (cZ (i1 :: is) && (i1 :: is).all fun j=>fB j cf1.A8)))=true)
    (hc:∀{κ:Ctx},HG c κ L' (i1 :: is)→∀{b1:Nat×Nat},VS P κ f fo xs0 [b1] (.box 0 c1 :: M) sv (fun x y=>.box 0 (a1 x y) :: Lr x y))
    (k:∀x,∀y:ex,W (G (.mk P T hT n c B0 N X Q) K' m' (dse d (sv x y) e') (K7 L' (N5 L' (i1 :: is)++Lr x y) [(i1,n1,o1,k1)] [a1 x y]) cf2) q (kf x)) (hn:∀x y,(ZU [(i1,n1,o1,k1)] [a1 x y] && ([a1 x y].all (EW.okC 0) && (N6 (Lr x y) && EW 0 (sv x y))))=true:=by exact fun _ _=>rfl):W (G (.mk P T hT n c B0 N X Q) K m e L cf) q (fo.bind kf):=fun hF=>
  cw1 i1 n1 o1 k1 is hs hb hi hx hk hn (fun h _ _ hx=>hc h _ hx) hF fun x _ h y=>k x y h
theorem aJN{c1 c2:List SV}{a1 a2:α→ex→List SV}(i1 n1 o1 k1:Nat)(i2 n2 o2 k2:Nat)(is:List Nat)
    (hs:cpS (iZ T n K cf m e L)=some (o,d,f,xs,cf1,cf2,K',m',e',L')) (hb:aHM L' [(i1,n1,o1,k1),(i2,n2,o2,k2)]=some [c1,c2]) (hi:aY (fun i=>L'[i]?) is=some M) (hx:aY (rnP [(i1,n1,o1,k1),(i2,n2,o2,k2)] 0) xs=some xs0)
    (hk:(N6 M && ([c1,c2].all (EW.okC 0) && (cZ (i1 :: i2 :: is) && (i1 :: i2 :: is).all fun j=>fB j cf1.A8)))=true)
    (hc:∀{κ:Ctx},HG c κ L' (i1 :: i2 :: is)→∀{b1 b2:Nat×Nat},VS P κ f fo xs0 [b1,b2] (.box 0 c1 :: .box 1 c2 :: M) sv (fun x y=>.box 0 (a1 x y) :: .box 1 (a2 x y) :: Lr x y))
    (k:∀x,∀y:ex,W (G (.mk P T hT n c B0 N X Q) K' m' (dse d (sv x y) e') (K7 L' (N5 L' (i1 :: i2 :: is)++Lr x y) [(i1,n1,o1,k1),(i2,n2,o2,k2)] [a1 x y,a2 x y]) cf2) q (kf x)) (hn:∀x y,(ZU [(i1,n1,o1,k1),(i2,n2,o2,k2)] [a1 x y,a2 x y] && ([a1 x y,a2 x y].all (EW.okC 0) && (N6 (Lr x y) && EW 0 (sv x y))))=true:=by exact fun _ _=>rfl):W (G (.mk P T hT n c B0 N X Q) K m e L cf) q (fo.bind kf):=fun hF=>
  cw2 i1 n1 o1 k1 i2 n2 o2 k2 is hs hb hi hx hk hn (fun h _ _ _ hx=>hc h _ hx) hF fun x _ h y=>k x y h
end
theorem aTR{α β:Type}{iR:aN α}{C:QL α}{sr:β→SV}{g:FuncId}{w:World}{p:α→Option β}(hc:∀args w,(callFunc g args).run P w=.ok (.enter g args) w)(hn:∀{κ:Ctx} {x y},C.sub κ.S0 κ.w0 x y→V0 P κ g (p x) [C.sv x y] sr):Fu1 P (cG w) C sr g [] p:=fu1 hc (by intro κ x y h q hq;exact hn h _ hq)
theorem aJO{α β:Type}{iR:aN α}{C:QL α}{sr:β→SV}{g:FuncId}{w:World}{Bs:Bl}{cs:List (Nat×List SV)}{p:α→Option β}(hc:∀args w,(callFunc g args).run P w=.ok (.enter g args) w)(hB:∀w1,eQ F0 w w1→lE (cG w1) w1 Bs (roL 0 cs))(hl:aY (eF Bs) (aQC 0 cs)=some (ZT Bs))(hn:∀{w1 x y},eQ F0 w w1→C.sub (NU w1) w1 x y→VS P (cG w1) g (p x) (C.sv x y :: aQC 0 cs) Bs (roL 0 cs) (fun r (_:Unit)=>sr r) (fun _ _=>[]))(hz:∀q,EW 0 (sr q)=true:=by exact fun _=>rfl):Fu1 P (cG w) C sr g (ZT Bs) p:=fk1 hc hB hl hz (by intro w1 x y h h' q hq;exact hn h h' _ hq)
noncomputable section
variable {α β:Type} {fo:Option α} {kf:α→Option β} {q:β} {d:Nat} {f g:FuncId} {xs:List SV} {sv:α→SV}
theorem aJP{n1:Nat}{c1:List SV}(is:List Nat)(hs:iZ T n K cf m e L=.callp o (some d) f xs cf1 cf2 K' m' e' L')(hk:kl L' is=[.ro n1 c1])(ho:(aHJ [(n1,c1)] && okA xs.dropLast)=true)(hx:xs=xs.dropLast ++ [.f g [n1]])
    (hc:∀{w},HS c w L'→∀{b1:Nat×Nat},(∀w1,eQ F0 w w1→lE (cG w1) w1 [b1] [.ro 0 c1])→V0 P (cG w) f fo (xs.dropLast ++ [.k (.func (.func g) #[] (ZT [b1]).toArray)]) sv)
    (k:∀x,W (G (.mk P T hT n c B0 N X Q) K' m' ((d,sv x) :: e') L' cf2) q (kf x)):W (G (.mk P T hT n c B0 N X Q) K m e L cf) q (fo.bind kf):=fun hF=>
  aZ4 is hs hk ho hx (fun h _ h2 _ hx=>hc h h2 _ hx) hF fun x _ h=>k x h
end
end
end Go.Gv
end
noncomputable section
namespace Go.Gv
def pV(y:Nat×Nat):Value:=.pointer (some ⟨y.1,y.2,none⟩)
noncomputable section
variable {P:Program} {T:TT} {hT:EX P T} {n:Nat} {c:Ctx} {B0:Bl} {N:Act→World→Prop} {X:Nat→Act→World→Prop} {Q:Act→World→Prop} {K K':List Fr} {m m':Nat} {e e':SE} {L L':List Ch} {cf cf1 cf2:uZ} {o:Oper}
abbrev VP(P:Program)(c:Ctx)(f:FuncId){ρ:Type}(F:Option ρ)(xs:List SV)(cs:ρ→List SV):Prop:=VS P c f F xs [] [] (fun _ (y:Nat×Nat)=>.k (pV y)) (fun r y=>[.o (NO [y] 0 (cs r))])
theorem rtP{fn:Func}{ρ:Type}{r r':ρ}{t:Nat}{hr:fn.results=[ResultVar.tmp t].toArray}{zz:Option ρ}{cs:ρ→List SV}(is:List Nat)(hz:zz=some r')(hs:iZ T n K cf m e L=.ret m' e' L')(hL:QV 0 m' e' L' is 1 [(t,.p 0 0)] [.box 0 (cs r')]=some ([(t,.p 0 0)],[.box 0 (cs r')]))(ho:EW.okC 0 (cs r')=true):W (G (.mk P T hT n c [] N X (QR P fn hr c [] (fun _ (y:Nat×Nat)=>.k (pV y)) (fun r y=>[.o (NO [y] 0 (cs r))]) r)) K m e L cf) r zz:=fun hF=>by
  subst hz;cases hF
  refine eV (g:=.mk P T hT n c [] N X _) ?_
  rw [hs]
  intro a w hr'
  obtain⟨B,hm,hA,hS⟩:=lZ.QV hr' is hL
  have hB:∃y,B=[y]:=by
    cases B with
    | nil=>simp at hm
    | cons y B => cases B with
      | nil=>exact⟨y,rfl⟩
      | cons z B=>simp at hm
  obtain⟨y,rfl⟩:=hB
  have hS:lE c w [y] [.box 0 (cs r)]:=hS
  have hA:eO n [y] [(t,.p 0 0)] a:=hA
  have hv:aFG T [(t,.p 0 0)] [.box 0 (cs r)] [ResultVar.tmp t]=some (.p 0 0):=by simp [aFG,aPJ,zC]
  obtain⟨v,h1,h2⟩:=YV hr hT hA hS hv
  have hv':v=pV y:=by
    simp only [eF,gV,bQ,List.getElem?_cons_zero] at h1
    cases h1;rfl
  subst hv'
  refine⟨hA.d,_,h2,y,by simp [eF,gV,bQ,pV,Value.oneCell'],?_⟩
  obtain⟨⟨R,s1,s2⟩,s0⟩:=hS
  exact⟨⟨R,s1.imp (.cons (fun F h=>h) .nil),fun x hx=>by rcases List.mem_cons.1 hx with rfl | hx <;> first | trivial | simp at hx⟩,s0⟩
theorem cP{α β:Type}{fo:Option α}{kf:α→Option β}{q:β}{d:Nat}{f:FuncId}{xs:List SV}{cs:α→List SV}(hs:iZ T n K cf m e L=.call o (some d) f xs cf1 cf2 K' m' e' L')
    (hc:∀{w},HS c w L'→VP P (cG w) f fo xs cs) (k:∀x,W (G (.mk P T hT n c B0 N X Q) K' (m'+1) ((d,.p m' 0) :: e') (L' ++ [.box m' (cs x)]) cf2) q (kf x)) (hk:∀x,EW.okC 0 (cs x)=true:=by exact fun _=>rfl):W (G (.mk P T hT n c B0 N X Q) K m e L cf) q (fo.bind kf):=fun hF=>by
  refine eV (g:=.mk P T hT n c B0 N X Q) ?_
  rw [hs]
  intro fo' args ats ho hd hf ⟨ys,hys,hxs⟩ hA0 hdn hE
  subst hxs
  cases hfo:fo with
  | none=>rw [hfo] at hF;cases hF
  | some x =>
    rw [hfo] at hF
    refine hE Unit (fun _=>m'+1) (fun _=>(d,.p m' 0) :: e') (fun _=>L' ++ [.box m' (cs x)]) (fun _=>tQ _) (fun B a w next Q' hm hA hS hnext=>?_) (fun _=>k x hF)
    obtain⟨hcall,hrun⟩:=hc ⟨_,hS⟩ x hfo
    obtain⟨vs,h1,h2⟩:=V9 hA hys
    obtain⟨v,h3,h4⟩:=dR hA hf
    simp [eF,aY] at h3
    subst h3
    have h5:=hrun vs (YW hA0 (by rw [P3];exact h1)) (aP3 w)
    have h6:=SY (w:=w) hcall ho h4 h2
    unfold Oper.wp
    rw [h6 _ a hA.env,Oper.upon_enter]
    refine Calls.mono h5 fun en w' ⟨v,hv,y,g1,g2⟩=>?_
    subst hv
    rw [hd]
    have hv':v=pV y:=by simpa [eF,gV,bQ,pV,Value.oneCell'] using g1.symm
    subst hv'
    have hb:∀{F:cL},(NO [y] 0 (cs x)).P w' F→(NO ((SL (.mk P T hT n c B0 N X Q) cf1++B) ++ [y]) m' (cs x)).P w' F:=fun⟨b,z,us,k1,k2,k3⟩=>by
      simp only [List.getElem?_cons_zero,Option.some.injEq] at k1
      refine⟨y.1,y.2,us,?_,?_,by rw [k1];exact k3⟩
      · rw [List.getElem?_append_right (by omega),hm];simp
      · simpa using dZ (fun x v h=>by simpa using eT (B:=[]) (SL (.mk P T hT n c B0 N X Q) cf1++B ++ [y]) h) (E3 (hk x) k2)
    have g3:eF ((SL (.mk P T hT n c B0 N X Q) cf1++B) ++ [y]) (.p m' 0)=some (pV y):=by
      simp only [eF,gV,bQ]
      rw [List.getElem?_append_right (by omega),hm]
      simp [pV]
    refine hnext () _ _ ⟨[y],by simp only [List.length_append,List.length_cons,List.length_nil] at hm ⊢;omega,hA.ext g3 (hA.env.put (by simpa [pY,Nat.blt_eq] using hdn) _),?_⟩
    obtain⟨⟨R,s1,s2⟩,s0⟩:=(hS.after (L2:=[.o (NO [y] 0 (cs x))]) rfl g2).app [y]
    refine⟨⟨R,s1.imp ?_,fun z hz=>?_⟩,s0⟩
    · rw [List.map_append,List.map_append]
      exact gD.append (gD.refl _) (.cons (fun F h=>hb h) .nil)
    · rcases List.mem_append.1 hz with hz | hz
      · exact s2 z (List.mem_append_left _ hz)
      · rcases List.mem_cons.1 hz with rfl | hz <;> first | trivial | simp at hz
end
end Go.Gv
end
noncomputable section
namespace Go.Gv
noncomputable section
variable {n:Nat} {c:Ctx} {B0:Bl} {m:Nat} {e:SE} {L:List Ch}
def kf(L xs:List Ch)(k:Nat):List Nat→List Ch
  | []=>[]
  | i :: is => match Nat.blt i k with
    | true => match L[i]? with
      | some x=>x :: kf L xs k is
      | none=>kf L xs k is
    | false => match xs[i - k]? with
      | some x=>x :: kf L xs k is
      | none=>kf L xs k is
end
end Go.Gv
end
noncomputable section
namespace Go.Gv
noncomputable section
variable {P:Program} {T:TT} {hT:EX P T} {n:Nat} {c:Ctx} {B0:Bl} {N:Act→World→Prop} {X:Nat→Act→World→Prop} {Q:Act→World→Prop} {K K':List Fr} {m m':Nat} {e e':SE} {L L' Lv:List Ch} {cf cf2:uZ} {o:Oper} {d:Nat}
variable {x:Operand} {t t2 el:Nat} {b1 b2 b3:Bool} {n1 n2 n3:Nat} {z1 z2 z3:List SV}
theorem qbd(p i:Nat){B1:Bl}{ops:Array Oper}{lb:List Bool}{is:List Nat}{Lf Lw:List Ch}{s:AC}{l:List UInt8}(hs:iZ T n K cf m e L=.opp o Lv (.d B1 ops lb is Lf Lw) cf2 K' m' e' L')(ho:(o.op,o.dst)=(.convert t t2 x,some d))(ht:y8 T t=some ⟨.sl el,b1,n1,z1⟩)(he:y8 T el=some ⟨.i .u8,b2,n2,z2⟩)(h2:y8 T t2=some ⟨.s,b3,n3,z3⟩)
    (hra:rK lb ops.toList 0=[i]) (hoi:ops.toList[i]?=some o) (hg:vA ops e' o.guard=.yes) (hc:cf2=.d B1 ops (lb.set i true) is Lf Lw) (hp:L'[p]?=some (ow s l)) (hx:fQ e' x=some (.h s l.length))
    (kk:G (.mk P T hT n c B0 N X Q) K' m' ((d,.s l) :: e') L' cf2):G (.mk P T hT n c B0 N X Q) K m e L cf:=by
  refine eV (g:=.mk P T hT n c B0 N X Q) ?_
  rw [hs]
  intro hdn _
  have hd:o.dst=some d:=congrArg Prod.snd ho
  refine aLI hra fun k hk=>?_
  rw [List.mem_singleton.1 hk]
  subst hc
  refine aLH hoi hg Unit (fun _=>m') (fun _=>(d,.s l) :: e') (fun _=>L') (fun _=>?_) (fun B a w next Q' hm hA hS hnext=>?_) (fun _=>kk)
  · have:=tQ (g:=.mk P T hT n c B0 N X Q) (cf:=.o B1 ops lb is Lf Lw i) (L:=L') []
    rw [List.append_nil] at this;exact this
  · have hS':=hS
    obtain⟨⟨R,s1,s2⟩,s0⟩:=hS'
    have hr:=s1.aGX (cs:=[s.v l.length]) (d:=l) p (by simp [hp,iB])
    obtain⟨de,q1,q2⟩:=hT.und _ _ he
    have k1:=aOZ (e:=vE (SL (.mk P T hT n c B0 N X Q) (.o B1 ops lb is Lf Lw i)++B) e') hr (F9 ht hT) (by rw [q1];simp only at q2;rw [q2]) (aQE h2 hT) (congrArg Prod.fst ho) (hdB hA hx)
    unfold Oper.wp
    rw [k1 _ a hA.env,Oper.upon_value,hd]
    exact hnext () _ _ ⟨[],by simpa using hm,by simpa using hA.of rfl (hA.env.put (by rw [hd] at hdn;simpa [pY,Nat.blt_eq] using hdn) _),by simpa using hS⟩
end
end Go.Gv
end
noncomputable section
namespace Go.Gv
structure aB where
  Bytes:List Int
  Class:List Int
  deriving DecidableEq,Inhabited
instance:aN aB:=aN.via (fun d=>(d.Bytes,d.Class))
instance:Fits aB:=Fits.via (fun d=>(d.Bytes,d.Class))
structure aC where
  aJ:List Int
  deriving DecidableEq,Inhabited
instance:aN aC:=aN.via (fun d=>(d.aJ))
instance:Fits aC:=Fits.via (fun d=>(d.aJ))
theorem aHU{S:cL}{w:World}{cs:List Value}{d:aC}(h:aN.rd S w cs d):∃v0:Value,cs=[v0]∧aN.rd S w [v0] d.aJ:=by
  obtain⟨u0,q0⟩:=N2 h
  rw [q0] at h
  exact⟨u0,q0,h⟩
theorem N7(d:aC){v0:Value}:OP [v0] d [eY [v0] d.aJ]:=(show OP (α:=(List Int)) _ (d.aJ) _ from aOS)
theorem _root_.Go.Gv.St.aQ1{c:Ctx}{L:List Chunk}{R:List Fact}{w:World}{s:Value}{l:List aC}{i:Nat}{x:aC}(h:St c w L R)(j:Nat)(hj:R[j]?=some (y7 [s] l))(hi:l[i]?=some x):∃v0:Value,bW w (NY s) (NV 1 i s) [v0]∧St c w L (R ++ [y7 [v0] x.aJ]):=by
  obtain⟨S,hS,hk⟩:=h.aOK hj
  obtain⟨ec,h1,h2⟩:=aGZ hS hi
  obtain⟨v0,q,q0⟩:=aHU h2
  rw [q] at h1
  exact⟨v0,h1,hk _ (by intro f hf;simp only [List.mem_cons,List.not_mem_nil,or_false] at hf;subst hf;exact q0)⟩
structure aA where
  Global:List aC
  bB:List aC
  deriving DecidableEq,Inhabited
instance:aN aA:=aN.via (fun d=>(d.Global,d.bB))
instance:Fits aA:=Fits.via (fun d=>(d.Global,d.bB))
structure Mem where
  aB:aB
  aA:aA
  deriving DecidableEq,Inhabited
instance:aN Mem:=aN.via (fun d=>(d.aB,d.aA))
instance:Fits Mem:=Fits.via (fun d=>(d.aB,d.aA))
structure eX where
  On:Bool
  aK:Int
  dT:Bool
  Seen:Int
  deriving DecidableEq,Inhabited
instance:aN eX:=aN.via (fun d=>(d.On,d.aK,d.dT,d.Seen))
instance:Fits eX:=Fits.via (fun d=>(d.On,d.aK,d.dT,d.Seen))
theorem aWQ{S:cL}{w:World}{cs:List Value}{d:eX}(h:aN.rd S w cs d):cs=[.bool (d.On),.int .i64 (d.aK),.bool (d.dT),.int .i64 (d.Seen)]:=by
  obtain⟨c0,r0,e0,h0,n0⟩:=h
  have q0:c0=[_]:=h0
  obtain⟨c1,r1,e1,h1,n1⟩:=n0
  have q1:c1=[_]:=h1
  obtain⟨c2,r2,e2,h2,n2⟩:=n1
  have q2:c2=[_]:=h2
  have q3:r2=[_]:=n2
  exact by rw [e0,e1,e2,q0,q1,q2,q3];rfl
theorem aWR{S:cL}{w:World}(d:eX):aN.rd S w [.bool (d.On),.int .i64 (d.aK),.bool (d.dT),.int .i64 (d.Seen)] d:=⟨[.bool (d.On)],[.int .i64 (d.aK),.bool (d.dT),.int .i64 (d.Seen)],rfl,rfl,⟨[.int .i64 (d.aK)],[.bool (d.dT),.int .i64 (d.Seen)],rfl,rfl,⟨[.bool (d.dT)],[.int .i64 (d.Seen)],rfl,rfl,rfl⟩⟩⟩
instance:Flat eX:=⟨fun h=>Flat.own_of (α:=Bool×Int×Bool×Int) h,fun h=>Flat.no (α:=Bool×Int×Bool×Int) h⟩
theorem aWS(d:eX):OP [.bool (d.On),.int .i64 (d.aK),.bool (d.dT),.int .i64 (d.Seen)] d []:=(show OP (α:=Bool×Int×Bool×Int) _ (d.On,d.aK,d.dT,d.Seen) _ from (YO (c1:=[.bool (d.On)]) (c2:=[.int .i64 (d.aK),.bool (d.dT),.int .i64 (d.Seen)]) (A:=[]) (B:=[]) (E0 rfl) (YO (c1:=[.int .i64 (d.aK)]) (c2:=[.bool (d.dT),.int .i64 (d.Seen)]) (A:=[]) (B:=[]) (E0 rfl) (YO (c1:=[.bool (d.dT)]) (c2:=[.int .i64 (d.Seen)]) (A:=[]) (B:=[]) (E0 rfl) (E0 rfl) rfl) rfl) rfl))
structure aI where
  aK:Int
  aX:List eX
  deriving DecidableEq,Inhabited
instance:aN aI:=aN.via (fun d=>(d.aK,d.aX))
instance:Fits aI:=Fits.via (fun d=>(d.aK,d.aX))
structure bC where
  Handle:Int
  aK:Int
  deriving DecidableEq,Inhabited
instance:aN bC:=aN.via (fun d=>(d.Handle,d.aK))
instance:Fits bC:=Fits.via (fun d=>(d.Handle,d.aK))
theorem aL2{S:cL}{w:World}{cs:List Value}{d:bC}(h:aN.rd S w cs d):cs=[.int .i64 (d.Handle),.int .i64 (d.aK)]:=by
  obtain⟨c0,r0,e0,h0,n0⟩:=h
  have q0:c0=[_]:=h0
  have q1:r0=[_]:=n0
  exact by rw [e0,q0,q1];rfl
theorem aTS{S:cL}{w:World}(d:bC):aN.rd S w [.int .i64 (d.Handle),.int .i64 (d.aK)] d:=⟨[.int .i64 (d.Handle)],[.int .i64 (d.aK)],rfl,rfl,rfl⟩
instance:Flat bC:=⟨fun h=>Flat.own_of (α:=Int×Int) h,fun h=>Flat.no (α:=Int×Int) h⟩
theorem aTT(d:bC):OP [.int .i64 (d.Handle),.int .i64 (d.aK)] d []:=(show OP (α:=Int×Int) _ (d.Handle,d.aK) _ from (YO (c1:=[.int .i64 (d.Handle)]) (c2:=[.int .i64 (d.aK)]) (A:=[]) (B:=[]) (E0 rfl) (E0 rfl) rfl))
theorem aTU{S:cL}{w:World}{s:Value}{l:List bC}{i:Nat}{x:bC}(h:aN.rd S w [s] l)(hi:l[i]?=some x):bW w (NY s) (NV 2 i s) [.int .i64 (x.Handle),.int .i64 (x.aK)]:=by
  obtain⟨ec,h1,h2⟩:=aGZ h hi
  rw [aL2 h2] at h1;exact h1
structure aP where
  Rows:List bC
  deriving DecidableEq,Inhabited
instance:aN aP:=aN.via (fun d=>(d.Rows))
instance:Fits aP:=Fits.via (fun d=>(d.Rows))
theorem aHV{S:cL}{w:World}{cs:List Value}{d:aP}(h:aN.rd S w cs d):∃v0:Value,cs=[v0]∧aN.rd S w [v0] d.Rows:=by
  obtain⟨u0,q0⟩:=N2 h
  rw [q0] at h
  exact⟨u0,q0,h⟩
theorem aHW(d:aP){v0:Value}:OP [v0] d [eY [v0] d.Rows]:=(show OP (α:=(List bC)) _ (d.Rows) _ from aOS)
theorem _root_.Go.Gv.St.aHX{c:Ctx}{L:List Chunk}{R:List Fact}{w:World}{s:Value}{l:List aP}{i:Nat}{x:aP}(h:St c w L R)(j:Nat)(hj:R[j]?=some (y7 [s] l))(hi:l[i]?=some x):∃v0:Value,bW w (NY s) (NV 1 i s) [v0]∧St c w L (R ++ [y7 [v0] x.Rows]):=by
  obtain⟨S,hS,hk⟩:=h.aOK hj
  obtain⟨ec,h1,h2⟩:=aGZ hS hi
  obtain⟨v0,q,q0⟩:=aHV h2
  rw [q] at h1
  exact⟨v0,h1,hk _ (by intro f hf;simp only [List.mem_cons,List.not_mem_nil,or_false] at hf;subst hf;exact q0)⟩
structure aE where
  Mem:Mem
  aI:aI
  aR:List aP
  fW:List Int
  deriving DecidableEq,Inhabited
instance:aN aE:=aN.via (fun d=>(d.Mem,d.aI,d.aR,d.fW))
instance:Fits aE:=Fits.via (fun d=>(d.Mem,d.aI,d.aR,d.fW))
structure GOp where
  Kind:Int
  Cell:Int
  aQ4:Int
  Val:Int
  deriving DecidableEq,Inhabited
instance:aN GOp:=aN.via (fun d=>(d.Kind,d.Cell,d.aQ4,d.Val))
instance:Fits GOp:=Fits.via (fun d=>(d.Kind,d.Cell,d.aQ4,d.Val))
instance:Flat GOp:=⟨fun h=>Flat.own_of (α:=Int×Int×Int×Int) h,fun h=>Flat.no (α:=Int×Int×Int×Int) h⟩
structure Sub where
  Kind:Int
  A:Int
  Pc:Int
  E:Int
  Row:Int
  B:Int
  H:Int
  Out:Int
  Code:Int
  eI:Bool
  deriving DecidableEq,Inhabited
instance:aN Sub:=aN.via (fun d=>(d.Kind,d.A,d.Pc,d.E,d.Row,d.B,d.H,d.Out,d.Code,d.eI))
instance:Fits Sub:=Fits.via (fun d=>(d.Kind,d.A,d.Pc,d.E,d.Row,d.B,d.H,d.Out,d.Code,d.eI))
instance:Flat Sub:=⟨fun h=>Flat.own_of (α:=Int×Int×Int×Int×Int×Int×Int×Int×Int×Bool) h,fun h=>Flat.no (α:=Int×Int×Int×Int×Int×Int×Int×Int×Int×Bool) h⟩
structure S4 where
  aF0:Bool
  Op:GOp
  EJ:Int
  Pc:Int
  Sub:Sub
  H:Int
  Old:Int
  Val:Int
  Code:Int
  deriving DecidableEq,Inhabited
instance:aN S4:=aN.via (fun d=>(d.aF0,d.Op,d.EJ,d.Pc,d.Sub,d.H,d.Old,d.Val,d.Code))
instance:Fits S4:=Fits.via (fun d=>(d.aF0,d.Op,d.EJ,d.Pc,d.Sub,d.H,d.Old,d.Val,d.Code))
instance:Flat S4:=⟨fun h=>Flat.own_of (α:=Bool×GOp×Int×Int×Sub×Int×Int×Int×Int) h,fun h=>Flat.no (α:=Bool×GOp×Int×Int×Sub×Int×Int×Int×Int) h⟩
structure Queue where
  SN:List GOp
  deriving DecidableEq,Inhabited
instance:aN Queue:=aN.via (fun d=>(d.SN))
instance:Fits Queue:=Fits.via (fun d=>(d.SN))
structure Ev where
  Kind:Int
  Who:Int
  EJ:Int
  Cell:Int
  Handle:Int
  Val:Int
  Code:Int
  deriving DecidableEq,Inhabited
instance:aN Ev:=aN.via (fun d=>(d.Kind,d.Who,d.EJ,d.Cell,d.Handle,d.Val,d.Code))
instance:Fits Ev:=Fits.via (fun d=>(d.Kind,d.Who,d.EJ,d.Cell,d.Handle,d.Val,d.Code))
instance:Flat Ev:=⟨fun h=>Flat.own_of (α:=Int×Int×Int×Int×Int×Int×Int) h,fun h=>Flat.no (α:=Int×Int×Int×Int×Int×Int×Int) h⟩
structure yL where
  aE:aE
  Cells:List Int
  aAV:List S4
  VG:List Queue
  Log:List Ev
  EJ:Int
  deriving DecidableEq,Inhabited
instance:aN yL:=aN.via (fun d=>(d.aE,d.Cells,d.aAV,d.VG,d.Log,d.EJ))
instance:Fits yL:=Fits.via (fun d=>(d.aE,d.Cells,d.aAV,d.VG,d.Log,d.EJ))
structure Span where
  aTV:Int
  To:Int
  deriving DecidableEq,Inhabited
instance:aN Span:=aN.via (fun d=>(d.aTV,d.To))
instance:Fits Span:=Fits.via (fun d=>(d.aTV,d.To))
instance:Flat Span:=⟨fun h=>Flat.own_of (α:=Int×Int) h,fun h=>Flat.no (α:=Int×Int) h⟩
structure aO where
  b:List UInt8
  i:Int
  h:Int
  deriving DecidableEq,Inhabited
instance:aN aO:=aN.via (fun d=>(d.b,d.i,d.h))
instance:Fits aO:=Fits.via (fun d=>(d.b,d.i,d.h))
structure Reader where
  left:pU
  bad:Bool
  deriving DecidableEq,Inhabited
instance:aN Reader:=aN.via (fun d=>(d.left,d.bad))
instance:Fits Reader:=Fits.via (fun d=>(d.left,d.bad))
instance:Flat Reader:=⟨fun h=>Flat.own_of (α:=pU×Bool) h,fun h=>Flat.no (α:=pU×Bool) h⟩
structure aQ3 where
  VG:List Queue
  aUR:List Int
  deriving DecidableEq,Inhabited
instance:aN aQ3:=aN.via (fun d=>(d.VG,d.aUR))
instance:Fits aQ3:=Fits.via (fun d=>(d.VG,d.aUR))
end Go.Gv
end
noncomputable section
namespace Go.Gv
noncomputable section
def Z0(code:List UInt8):Option Bool:=
  some (decide (1048576 < (code.length:Int)))
def S5(code:List UInt8)(i:Int):Option Int:=
  (if decide (i < (code.length:Int)) then (idx code i).bind fun x1=>some (x1.toNat:Int) else some (Int.tmod (aV ((aV (i * 37))+(aV ((code.length:Int) * 11)))) 256))
def zD(c:aO)(x1 x2:Int):Option (Int×(Int×Int)):=
  some (x1,(x2,aV ((aV (c.h * 6364136223846793005))+1442695040888963407)))
def j6(c:aO):Option (Int×(Int×Int)):=
  (if decide (c.i < (c.b.length:Int)) then (idx c.b c.i).bind fun x3=>zD c (cN .and .i64 (aV ((cN .and .i64 (cN .xor .i64 (pW .i64 (aV ((aV (c.h * 6364136223846793005))+1442695040888963407)) 33) (pW .i64 (aV ((aV (c.h * 6364136223846793005))+1442695040888963407)) 45)) 255)+(x3.toNat:Int))) 255) (aV (c.i+1)) else zD c (cN .and .i64 (cN .xor .i64 (pW .i64 (aV ((aV (c.h * 6364136223846793005))+1442695040888963407)) 33) (pW .i64 (aV ((aV (c.h * 6364136223846793005))+1442695040888963407)) 45)) 255) c.i)
def aS(c:aO)(n:Int):Option (Int×(Int×Int)):=
  (if decide (n≤0) then some (0,(c.i,c.h)) else (if decide (n≤256) then (j6 c).bind fun x1=>need (n≠0) (some (Int.tmod x1.1 n,(x1.2.1,x1.2.2))) else (j6 c).bind fun x2=>(j6 (⟨c.b,x2.2.1,x2.2.2⟩:aO)).bind fun x3=>(j6 (⟨c.b,x3.2.1,x3.2.2⟩:aO)).bind fun x4=>(j6 (⟨c.b,x4.2.1,x4.2.2⟩:aO)).bind fun x5=>need (n≠0) (some (Int.tmod (aV ((aV ((aV ((aV (x2.1 * 16777216))+(aV (x3.1 * 65536))))+(aV (x4.1 * 256))))+x5.1)) n,(x5.2.1,x5.2.2)))))
def r5(c:aO)(n:Int):Option (Bool×(Int×Int)):=
  (aS c n).bind fun x1=>some (x1.1 == 0,(x1.2.1,x1.2.2))
def l5(b:List Int):Option (List Int):=
  need (([]:List Int).length+b.length≤1073741824) (some (([]:List Int)++b))
def yN(h:aB):Option aB:=
  (l5 h.Bytes).bind fun x1=>(l5 h.Class).bind fun x2=>some (⟨x1,x2⟩:aB)
def Z1(x5:List aC):Option (List aC):=
  some x5
def GB(l:List aC):((List aC)×Int)→Option (Step ((List aC)×Int) (List aC))
  | (x3,x4)=>(if decide (x4 < (l.length:Int)) then (idx l x4).bind fun x6=>(l5 x6.aJ).bind fun x7=>need (x3.length+([(⟨x7⟩:aC)]).length≤1073741824) (some (.next (x3++([(⟨x7⟩:aC)]),aV (x4+1)))) else some (.stop (x3)))
def Z2:(List aC)→Option (List aC)
  | x5=>Z1 x5
def DL(l:List aC):Option (List aC):=
  (loop (GB l) (([]:List aC),0)).bind (Z2)
def r6(l:aA):Option aA:=
  (DL l.Global).bind fun x1=>(DL l.bB).bind fun x2=>some (⟨x1,x2⟩:aA)
def r7(m:Mem):Option Mem:=
  (yN m.aB).bind fun x1=>(r6 m.aA).bind fun x2=>some (⟨x1,x2⟩:Mem)
def E4(x1:Bool):Option Bool:=
  some x1
def bP(x low high:Int):Option Bool:=
  (if decide (low≤x) then E4 (decide (x≤high)) else E4 false)
def MA(b:List Int):Option Bool:=
  some (decide ((b.length:Int)≤1000))
def lJ(b:List Int):Int→Option (Step Int (Out Unit Bool))
  | x2=>(if decide (x2 < (b.length:Int)) then (idx b x2).bind fun x3=>(bP x3 0 255).bind fun x4=>(if !x4 then some (.stop (Out.ret false)) else some (.next (aV (x2+1)))) else some (.stop (Out.brk ())))
def D6(b:List Int):(Out Unit Bool)→Option Bool
  | .brk ()=>MA b
  | .ret r=>some r
def E5(b:List Int):Option Bool:=
  (loop (lJ b) 0).bind (D6 b)
def WU:Option Bool:=
  some true
def lK(h:aB):Int→Option (Step Int (Out Unit Bool))
  | x3=>(if decide (x3 < 6) then (idx h.Class x3).bind fun x4=>(bP x4 (-1) 2).bind fun x5=>(if !x5 then some (.stop (Out.ret false)) else some (.next (aV (x3+1)))) else some (.stop (Out.brk ())))
def WV:(Out Unit Bool)→Option Bool
  | .brk ()=>WU
  | .ret r=>some r
def pZ(h:aB)(x1:Bool):Option Bool:=
  (if x1 then some false else (loop (lK h) 0).bind (WV))
def zE(h:aB):Option Bool:=
  (if (h.Bytes.length:Int) != 384 then pZ h true else (if (h.Class.length:Int) != 6 then pZ h true else (E5 h.Bytes).bind fun x6=>pZ h (!x6)))
def Z3(x5:Int):Option Int:=
  some x5
def r8(b:List Int)(at_ width:Int):(Int×Int)→Option (Step (Int×Int) Int)
  | (x3,x4)=>(if decide (x4 < width) then (idx b (aV (at_+x4))).bind fun x6=>some (.next (aV ((aV (x3 * 256))+x6),aV (x4+1))) else some (.stop (x3)))
def Z4:Int→Option Int
  | x5=>Z3 x5
def DM(b:List Int)(at_ width:Int):Option Int:=
  (loop (r8 b at_ width) (0,0)).bind (Z4)
def r9(c:Int):Option Int:=
  (if c == 0 then some 8 else (if c == 1 then some 16 else (if c == 2 then some 40 else some 0)))
def vG(c:Int):Option Int:=
  (bP c 0 2).bind fun x1=>(if !x1 then some 0 else (r9 c).bind fun x2=>some (aV (4+x2)))
def jS(c:Int):Option Int:=
  (bP c 0 2).bind fun x1=>(if !x1 then some 0 else (vG c).bind fun x2=>need (x2≠0) (some (aV (Int.tdiv 56 x2))))
def yO(slot:Int):Option Int:=
  (bP slot 0 23).bind fun x1=>(if !x1 then some (-1) else some (aV (Int.tdiv slot 4)))
def tT(slot:Int):Option Int:=
  (bP slot 0 23).bind fun x1=>(if !x1 then some (-1) else some (Int.tmod slot 4))
def CH(slot c:Int)(x1:Bool):Option Int:=
  (if x1 then some (-1) else (yO slot).bind fun x2=>(tT slot).bind fun x3=>(vG c).bind fun x4=>some (aV ((aV ((aV (x2 * 64))+8))+(aV (x3 * x4)))))
def o6(slot c:Int):Option Int:=
  (yO slot).bind fun x5=>(if decide (x5 < 0) then CH slot c true else (tT slot).bind fun x6=>(jS c).bind fun x7=>(bP x6 0 (aV (x7 - 1))).bind fun x8=>CH slot c (!x8))
def sA(page index:Int)(x1:Bool):Option Int:=
  (if x1 then some (-1) else some (aV ((aV (page * 4))+index)))
def oZ(page index:Int):Option Int:=
  (bP page 0 5).bind fun x2=>(if !x2 then sA page index true else (bP index 0 3).bind fun x3=>sA page index (!x3))
def Z5:Option Bool:=
  some true
def nD(h:aB)(p:Int):Int→Option (Step Int (Out Unit Bool))
  | x3=>(if decide (x3 < (aV ((aV (p * 64))+64))) then (idx h.Bytes x3).bind fun x4=>(if x4 != 0 then some (.stop (Out.ret false)) else some (.next (aV (x3+1)))) else some (.stop (Out.brk ())))
def Z6:(Out Unit Bool)→Option Bool
  | .brk ()=>Z5
  | .ret r=>some r
def Z7:Option Bool:=
  some true
def nE(h:aB)(p x1:Int):Int→Option (Step Int (Out Unit Bool))
  | x9=>(jS x1).bind fun x10=>(if decide (x9 < x10) then (oZ p x9).bind fun x11=>(o6 x11 x1).bind fun x12=>(DM h.Bytes x12 4).bind fun x13=>(bP x13 1 7).bind fun x14=>(if !x14 then some (.stop (Out.ret false)) else some (.next (aV (x9+1)))) else some (.stop (Out.brk ())))
def Z8:(Out Unit Bool)→Option Bool
  | .brk ()=>Z7
  | .ret r=>some r
def N8(h:aB)(p x1:Int):Option Bool:=
  (loop (nE h p x1) 0).bind (Z8)
def nF(h:aB)(p:Int):Int→Option (Step Int (Out Unit Bool))
  | x7=>(if decide (x7 < (aV ((aV (p * 64))+8))) then (idx h.Bytes x7).bind fun x15=>(if x15 != 0 then some (.stop (Out.ret false)) else some (.next (aV (x7+1)))) else some (.stop (Out.brk ())))
def N9(h:aB)(p x1:Int):(Out Unit Bool)→Option Bool
  | .brk ()=>N8 h p x1
  | .ret r=>some r
def iL(h:aB)(p x1:Int)(x5:Bool):Option Bool:=
  (if x5 then some false else (loop (nF h p) (aV ((aV (p * 64))+3))).bind (N9 h p x1))
def H4(h:aB)(p:Int):Option Bool:=
  (idx h.Class p).bind fun x1=>(if decide (x1 < 0) then (loop (nD h p) (aV (p * 64))).bind (Z6) else (idx h.Bytes (aV (p * 64))).bind fun x16=>(if x16 != 171 then iL h p x1 true else (idx h.Bytes (aV ((aV (p * 64))+1))).bind fun x17=>(if x17 != x1 then iL h p x1 true else (idx h.Bytes (aV ((aV (p * 64))+2))).bind fun x18=>(jS x1).bind fun x19=>iL h p x1 (x18 != x19))))
def Z9:Option Bool:=
  some true
def sB(h:aB):Int→Option (Step Int (Out Unit Bool))
  | x3=>(if decide (x3 < 6) then (H4 h x3).bind fun x4=>(if !x4 then some (.stop (Out.ret false)) else some (.next (aV (x3+1)))) else some (.stop (Out.brk ())))
def aAA:(Out Unit Bool)→Option Bool
  | .brk ()=>Z9
  | .ret r=>some r
def yP(h:aB):Option Bool:=
  (zE h).bind fun x1=>(if !x1 then some false else (loop (sB h) 0).bind (aAA))
def aCY:Option Bool:=
  some false
def qY(l:List Int)(x:Int):Int→Option (Step Int (Out Unit Bool))
  | x2=>(if decide (x2 < (l.length:Int)) then (idx l x2).bind fun x3=>(if x3 == x then some (.stop (Out.ret true)) else some (.next (aV (x2+1)))) else some (.stop (Out.brk ())))
def aCZ:(Out Unit Bool)→Option Bool
  | .brk ()=>aCY
  | .ret r=>some r
def xK(l:List Int)(x:Int):Option Bool:=
  (loop (qY l x) 0).bind (aCZ)
def aC0(x10:List Int):Option (List Int):=
  some x10
def vH(l:aA):((List Int)×Int)→Option (Step ((List Int)×Int) (List Int))
  | (x8,x9)=>(if decide (x9 < (l.bB.length:Int)) then (idx l.bB x9).bind fun x11=>need (x8.length+x11.aJ.length≤1073741824) (some (.next (x8++x11.aJ,aV (x9+1)))) else some (.stop (x8)))
def aC1:(List Int)→Option (List Int)
  | x10=>aC0 x10
def QW(l:aA)(x5:List Int):Option (List Int):=
  (loop (vH l) (x5,0)).bind (aC1)
def vI(l:aA):((List Int)×Int)→Option (Step ((List Int)×Int) (List Int))
  | (x3,x4)=>(if decide (x4 < (l.Global.length:Int)) then (idx l.Global x4).bind fun x12=>need (x3.length+x12.aJ.length≤1073741824) (some (.next (x3++x12.aJ,aV (x4+1)))) else some (.stop (x3)))
def QX(l:aA):(List Int)→Option (List Int)
  | x5=>QW l x5
def BG(l:aA):Option (List Int):=
  (loop (vI l) (([]:List Int),0)).bind (QX l)
def WW:Option Bool:=
  some true
def wF(x6:Int)(x7:Bool):Option (Step Int (Out Unit Bool)):=
  (if x7 then some (.stop (Out.ret false)) else some (.next (aV (x6+1))))
def lL(x4:(List Int)):Int→Option (Step Int (Out Unit Bool))
  | x6=>(if decide (x6 < (x4.length:Int)) then (idx x4 x6).bind fun x8=>(bP x8 0 23).bind fun x9=>(if !x9 then wF x6 true else need (0≤(x6:Int)∧(x6:Int)≤(x4.length:Int)) ((idx x4 x6).bind fun x10=>(xK ((x4.take x6.toNat).drop 0) x10).bind fun x11=>wF x6 x11)) else some (.stop (Out.brk ())))
def WX:(Out Unit Bool)→Option Bool
  | .brk ()=>WW
  | .ret r=>some r
def MB(l:aA):Option Bool:=
  (BG l).bind fun x4=>(loop (lL x4) 0).bind (WX)
def lM(l:aA):Int→Option (Step Int (Out Unit Bool))
  | x3=>(if decide (x3 < (l.bB.length:Int)) then (idx l.bB x3).bind fun x12=>(if decide (2 < (x12.aJ.length:Int)) then some (.stop (Out.ret false)) else some (.next (aV (x3+1)))) else some (.stop (Out.brk ())))
def MC(l:aA):(Out Unit Bool)→Option Bool
  | .brk ()=>MB l
  | .ret r=>some r
def wG(l:aA)(x1:Bool):Option Bool:=
  (if x1 then some false else (loop (lM l) 0).bind (MC l))
def o7(l:aA):Option Bool:=
  (if (l.Global.length:Int) != 3 then wG l true else wG l ((l.bB.length:Int) != 9))
def p7(h:aB)(x1:Int)(x2:Bool):Option Int:=
  (if x2 then some (-1) else (idx h.Class x1).bind fun x3=>some x3)
def iD(h:aB)(slot:Int):Option Int:=
  (yO slot).bind fun x1=>(if decide (x1 < 0) then p7 h x1 true else (idx h.Class x1).bind fun x4=>(if decide (x4 < 0) then p7 h x1 true else (idx h.Class x1).bind fun x5=>(tT slot).bind fun x6=>(jS x5).bind fun x7=>p7 h x1 (decide (x7≤x6))))
def sC(h:aB)(slot:Int):Option Int:=
  (iD h slot).bind fun x1=>(o6 slot x1).bind fun x2=>(DM h.Bytes x2 4).bind fun x3=>some x3
def UW:Option Bool:=
  some true
def tU(x2:Int)(x3:Bool):Option (Step Int (Out Unit Bool)):=
  (if x3 then some (.stop (Out.ret false)) else some (.next (aV (x2+1))))
def kE(h:aB)(l:List Int)(c:Int):Int→Option (Step Int (Out Unit Bool))
  | x2=>(if decide (x2 < (l.length:Int)) then (idx l x2).bind fun x4=>(iD h x4).bind fun x5=>(if x5 != c then tU x2 true else (idx l x2).bind fun x6=>(sC h x6).bind fun x7=>tU x2 (decide (6 < x7))) else some (.stop (Out.brk ())))
def UX:(Out Unit Bool)→Option Bool
  | .brk ()=>UW
  | .ret r=>some r
def vJ(h:aB)(l:List Int)(c:Int):Option Bool:=
  (loop (kE h l c) 0).bind (UX)
def qZ(w_ c:Int)(x1:Bool):Option Int:=
  (if x1 then some (-1) else some (aV ((aV (w_ * 3))+c)))
def kO(w_ c:Int):Option Int:=
  (bP w_ 0 2).bind fun x2=>(if !x2 then qZ w_ c true else (bP c 0 2).bind fun x3=>qZ w_ c (!x3))
def aC2:Option Bool:=
  some true
def QY(x3:Int):Option (Step Int (Out Unit Bool)):=
  some (.next (aV (x3+1)))
def vK(m:Mem)(x3:Int):Int→Option (Step Int (Out Unit Bool))
  | x7=>(if decide (x7 < 3) then (kO x7 x3).bind fun x8=>(idx m.aA.bB x8).bind fun x9=>(vJ m.aB x9.aJ x3).bind fun x10=>(if !x10 then some (.stop (Out.ret false)) else some (.next (aV (x7+1)))) else some (.stop (Out.brk ())))
def QZ(x3:Int):(Out Unit Bool)→Option (Step Int (Out Unit Bool))
  | .brk ()=>QY x3
  | .ret r=>some (.stop (Out.ret r))
def vL(m:Mem):Int→Option (Step Int (Out Unit Bool))
  | x3=>(if decide (x3 < 3) then (idx m.aA.Global x3).bind fun x4=>(vJ m.aB x4.aJ x3).bind fun x5=>(if !x5 then some (.stop (Out.ret false)) else (loop (vK m x3) 0).bind (QZ x3)) else some (.stop (Out.brk ())))
def aC3:(Out Unit Bool)→Option Bool
  | .brk ()=>aC2
  | .ret r=>some r
def CI(m:Mem)(x1:Bool):Option Bool:=
  (if x1 then some false else (loop (vL m) 0).bind (aC3))
def mK(m:Mem):Option Bool:=
  (yP m.aB).bind fun x11=>(if !x11 then CI m true else (o7 m.aA).bind fun x12=>CI m (!x12))
def tV(x1:Bool):Option Bool:=
  some x1
def iE(h:Int):Option Bool:=
  (bP h 32 223).bind fun x2=>(if x2 then tV (decide ((Int.tmod h 32) < 24)) else tV false)
def eH(h:Int):Option Int:=
  (iE h).bind fun x1=>(if !x1 then some (-1) else some (Int.tmod h 32))
def H5(l:aA)(slot:Int):Option Bool:=
  (BG l).bind fun x1=>(xK x1 slot).bind fun x2=>some x2
def E6(m:Mem)(slot:Int):Option Int:=
  (iD m.aB slot).bind fun x1=>(if decide (x1 < 0) then some 0 else (H5 m.aA slot).bind fun x2=>(if x2 then some 1 else (sC m.aB slot).bind fun x3=>(if decide (6 < x3) then some 2 else some 3)))
def zF(h:Int):Option Int:=
  (iE h).bind fun x1=>(if !x1 then some 0 else some (aV (Int.tdiv h 32)))
def p8(x1:Bool):Option Bool:=
  some x1
def o8(m:Mem)(h:Int):Option Bool:=
  (iE h).bind fun x2=>(if x2 then (eH h).bind fun x3=>(E6 m x3).bind fun x4=>(if x4 == 3 then (eH h).bind fun x5=>(sC m.aB x5).bind fun x6=>(zF h).bind fun x7=>p8 (x6 == x7) else p8 false) else p8 false)
def E7(slot c:Int):Option Int:=
  (o6 slot c).bind fun x1=>(if decide (x1 < 0) then some (-1) else some (aV (x1+4)))
def sD(at_ x3 x4:Int)(x5:Bool):Option (Int×Int):=
  (if x5 then some (0,2) else (E7 x3 x4).bind fun x6=>some (aV (x6+at_),0))
def sE(m:Mem)(h at_ width:Int)(x1:Bool):Option (Int×Int):=
  (if x1 then some (0,1) else (o8 m h).bind fun x2=>(if !x2 then some (0,4) else (eH h).bind fun x3=>(iD m.aB x3).bind fun x4=>(r9 x4).bind fun x7=>(bP at_ 0 (aV (x7 - 1))).bind fun x8=>(if !x8 then sD at_ x3 x4 true else (r9 x4).bind fun x9=>sD at_ x3 x4 (decide ((aV (x9 - at_)) < width)))))
def H6(m:Mem)(h at_ width:Int):Option (Int×Int):=
  (mK m).bind fun x10=>(if !x10 then sE m h at_ width true else (bP width 1 7).bind fun x11=>sE m h at_ width (!x11))
def IX(x8:Int)(x9:List UInt8):Option (List UInt8):=
  (if decide (0 < x8) then some ([]) else some x9)
def vM(width:Int):(Int×(List UInt8)×Int)→Option (Step (Int×(List UInt8)×Int) (Int×(List UInt8)))
  | (x5,x6,x7)=>(if decide (x7 < width) then need (([u8 (Int.tmod x5 256)]).length+x6.length≤9223372036854775807) (some (.next (aV (Int.tdiv x5 256),([u8 (Int.tmod x5 256)])++x6,aV (x7+1)))) else some (.stop ((x5,x6))))
def IY:(Int×(List UInt8))→Option (List UInt8)
  | (x8,x9)=>IX x8 x9
def vN(n width:Int)(x1:Bool):Option (List UInt8):=
  (if x1 then some ([]) else (loop (vM width) (n,[],0)).bind (IY))
def xL(n width:Int):Option (List UInt8):=
  (bP width 1 7).bind fun x10=>(if !x10 then vN n width true else vN n width (decide (n < 0)))
def WY(x7:List Int):Option (List Int):=
  some x7
def p9(at_:Int):((List Int)×Int×Int)→Option (Step ((List Int)×Int×Int) (List Int))
  | (x4,x5,x6)=>(if decide (0≤x6) then (idx x4 (aV (at_+x6))).bind fun x8=>some (.next (x4.set ((aV (at_+x6)).toNat) (Int.tmod x5 256),aV (Int.tdiv x5 256),aV (x6 - 1))) else some (.stop (x4)))
def WZ:(List Int)→Option (List Int)
  | x7=>WY x7
def iF(b:List Int)(at_ width n:Int):Option (List Int):=
  (loop (p9 at_) (b,n,aV (width - 1))).bind (WZ)
def o9(m:Mem)(h at_ width n:Int):Option (Mem×Int):=
  (r7 m).bind fun x1=>(H6 m h at_ width).bind fun x2=>(if x2.2 != 0 then some (x1,x2.2) else (xL n width).bind fun x3=>(if x3 == ([]) then some (x1,1) else (iF x1.aB.Bytes x2.1 width n).bind fun x4=>some ((⟨(⟨x4,x1.aB.Class⟩:aB),x1.aA⟩:Mem),0)))
def W0(x5:List Int):Option aB:=
  some (⟨List.replicate ((384:Int).toNat) 0,x5⟩:aB)
def qA:(Int×(List Int))→Option (Step (Int×(List Int)) (List Int))
  | (x3,x4)=>(if decide (x3 < 6) then need (x4.length+([(-1)]).length≤1073741824) (some (.next (aV (x3+1),x4++([(-1)])))) else some (.stop (x4)))
def W1:(List Int)→Option aB
  | x5=>W0 x5
def zG:Option aB:=
  need (0≤(384:Int)∧(384:Int)≤4294967296) ((loop (qA) (0,[])).bind (W1))
def tW:Option aA:=
  some (⟨List.replicate ((3:Int).toNat) (⟨[]⟩:aC),List.replicate ((9:Int).toNat) (⟨[]⟩:aC)⟩:aA)
def q5:Option aA:=
  need (0≤(3:Int)∧(3:Int)≤4294967296)<|need (0≤(9:Int)∧(9:Int)≤4294967296)<|tW
def DN:Option Mem:=
  (zG).bind fun x1=>(q5).bind fun x2=>some (⟨x1,x2⟩:Mem)
def sG(x2 x3:List aC):Option aA:=
  some (⟨x2,x3⟩:aA)
def zH(x:aA)(slot x1:Int)(x4:aC):Option aA:=
  sG x.Global (x.bB.set x1.toNat (⟨x4.aJ++([slot])⟩:aC))
def zI(x:aA)(x5:List aC):Option aA:=
  sG x5 x.bB
def yQ(x:aA)(w_ c slot:Int):Option aA:=
  (kO w_ c).bind fun x1=>(idx x.bB x1).bind fun x4=>(if decide ((x4.aJ.length:Int) < 2) then need (x4.aJ.length+([slot]).length≤1073741824)<|zH x slot x1 x4 else (idx x.Global c).bind fun x6=>need (x6.aJ.length+([slot]).length≤1073741824)<|zI x (x.Global.set c.toNat (⟨x6.aJ++([slot])⟩:aC)))
def zJ(x:Mem)(x3:List Int)(x4 x5:List aC):Option Mem:=
  some (⟨(⟨x3,x.aB.Class⟩:aB),(⟨x4,x5⟩:aA)⟩:Mem)
def zK(x:Mem)(w_ slot x1 x2:Int)(x3:List Int):Option Mem:=
  (if decide ((aV (x2+1))≤6) then (yQ x.aA w_ x1 slot).bind fun x6=>zJ x x3 x6.Global x6.bB else zJ x x3 x.aA.Global x.aA.bB)
def sH(x:Mem)(w_ slot:Int):Option Mem:=
  (iD x.aB slot).bind fun x1=>(sC x.aB slot).bind fun x2=>(o6 slot x1).bind fun x7=>(iF x.aB.Bytes x7 4 (aV (x2+1))).bind fun x8=>zK x w_ slot x1 x2 x8
def wH(m:Mem)(w_ h:Int)(x2:Bool)(x3:Mem):Option (Mem×Int):=
  (if x2 then some (x3,1) else (o8 m h).bind fun x4=>(if !x4 then some (x3,4) else (eH h).bind fun x5=>(sH x3 w_ x5).bind fun x6=>some (x6,0)))
def E8(m:Mem)(w_ h:Int):Option (Mem×Int):=
  (r7 m).bind fun x1=>(mK m).bind fun x7=>(if !x7 then wH m w_ h true x1 else (bP w_ 0 2).bind fun x8=>wH m w_ h (!x8) x1)
def W2:Option Int:=
  some (-1)
def dX(size:Int):Int→Option (Step Int (Out Unit Int))
  | x2=>(if decide (x2 < 3) then (r9 x2).bind fun x3=>(bP size 1 x3).bind fun x4=>(if x4 then some (.stop (Out.ret x2)) else some (.next (aV (x2+1)))) else some (.stop (Out.brk ())))
def W3:(Out Unit Int)→Option Int
  | .brk ()=>W2
  | .ret r=>some r
def pA(size:Int):Option Int:=
  (loop (dX size) 0).bind (W3)
def W4(h:aB):Option (aB×(List Int)):=
  some (h,([]:List Int))
def wI(x2:Int):Option (Step Int (Out Unit (aB×(List Int)))):=
  some (.next (aV (x2+1)))
def W5(h:aB)(c x2:Int)(x14 x15:List Int):Option (Step Int (Out Unit (aB×(List Int)))):=
  some (.stop (Out.ret ((⟨x15,h.Class.set x2.toNat c⟩:aB),x14)))
def D7(x2:Int)(x11:List Int)(x12:Int)(x17:List Int):Option (Step ((List Int)×Int×(List Int)) ((List Int)×(List Int))):=
  (oZ x2 x12).bind fun x18=>need (x11.length+([x18]).length≤1073741824) (some (.next (x11++([x18]),aV (x12+1),x17)))
def wJ(c x2:Int):((List Int)×Int×(List Int))→Option (Step ((List Int)×Int×(List Int)) ((List Int)×(List Int)))
  | (x11,x12,x13)=>(jS c).bind fun x16=>(if decide (x12 < x16) then (oZ x2 x12).bind fun x19=>(o6 x19 c).bind fun x20=>(iF x13 x20 4 1).bind fun x21=>D7 x2 x11 x12 x21 else some (.stop ((x11,x13))))
def W6(h:aB)(c x2:Int):((List Int)×(List Int))→Option (Step Int (Out Unit (aB×(List Int))))
  | (x14,x15)=>W5 h c x2 x14 x15
def dP(h:aB)(c:Int):Int→Option (Step Int (Out Unit (aB×(List Int))))
  | x2=>(if decide (x2 < 6) then (idx h.Class x2).bind fun x3=>(if x3 != (-1) then wI x2 else (idx h.Bytes (aV (x2 * 64))).bind fun x4=>(idx (h.Bytes.set ((aV (x2 * 64)).toNat) 171) (aV ((aV (x2 * 64))+1))).bind fun x5=>(jS c).bind fun x6=>(idx ((h.Bytes.set ((aV (x2 * 64)).toNat) 171).set ((aV ((aV (x2 * 64))+1)).toNat) c) (aV ((aV (x2 * 64))+2))).bind fun x7=>(loop (wJ c x2) (([]:List Int),0,((h.Bytes.set ((aV (x2 * 64)).toNat) 171).set ((aV ((aV (x2 * 64))+1)).toNat) c).set ((aV ((aV (x2 * 64))+2)).toNat) x6)).bind (W6 h c x2)) else some (.stop (Out.brk ())))
def W7(h:aB):(Out Unit (aB×(List Int)))→Option (aB×(List Int))
  | .brk ()=>W4 h
  | .ret r=>some r
def jT(h:aB)(c:Int):Option (aB×(List Int)):=
  (loop (dP h c) 0).bind (W7 h)
def wK(m:Mem)(c:Int)(x1:aB×(List Int))(x2:aC)(x3:Int):Option (Mem×Int):=
  some ((⟨x1.1,(⟨m.aA.Global.set c.toNat (⟨x2.aJ++((x1.2.take x1.2.length).drop ((1:Int).toNat))⟩:aC),m.aA.bB⟩:aA)⟩:Mem),x3)
def pB(m:Mem)(c:Int):Option (Mem×Int):=
  (jT m.aB c).bind fun x1=>(if (x1.2.length:Int) == 0 then some ((⟨x1.1,m.aA⟩:Mem),(-1)) else (idx m.aA.Global c).bind fun x2=>need (0≤(1:Int)∧(1:Int)≤(x1.2.length:Int)) (need (x2.aJ.length+((x1.2.take x1.2.length).drop ((1:Int).toNat)).length≤1073741824) ((idx x1.2 0).bind fun x4=>wK m c x1 x2 x4)))
def CJ(s:aC)(x1:Int):Option (aC×Int):=
  some ((⟨(s.aJ.take ((aV ((s.aJ.length:Int) - 1)).toNat)).drop 0⟩:aC),x1)
def jC(s:aC):Option (aC×Int):=
  (if (s.aJ.length:Int) == 0 then some (s,(-1)) else need (0≤(aV ((s.aJ.length:Int) - 1):Int)∧(aV ((s.aJ.length:Int) - 1):Int)≤(s.aJ.length:Int)) ((idx s.aJ (aV ((s.aJ.length:Int) - 1))).bind fun x2=>CJ s x2))
def wL(x1:aA)(x2:Int)(x3:Bool):Option (aA×Int):=
  (if x3 then some (x1,(-1)) else (idx x1.bB x2).bind fun x4=>(jC x4).bind fun x5=>some ((⟨x1.Global,x1.bB.set x2.toNat x5.1⟩:aA),x5.2))
def E9(l:aA)(w_ c:Int):Option (aA×Int):=
  (r6 l).bind fun x1=>(kO w_ c).bind fun x2=>(o7 l).bind fun x6=>(if !x6 then wL x1 x2 true else wL x1 x2 (decide (x2 < 0)))
def pC(c:Int)(x1:aA)(x2:Bool):Option (aA×Int):=
  (if x2 then some (x1,(-1)) else (idx x1.Global c).bind fun x3=>(jC x3).bind fun x4=>some ((⟨x1.Global.set c.toNat x4.1,x1.bB⟩:aA),x4.2))
def wM(l:aA)(c:Int):Option (aA×Int):=
  (r6 l).bind fun x1=>(o7 l).bind fun x5=>(if !x5 then pC c x1 true else (bP c 0 2).bind fun x6=>pC c x1 (!x6))
def hU(slot gen:Int)(x1:Bool):Option Int:=
  (if x1 then some 0 else some (aV ((aV (gen * 32))+slot)))
def j7(slot gen:Int):Option Int:=
  (bP slot 0 23).bind fun x2=>(if !x2 then hU slot gen true else (bP gen 1 6).bind fun x3=>hU slot gen (!x3))
def mL(m:Mem)(slot:Int):Option Int:=
  (sC m.aB slot).bind fun x1=>(j7 slot x1).bind fun x2=>some x2
def nG(x10:Int)(x11:Mem):Option (Mem×Int×Int):=
  (if decide (x10 < 0) then some (x11,0,3) else (mL x11 x10).bind fun x12=>some (x11,x12,0))
def nH(x2 x6:Int)(x7:Mem)(x8 x9:List aC):Option (Mem×Int×Int):=
  (if decide (x6 < 0) then (pB (⟨x7.aB,(⟨x8,x9⟩:aA)⟩:Mem) x2).bind fun x13=>nG x13.2 x13.1 else nG x6 (⟨x7.aB,(⟨x8,x9⟩:aA)⟩:Mem))
def tX(w_ x2:Int)(x3:Bool)(x4:Mem):Option (Mem×Int×Int):=
  (if x3 then some (x4,0,1) else (if decide (x2 < 0) then some (x4,0,2) else (E9 x4.aA w_ x2).bind fun x5=>(if decide (x5.2 < 0) then (wM x5.1 x2).bind fun x14=>nH x2 x14.2 x4 x14.1.Global x14.1.bB else nH x2 x5.2 x4 x5.1.Global x5.1.bB)))
def CK(m:Mem)(w_ size:Int):Option (Mem×Int×Int):=
  (r7 m).bind fun x1=>(pA size).bind fun x2=>(mK m).bind fun x15=>(if !x15 then tX w_ x2 true x1 else (bP w_ 0 2).bind fun x16=>tX w_ x2 (!x16) x1)
def GC(x17 x18 x19:Int)(x20:Mem):Option (Mem×Int×(Int×Int)):=
  some (x20,x17,(x18,x19))
def OA(c:aO)(x13:List Int)(x14 x15:Int)(x16:Mem):Option (Mem×Int×(Int×Int)):=
  (aS (⟨c.b,x14,x15⟩:aO) (x13.length:Int)).bind fun x21=>(idx x13 x21.1).bind fun x22=>GC x22 x21.2.1 x21.2.2 x16
def nI(x9:Int)(x23:List Int)(x24 x25:Int)(x26:Mem):Option (Step ((List Int)×Int×Int×Int×Mem) ((List Int)×Int×Int×Mem)):=
  some (.next (x23,aV (x9 - 1),x24,x25,x26))
def GD(x8:List Int)(x9 x31 x32:Int)(x33 x34:Mem):Option (Step ((List Int)×Int×Int×Int×Mem) ((List Int)×Int×Int×Mem)):=
  nI x9 x8 x31 x32 x34
def GF(x8:List Int)(x9 x39 x45 x46:Int)(x47 x48:Mem):Option (Step ((List Int)×Int×Int×Int×Mem) ((List Int)×Int×Int×Mem)):=
  nI x9 (x8++([x39])) x45 x46 x48
def GG(c:aO)(x8:List Int)(x9 x39 x40 x41 x42:Int)(x43 x44:Mem):Option (Step ((List Int)×Int×Int×Int×Mem) ((List Int)×Int×Int×Mem)):=
  (if x40 == 0 then need (x8.length+([x39]).length≤1073741824) ((aS (⟨c.b,x41,x42⟩:aO) 5).bind fun x49=>(aS (⟨c.b,x49.2.1,x49.2.2⟩:aO) 3).bind fun x50=>(aS (⟨c.b,x50.2.1,x50.2.2⟩:aO) 256).bind fun x51=>(o9 x44 x39 x49.1 (aV (1+x50.1)) x51.1).bind fun x52=>GF x8 x9 x39 x51.2.1 x51.2.2 x44 x52.1) else nI x9 x8 x41 x42 x44)
def sI(c:aO)(x8:List Int)(x9:Int)(x27:Bool)(x28 x29:Int)(x30:Mem):Option (Step ((List Int)×Int×Int×Int×Mem) ((List Int)×Int×Int×Mem)):=
  (if x27 then (aS (⟨c.b,x28,x29⟩:aO) 3).bind fun x35=>(aS (⟨c.b,x35.2.1,x35.2.2⟩:aO) (x8.length:Int)).bind fun x36=>(idx x8 x36.1).bind fun x37=>(E8 x30 x35.1 x37).bind fun x38=>GD x8 x9 x36.2.1 x36.2.2 x30 x38.1 else (aS (⟨c.b,x28,x29⟩:aO) 3).bind fun x53=>(aS (⟨c.b,x53.2.1,x53.2.2⟩:aO) 40).bind fun x54=>(CK x30 x53.1 (aV (1+x54.1))).bind fun x55=>GG c x8 x9 x55.2.1 x55.2.2 x54.2.1 x54.2.2 x30 x55.1)
def OB(c:aO):((List Int)×Int×Int×Int×Mem)→Option (Step ((List Int)×Int×Int×Int×Mem) ((List Int)×Int×Int×Mem))
  | (x8,x9,x10,x11,x12)=>(if decide (0 < x9) then (r5 (⟨c.b,x10,x11⟩:aO) 3).bind fun x56=>(if x56.1 then sI c x8 x9 (decide (1 < (x8.length:Int))) x56.2.1 x56.2.2 x12 else sI c x8 x9 false x56.2.1 x56.2.2 x12) else some (.stop ((x8,x10,x11,x12))))
def OC(c:aO):((List Int)×Int×Int×Mem)→Option (Mem×Int×(Int×Int))
  | (x13,x14,x15,x16)=>OA c x13 x14 x15 x16
def H7(c:aO)(most:Int):Option (Mem×Int×(Int×Int)):=
  (DN).bind fun x1=>(aS c most).bind fun x2=>(loop (OB c) ([0],x2.1,x2.2.1,x2.2.2,x1)).bind (OC c)
def iM(c:aO)(list:List Int):Option (Int×(Int×Int)):=
  (aS c (list.length:Int)).bind fun x1=>(idx list x1.1).bind fun x2=>some (x2,(x1.2.1,x1.2.2))
def q6(c:aO):Option (Int×(Int×Int)):=
  (r5 c 8).bind fun x1=>(if x1.1 then (iM (⟨c.b,x1.2.1,x1.2.2⟩:aO) ([0,(-1),31,32,55,56,63,64,192,215,216,223,224]:List Int)).bind fun x2=>some (x2.1,(x2.2.1,x2.2.2)) else (aS (⟨c.b,x1.2.1,x1.2.2⟩:aO) 24).bind fun x3=>(aS (⟨c.b,x3.2.1,x3.2.2⟩:aO) 6).bind fun x4=>(j7 x3.1 (aV (1+x4.1))).bind fun x5=>some (x5,(x4.2.1,x4.2.2)))
def CL(c:Int)(x1:aB)(x2:Bool):Option (aB×(List Int)):=
  (if x2 then some (x1,([]:List Int)) else (jT x1 c).bind fun x3=>some (x3.1,x3.2))
def K9(h:aB)(c:Int):Option (aB×(List Int)):=
  (yN h).bind fun x1=>(yP h).bind fun x4=>(if !x4 then CL c x1 true else (bP c 0 2).bind fun x5=>CL c x1 (!x5))
def LA(h:aB)(slot:Int):Option Int:=
  (zE h).bind fun x1=>(if !x1 then some (-1) else (iD h slot).bind fun x2=>some x2)
def OD(x1:aB)(x3:List Int):Option (aB×Bool):=
  some ((⟨x3,x1.Class⟩:aB),true)
def zL(h:aB)(slot gen:Int)(x1:aB)(x2:Bool):Option (aB×Bool):=
  (if x2 then some (x1,false) else (iD h slot).bind fun x4=>(o6 slot x4).bind fun x5=>(iF x1.Bytes x5 4 gen).bind fun x6=>OD x1 x6)
def H8(h:aB)(slot gen:Int):Option (aB×Bool):=
  (yN h).bind fun x1=>(LA h slot).bind fun x7=>(if decide (x7 < 0) then zL h slot gen x1 true else (bP gen 1 7).bind fun x8=>zL h slot gen x1 (!x8))
def aAB(x13 x14:Int)(x15 x16:List Int):Option (aB×(Int×Int)):=
  some ((⟨x15,x16⟩:aB),(x13,x14))
def OE(x8 x32 x33:Int)(x34 x35:List Int):Option (Step (Int×Int×Int×(List Int)×(List Int)) (Int×Int×(List Int)×(List Int))):=
  some (.next (aV (x8 - 1),x32,x33,x34,x35))
def zN(x27 x36 x37:Int)(x38 x39:List Int):Option (Step (Int×Int×Int×(List Int)×(List Int)) (Int×Int×(List Int)×(List Int))):=
  some (.next (aV (x27+1),x36,x37,x38,x39))
def GH(x27 x41 x42:Int)(x43 x44:List Int):Option (Step (Int×Int×Int×(List Int)×(List Int)) (Int×Int×(List Int)×(List Int))):=
  zN x27 x41 x42 x43 x44
def OF(c:aO)(x17:List Int):(Int×Int×Int×(List Int)×(List Int))→Option (Step (Int×Int×Int×(List Int)×(List Int)) (Int×Int×(List Int)×(List Int)))
  | (x27,x28,x29,x30,x31)=>(if decide (x27 < (x17.length:Int)) then (r5 (⟨c.b,x28,x29⟩:aO) 3).bind fun x40=>(if x40.1 then (idx x17 x27).bind fun x45=>(aS (⟨c.b,x40.2.1,x40.2.2⟩:aO) 7).bind fun x46=>(H8 (⟨x30,x31⟩:aB) x45 (aV (1+x46.1))).bind fun x47=>GH x27 x46.2.1 x46.2.2 x47.1.Bytes x47.1.Class else zN x27 x40.2.1 x40.2.2 x30 x31) else some (.stop ((x28,x29,x30,x31))))
def OG(x8:Int):(Int×Int×(List Int)×(List Int))→Option (Step (Int×Int×Int×(List Int)×(List Int)) (Int×Int×(List Int)×(List Int)))
  | (x32,x33,x34,x35)=>OE x8 x32 x33 x34 x35
def GI(c:aO)(x8:Int)(x17:List Int)(x18 x19:Int)(x20 x21:List Int):Option (Step (Int×Int×Int×(List Int)×(List Int)) (Int×Int×(List Int)×(List Int))):=
  (loop (OF c x17) (0,x18,x19,x20,x21)).bind (OG x8)
def OH(c:aO):(Int×Int×Int×(List Int)×(List Int))→Option (Step (Int×Int×Int×(List Int)×(List Int)) (Int×Int×(List Int)×(List Int)))
  | (x8,x9,x10,x11,x12)=>(if decide (0 < x8) then (aS (⟨c.b,x9,x10⟩:aO) 3).bind fun x48=>(K9 (⟨x11,x12⟩:aB) x48.1).bind fun x49=>GI c x8 x49.2 x48.2.1 x48.2.2 x49.1.Bytes x49.1.Class else some (.stop ((x9,x10,x11,x12))))
def aAC:(Int×Int×(List Int)×(List Int))→Option (aB×(Int×Int))
  | (x13,x14,x15,x16)=>aAB x13 x14 x15 x16
def H9(c:aO):Option (aB×(Int×Int)):=
  (zG).bind fun x1=>(aS c 7).bind fun x2=>(loop (OH c) (x2.1,x2.2.1,x2.2.2,x1.Bytes,x1.Class)).bind (aAC)
def j8(x2 x3:Int)(x4 x5:List Int):Option (aB×(Int×Int)):=
  some ((⟨x4,x5⟩:aB),(x2,x3))
def IZ(x1:aB×(Int×Int))(x7 x8:Int)(x9:List Int):Option (aB×(Int×Int)):=
  j8 x7 x8 x9 x1.1.Class
def I0(x1:aB×(Int×Int))(x11 x12:Int)(x13:List Int):Option (aB×(Int×Int)):=
  j8 x11 x12 x1.1.Bytes x13
def I1(x1:aB×(Int×Int))(x17 x18:Int)(x19:List Int):Option (aB×(Int×Int)):=
  j8 x17 x18 x19 x1.1.Class
def LB(c:aO):Option (aB×(Int×Int)):=
  (H9 c).bind fun x1=>(aS (⟨c.b,x1.2.1,x1.2.2⟩:aO) 24).bind fun x6=>(if x6.1 == 0 then (aS (⟨c.b,x6.2.1,x6.2.2⟩:aO) (x1.1.Bytes.length:Int)).bind fun x10=>need (0≤(x10.1:Int)∧(x10.1:Int)≤(x1.1.Bytes.length:Int))<|IZ x1 x10.2.1 x10.2.2 ((x1.1.Bytes.take x10.1.toNat).drop 0) else (if x6.1 == 1 then need (x1.1.Class.length+([0]).length≤1073741824) (j8 x6.2.1 x6.2.2 x1.1.Bytes (x1.1.Class++([0]))) else (if x6.1 == 2 then (aS (⟨c.b,x6.2.1,x6.2.2⟩:aO) (x1.1.Class.length:Int)).bind fun x14=>(iM (⟨c.b,x14.2.1,x14.2.2⟩:aO) ([(-2),3,0,(-1)]:List Int)).bind fun x15=>(idx x1.1.Class x14.1).bind fun x16=>I0 x1 x15.2.1 x15.2.2 (x1.1.Class.set x14.1.toNat x15.1) else (if x6.1 == 3 then (aS (⟨c.b,x6.2.1,x6.2.2⟩:aO) (x1.1.Bytes.length:Int)).bind fun x20=>(iM (⟨c.b,x20.2.1,x20.2.2⟩:aO) ([(-1),256,171,1]:List Int)).bind fun x21=>(idx x1.1.Bytes x20.1).bind fun x22=>I1 x1 x21.2.1 x21.2.2 (x1.1.Bytes.set x20.1.toNat x21.1) else (if x6.1 == 4 then (aS (⟨c.b,x6.2.1,x6.2.2⟩:aO) 6).bind fun x23=>(aS (⟨c.b,x23.2.1,x23.2.2⟩:aO) 12).bind fun x24=>(aS (⟨c.b,x24.2.1,x24.2.2⟩:aO) 9).bind fun x25=>(idx x1.1.Bytes (aV ((aV (x23.1 * 64))+x24.1))).bind fun x26=>j8 x25.2.1 x25.2.2 (x1.1.Bytes.set ((aV ((aV (x23.1 * 64))+x24.1)).toNat) x25.1) x1.1.Class else j8 x6.2.1 x6.2.2 x1.1.Bytes x1.1.Class)))))
def tY(w_ c slot:Int)(x1:aA)(x2:Bool):Option (aA×Bool):=
  (if x2 then some (x1,false) else (yQ x1 w_ c slot).bind fun x3=>some (x3,true))
def P8(l:aA)(w_ c slot:Int):Option (aA×Bool):=
  (r6 l).bind fun x1=>(o7 l).bind fun x4=>(if !x4 then tY w_ c slot x1 true else (kO w_ c).bind fun x5=>(if decide (x5 < 0) then tY w_ c slot x1 true else (bP slot 0 23).bind fun x6=>(if !x6 then tY w_ c slot x1 true else (BG l).bind fun x7=>(xK x7 slot).bind fun x8=>tY w_ c slot x1 x8)))
def W8(x13 x14:Int)(x15 x16:List aC):Option (aA×(Int×Int)):=
  some ((⟨x15,x16⟩:aA),(x13,x14))
def D8(x8 x17 x18:Int)(x19 x20:List aC):Option (Step (Int×Int×Int×(List aC)×(List aC)) (Int×Int×(List aC)×(List aC))):=
  some (.next (aV (x8 - 1),x17,x18,x19,x20))
def MD(c:aO):(Int×Int×Int×(List aC)×(List aC))→Option (Step (Int×Int×Int×(List aC)×(List aC)) (Int×Int×(List aC)×(List aC)))
  | (x8,x9,x10,x11,x12)=>(if decide (0 < x8) then (aS (⟨c.b,x9,x10⟩:aO) 3).bind fun x21=>(aS (⟨c.b,x21.2.1,x21.2.2⟩:aO) 3).bind fun x22=>(aS (⟨c.b,x22.2.1,x22.2.2⟩:aO) 24).bind fun x23=>(P8 (⟨x11,x12⟩:aA) x21.1 x22.1 x23.1).bind fun x24=>D8 x8 x23.2.1 x23.2.2 x24.1.Global x24.1.bB else some (.stop ((x9,x10,x11,x12))))
def W9:(Int×Int×(List aC)×(List aC))→Option (aA×(Int×Int))
  | (x13,x14,x15,x16)=>W8 x13 x14 x15 x16
def FA(c:aO):Option (aA×(Int×Int)):=
  (q5).bind fun x1=>(aS c 14).bind fun x2=>(loop (MD c) (x2.1,x2.2.1,x2.2.2,x1.Global,x1.bB)).bind (W9)
def mM(x2 x3:Int)(x4 x5:List aC):Option (aA×(Int×Int)):=
  some ((⟨x4,x5⟩:aA),(x2,x3))
def I2(x1:aA×(Int×Int))(x7 x8:Int)(x9:List aC):Option (aA×(Int×Int)):=
  mM x7 x8 x1.1.Global x9
def I3(x1:aA×(Int×Int))(x13 x14:Int)(x15:List aC):Option (aA×(Int×Int)):=
  mM x13 x14 x15 x1.1.bB
def LC(c:aO):Option (aA×(Int×Int)):=
  (FA c).bind fun x1=>(aS (⟨c.b,x1.2.1,x1.2.2⟩:aO) 20).bind fun x6=>(if x6.1 == 0 then need (0≤(2:Int)∧(2:Int)≤(x1.1.Global.length:Int)) (mM x6.2.1 x6.2.2 ((x1.1.Global.take ((2:Int).toNat)).drop 0) x1.1.bB) else (if x6.1 == 1 then need (x1.1.bB.length+([(⟨[]⟩:aC)]).length≤1073741824) (mM x6.2.1 x6.2.2 x1.1.Global (x1.1.bB++([(⟨[]⟩:aC)]))) else (if x6.1 == 2 then (aS (⟨c.b,x6.2.1,x6.2.2⟩:aO) (x1.1.bB.length:Int)).bind fun x10=>(idx x1.1.bB x10.1).bind fun x11=>I2 x1 x10.2.1 x10.2.2 (x1.1.bB.set x10.1.toNat (⟨([1,2,3]:List Int)⟩:aC)) else (if x6.1 == 3 then (aS (⟨c.b,x6.2.1,x6.2.2⟩:aO) 3).bind fun x12=>(idx x1.1.Global x12.1).bind fun x16=>(iM (⟨c.b,x12.2.1,x12.2.2⟩:aO) ([(-1),24,5,6]:List Int)).bind fun x17=>need (x16.aJ.length+([x17.1]).length≤1073741824)<|I3 x1 x17.2.1 x17.2.2 (x1.1.Global.set x12.1.toNat (⟨x16.aJ++([x17.1])⟩:aC)) else mM x6.2.1 x6.2.2 x1.1.Global x1.1.bB))))
def vO(x2 x6 x7:Int)(x8:Mem):Option (Mem×Int×(Int×Int)):=
  some (x8,x2,(x6,x7))
def vP(c:aO)(x2 x3 x4:Int)(x5:Mem):Option (Mem×Int×(Int×Int)):=
  (aS (⟨c.b,x3,x4⟩:aO) 24).bind fun x9=>(if x9.1 == 0 then (LB (⟨c.b,x9.2.1,x9.2.2⟩:aO)).bind fun x10=>vO x2 x10.2.1 x10.2.2 (⟨x10.1,x5.aA⟩:Mem) else (if x9.1 == 1 then (LC (⟨c.b,x9.2.1,x9.2.2⟩:aO)).bind fun x11=>vO x2 x11.2.1 x11.2.2 (⟨x5.aB,x11.1⟩:Mem) else vO x2 x9.2.1 x9.2.2 x5))
def GJ(c:aO):Option (Mem×Int×(Int×Int)):=
  (H7 c 22).bind fun x1=>(r5 (⟨c.b,x1.2.2.1,x1.2.2.2⟩:aO) 6).bind fun x12=>(if x12.1 then (q6 (⟨c.b,x12.2.1,x12.2.2⟩:aO)).bind fun x13=>vP c x13.1 x13.2.1 x13.2.2 x1.1 else vP c x1.2.1 x12.2.1 x12.2.2 x1.1)
def aAD(x5:List bC):Option (List bC):=
  some x5
def sJ(l:List aP):((List bC)×Int)→Option (Step ((List bC)×Int) (List bC))
  | (x3,x4)=>(if decide (x4 < (l.length:Int)) then (idx l x4).bind fun x6=>need (x3.length+x6.Rows.length≤1073741824) (some (.next (x3++x6.Rows,aV (x4+1)))) else some (.stop (x3)))
def aAE:(List bC)→Option (List bC)
  | x5=>aAD x5
def yR(l:List aP):Option (List bC):=
  (loop (sJ l) (([]:List bC),0)).bind (aAE)
def ME:Option Bool:=
  some true
def jD(x3:Int)(x5:Bool):Option (Step Int (Out Unit Bool)):=
  (if x5 then some (.stop (Out.ret false)) else some (.next (aV (x3+1))))
def qB(c:aI):Int→Option (Step Int (Out Unit Bool))
  | x3=>(if decide (x3 < 3) then (idx c.aX x3).bind fun x4=>(if !x4.On then (if !(decide (x4=(⟨false,0,false,0⟩:eX))) then jD x3 true else (bP x4.aK 0 c.aK).bind fun x6=>(if !x6 then jD x3 true else (bP x4.Seen 0 2).bind fun x7=>jD x3 (!x7))) else (bP x4.aK 0 c.aK).bind fun x8=>(if !x8 then jD x3 true else (bP x4.Seen 0 2).bind fun x9=>jD x3 (!x9))) else some (.stop (Out.brk ())))
def D9:(Out Unit Bool)→Option Bool
  | .brk ()=>ME
  | .ret r=>some r
def lN(c:aI)(x1:Bool):Option Bool:=
  (if x1 then some false else (loop (qB c) 0).bind (D9))
def l6(c:aI):Option Bool:=
  (bP c.aK 0 100000).bind fun x10=>(if !x10 then lN c true else lN c ((c.aX.length:Int) != 3))
def XA:Option Bool:=
  some true
def qC(x5:List Int)(x6 x8:Int)(x9:Bool):Option (Step ((List Int)×Int) (Out Unit Bool)):=
  (if x9 then some (.stop (Out.ret false)) else need (x5.length+([x8]).length≤1073741824) (some (.next (x5++([x8]),aV (x6+1)))))
def qD(x1:(List bC)):((List Int)×Int)→Option (Step ((List Int)×Int) (Out Unit Bool))
  | (x5,x6)=>(if decide (x6 < (x1.length:Int)) then (idx x1 x6).bind fun x7=>(eH x7.Handle).bind fun x8=>(if decide (x8 < 0) then qC x5 x6 x8 true else (bP x7.aK 0 100000).bind fun x10=>(if !x10 then qC x5 x6 x8 true else (xK x5 x8).bind fun x11=>qC x5 x6 x8 x11)) else some (.stop (Out.brk ())))
def XB:(Out Unit Bool)→Option Bool
  | .brk ()=>XA
  | .ret r=>some r
def wN(x1:(List bC))(x2:Bool):Option Bool:=
  (if x2 then some false else (loop (qD x1) (([]:List Int),0)).bind (XB))
def tZ(l:List aP):Option Bool:=
  (yR l).bind fun x1=>(if (l.length:Int) != 3 then wN x1 true else wN x1 (decide (24 < (x1.length:Int))))
def Q0(z:List Int):Option Bool:=
  some ((z.length:Int) == 3)
def CM(x2:Int)(x3:Bool):Option (Step Int (Out Unit Bool)):=
  (if x3 then some (.stop (Out.ret false)) else some (.next (aV (x2+1))))
def vQ(z:List Int):Int→Option (Step Int (Out Unit Bool))
  | x2=>(if decide (x2 < (z.length:Int)) then (idx z x2).bind fun x4=>(if x4 != 0 then (idx z x2).bind fun x5=>(iE x5).bind fun x6=>CM x2 (!x6) else CM x2 false) else some (.stop (Out.brk ())))
def Q1(z:List Int):(Out Unit Bool)→Option Bool
  | .brk ()=>Q0 z
  | .ret r=>some r
def BH(z:List Int):Option Bool:=
  (loop (vQ z) 0).bind (Q1 z)
def aAF:Option Bool:=
  some true
def zO(x4:Int)(x5:Bool):Option (Step Int (Out Unit Bool)):=
  (if x5 then some (.stop (Out.ret false)) else some (.next (aV (x4+1))))
def sK(b:aE)(x2:(List bC)):Int→Option (Step Int (Out Unit Bool))
  | x4=>(if decide (x4 < (x2.length:Int)) then (idx x2 x4).bind fun x6=>(o8 b.Mem x6.Handle).bind fun x7=>(if !x7 then zO x4 true else zO x4 (decide (b.aI.aK < x6.aK))) else some (.stop (Out.brk ())))
def aAG:(Out Unit Bool)→Option Bool
  | .brk ()=>aAF
  | .ret r=>some r
def nJ(b:aE)(x1:Bool):Option Bool:=
  (if x1 then some false else (yR b.aR).bind fun x2=>(loop (sK b x2) 0).bind (aAG))
def sL(b:aE):Option Bool:=
  (mK b.Mem).bind fun x8=>(if !x8 then nJ b true else (l6 b.aI).bind fun x9=>(if !x9 then nJ b true else (tZ b.aR).bind fun x10=>(if !x10 then nJ b true else (BH b.fW).bind fun x11=>nJ b (!x11))))
def l7(c:aI):Option aI:=
  need (([]:List eX).length+c.aX.length≤1073741824) (some (⟨c.aK,([]:List eX)++c.aX⟩:aI))
def XC(x5:List aP):Option (List aP):=
  some x5
def EA(l:List aP):((List aP)×Int)→Option (Step ((List aP)×Int) (List aP))
  | (x3,x4)=>(if decide (x4 < (l.length:Int)) then (idx l x4).bind fun x6=>need (([]:List bC).length+x6.Rows.length≤1073741824) (need (x3.length+([(⟨([]:List bC)++x6.Rows⟩:aP)]).length≤1073741824) (some (.next (x3++([(⟨([]:List bC)++x6.Rows⟩:aP)]),aV (x4+1))))) else some (.stop (x3)))
def XD:(List aP)→Option (List aP)
  | x5=>XC x5
def t7(l:List aP):Option (List aP):=
  (loop (EA l) (([]:List aP),0)).bind (XD)
def FB(b:aE):Option aE:=
  (r7 b.Mem).bind fun x1=>(l7 b.aI).bind fun x2=>(t7 b.aR).bind fun x3=>(l5 b.fW).bind fun x4=>some (⟨x1,x2,x3,x4⟩:aE)
def bH(s:Sub)(code:Int):Option Sub:=
  some ({s with Code:=code,eI:=true}:Sub)
def FC(b:aE)(s:Sub)(slot pc:Int):Option Sub:=
  (if decide (0≤slot) then (mL b.Mem slot).bind fun x1=>(bH ({s with Out:=x1}:Sub) 0).bind fun x2=>some x2 else some ({s with Pc:=pc}:Sub))
def nK(s:Sub)(x3:Int)(x5:Bool)(x6:aE):Option (aE×Sub):=
  (if x5 then (bH s 3).bind fun x7=>some (x6,x7) else (FC x6 s x3 (aV (s.Pc+1))).bind fun x8=>some (x6,x8))
def eZ(s:Sub)(x3:Int)(x4:aE):Option (aE×Sub):=
  (if decide (x3 < 0) then nK s x3 (s.Pc == 3) x4 else nK s x3 false x4)
def nL(b:aE)(s:Sub)(x1:Int)(x12:Bool):Option (aE×Sub):=
  (if x12 then (idx b.Mem.aA.Global x1).bind fun x13=>(jC x13).bind fun x14=>eZ s x14.2 ({b with Mem:=(⟨b.Mem.aB,(⟨b.Mem.aA.Global.set x1.toNat x14.1,b.Mem.aA.bB⟩:aA)⟩:Mem)}:aE) else (if s.Pc == 2 then (pB b.Mem x1).bind fun x15=>eZ s x15.2 ({b with Mem:=x15.1}:aE) else (bH s 1).bind fun x16=>some (b,x16)))
def q7(b:aE)(w_:Int)(s:Sub):Option (aE×Sub):=
  (pA s.A).bind fun x1=>(if decide (x1 < 0) then (bH s 2).bind fun x2=>some (b,x2) else (if s.Pc == 0 then (kO w_ x1).bind fun x9=>(idx b.Mem.aA.bB x9).bind fun x10=>(jC x10).bind fun x11=>eZ s x11.2 ({b with Mem:=(⟨b.Mem.aB,(⟨b.Mem.aA.Global,b.Mem.aA.bB.set x9.toNat x11.1⟩:aA)⟩:Mem)}:aE) else (if s.Pc == 1 then nL b s x1 true else nL b s x1 (s.Pc == 3))))
def XE:Option Bool:=
  some false
def qE(x3:Int)(x4:Bool):Option (Step Int (Out Unit Bool)):=
  (if x4 then some (.stop (Out.ret true)) else some (.next (aV (x3+1))))
def lO(slot:Int)(x1:(List bC)):Int→Option (Step Int (Out Unit Bool))
  | x3=>(if decide (x3 < (x1.length:Int)) then (idx x1 x3).bind fun x5=>(iE x5.Handle).bind fun x6=>(if x6 then (eH x5.Handle).bind fun x7=>qE x3 (x7 == slot) else qE x3 false) else some (.stop (Out.brk ())))
def XF:(Out Unit Bool)→Option Bool
  | .brk ()=>XE
  | .ret r=>some r
def FD(l:List aP)(slot:Int):Option Bool:=
  (yR l).bind fun x1=>(loop (lO slot x1) 0).bind (XF)
def rP(b:aE)(s:Sub)(x5:List aP):Option (aE×Sub):=
  (bH s 0).bind fun x6=>some (({b with aR:=x5}:aE),x6)
def l8(b:aE)(w_:Int)(s:Sub)(x3:Bool):Option (aE×Sub):=
  (if x3 then (bH s 4).bind fun x4=>some (b,x4) else (idx b.aR w_).bind fun x7=>need (x7.Rows.length+([(⟨s.A,s.E⟩:bC)]).length≤1073741824)<|rP b s (b.aR.set w_.toNat (⟨x7.Rows++([(⟨s.A,s.E⟩:bC)])⟩:aP)))
def nM(b:aE)(w_:Int)(s:Sub):Option (aE×Sub):=
  (if s.Pc == 0 then some (b,({s with Pc:=1,E:=b.aI.aK}:Sub)) else (if s.Pc == 1 then (bP s.E 0 b.aI.aK).bind fun x1=>(if !x1 then (bH s 1).bind fun x2=>some (b,x2) else (o8 b.Mem s.A).bind fun x8=>(if !x8 then l8 b w_ s true else (eH s.A).bind fun x9=>(FD b.aR x9).bind fun x10=>l8 b w_ s x10)) else (bH s 1).bind fun x11=>some (b,x11)))
def kP(w_:Int)(x1:aI)(x3:eX)(x4:Bool):Option (aI×Bool):=
  (if x4 then some (x1,true) else (if x3.Seen == 2 then (idx x1.aX w_).bind fun x5=>some ((⟨x1.aK,x1.aX.set w_.toNat ({x5 with dT:=true,Seen:=0}:eX)⟩:aI),true) else (idx x1.aX w_).bind fun x6=>some ((⟨x1.aK,x1.aX.set w_.toNat ({x6 with Seen:=aV (x3.Seen+1)}:eX)⟩:aI),false)))
def sM(c:aI)(w_ e_:Int)(x1:aI)(x2:Bool):Option (aI×Bool):=
  (if x2 then some (x1,false) else (idx c.aX w_).bind fun x3=>(if !x3.On then kP w_ x1 x3 true else (if x3.dT then kP w_ x1 x3 true else kP w_ x1 x3 (x3.aK == e_))))
def sN(c:aI)(w_ e_:Int):Option (aI×Bool):=
  (l7 c).bind fun x1=>(l6 c).bind fun x7=>(if !x7 then sM c w_ e_ x1 true else (bP w_ 0 2).bind fun x8=>sM c w_ e_ x1 (!x8))
def t9(e_:Int)(x1:aI)(x2:Bool):Option (aI×Bool):=
  (if x2 then some (x1,false) else some ((⟨aV (e_+1),x1.aX⟩:aI),true))
def BI(c:aI)(e_:Int):Option (aI×Bool):=
  (l7 c).bind fun x1=>(l6 c).bind fun x3=>(if !x3 then t9 e_ x1 true else (if c.aK != e_ then t9 e_ x1 true else t9 e_ x1 (e_ == 100000)))
def kQ(b:aE)(s:Sub)(x3:aI×Bool)(x5:Int):Option (aE×Sub):=
  some (({b with aI:=x3.1}:aE),({s with Pc:=x5,B:=aV (s.B+1)}:Sub))
def kR(b:aE)(s:Sub)(x6:aI×Bool)(x7:Int):Option (aE×Sub):=
  (bH ({s with Out:=x7}:Sub) 0).bind fun x8=>some (({b with aI:=x6.1}:aE),x8)
def lP(b:aE)(s:Sub):Option (aE×Sub):=
  (if s.Pc == 0 then some (b,({s with Pc:=1,E:=b.aI.aK,B:=0}:Sub)) else (if s.Pc == 1 then (bP s.B 0 2).bind fun x1=>(if !x1 then (bH s 1).bind fun x2=>some (b,x2) else (sN b.aI s.B s.E).bind fun x3=>(if !x3.2 then (bH s 8).bind fun x4=>some (({b with aI:=x3.1}:aE),x4) else (if (aV (s.B+1)) == 3 then kQ b s x3 2 else kQ b s x3 s.Pc))) else (if s.Pc == 2 then (BI b.aI s.E).bind fun x6=>(if x6.2 then kR b s x6 1 else kR b s x6 s.Out) else (bH s 1).bind fun x9=>some (b,x9))))
def zP(x1:Bool):Option Bool:=
  some x1
def BJ(r_:bC)(e_:Int):Option Bool:=
  (if decide (2≤e_) then zP (decide (r_.aK≤(aV (e_ - 2)))) else zP false)
def XG:Option Int:=
  some (-1)
def dD(l:List bC)(e_:Int):Int→Option (Step Int (Out Unit Int))
  | x2=>(if decide (x2 < (l.length:Int)) then (idx l x2).bind fun x3=>(BJ x3 e_).bind fun x4=>(if x4 then some (.stop (Out.ret x2)) else some (.next (aV (x2+1)))) else some (.stop (Out.brk ())))
def XH:(Out Unit Int)→Option Int
  | .brk ()=>XG
  | .ret r=>some r
def pD(l:List bC)(from_ e_:Int):Option Int:=
  (loop (dD l e_) (if 0 < from_ then from_ else 0)).bind (XH)
def kS(b:aE)(s:Sub)(x8:Int):Option (aE×Sub):=
  some (b,({s with Pc:=x8,B:=aV (s.B+1)}:Sub))
def dF(b:aE)(s:Sub)(x5:Bool):Option (aE×Sub):=
  (if x5 then (bH s 1).bind fun x6=>some (b,x6) else (idx b.fW s.B).bind fun x7=>(if x7 == s.H then some (b,({s with Pc:=1,Row:=aV (s.Row+1)}:Sub)) else (if (aV (s.B+1)) == 3 then kS b s 3 else kS b s s.Pc)))
def pE(s:Sub)(x14:aE):Option (aE×Sub):=
  some (x14,({s with Pc:=1,Out:=aV (s.Out+1)}:Sub))
def dI(b:aE)(w_:Int)(s:Sub)(x1:aP)(x12:Bool):Option (aE×Sub):=
  (if x12 then (bH s 1).bind fun x13=>some (b,x13) else need (0≤(s.Row:Int)∧(s.Row:Int)≤(x1.Rows.length:Int)) (need (0≤(aV (s.Row+1):Int)∧(aV (s.Row+1):Int)≤(x1.Rows.length:Int)) (need (s.Row.toNat≤(aV (s.Row+1)).toNat) ((eH s.H).bind fun x15=>(sH b.Mem w_ x15).bind fun x16=>pE s ({b with Mem:=x16,aR:=b.aR.set w_.toNat (⟨((c9 x1.Rows s.Row.toNat (x1.Rows.drop ((aV (s.Row+1)).toNat))).take (s.Row.toNat+(x1.Rows.length - ((aV (s.Row+1)).toNat)))).drop 0⟩:aP)}:aE)))))
def lQ(b:aE)(w_:Int)(s:Sub):Option (aE×Sub):=
  (idx b.aR w_).bind fun x1=>(if s.Pc == 0 then some (b,({s with Pc:=1,E:=b.aI.aK,Row:=0}:Sub)) else (if s.Pc == 1 then (pD x1.Rows s.Row s.E).bind fun x2=>(if decide (x2 < 0) then (bH s 0).bind fun x3=>some (b,x3) else (idx x1.Rows x2).bind fun x4=>some (b,({s with Pc:=2,Row:=x2,B:=0,H:=x4.Handle}:Sub))) else (if s.Pc == 2 then (bP s.B 0 2).bind fun x9=>(if !x9 then dF b s true else (bP s.Row 0 (aV ((x1.Rows.length:Int) - 1))).bind fun x10=>(if !x10 then dF b s true else (idx x1.Rows s.Row).bind fun x11=>dF b s (x11.Handle != s.H))) else (if s.Pc == 3 then (bP s.Row 0 (aV ((x1.Rows.length:Int) - 1))).bind fun x17=>(if !x17 then dI b w_ s x1 true else (idx x1.Rows s.Row).bind fun x18=>(if x18.Handle != s.H then dI b w_ s x1 true else (BJ x18 s.E).bind fun x19=>dI b w_ s x1 (!x19))) else (bH s 1).bind fun x20=>some (b,x20)))))
def q8(w_ e_:Int)(x1:aI)(x2:Bool):Option (aI×Bool):=
  (if x2 then some (x1,false) else (idx x1.aX w_).bind fun x3=>some ((⟨x1.aK,x1.aX.set w_.toNat (⟨true,e_,false,0⟩:eX)⟩:aI),true))
def xM(c:aI)(w_ e_:Int):Option (aI×Bool):=
  (l7 c).bind fun x1=>(l6 c).bind fun x4=>(if !x4 then q8 w_ e_ x1 true else (bP w_ 0 2).bind fun x5=>(if !x5 then q8 w_ e_ x1 true else (bP e_ 0 c.aK).bind fun x6=>q8 w_ e_ x1 (!x6)))
def yS(b:aE)(w_:Int)(s:Sub):Option (aE×Sub):=
  (if s.Pc == 0 then some (b,({s with Pc:=1,E:=b.aI.aK}:Sub)) else (if s.Pc == 1 then (xM b.aI w_ s.E).bind fun x1=>(if !x1.2 then (bH s 1).bind fun x2=>some (({b with aI:=x1.1}:aE),x2) else some (({b with aI:=x1.1}:aE),({s with Pc:=2}:Sub))) else (if s.Pc == 2 then (if b.aI.aK == s.E then (bH s 0).bind fun x3=>some (b,x3) else some (b,({s with Pc:=0}:Sub))) else (bH s 1).bind fun x4=>some (b,x4))))
def BK(b:aE)(w_:Int)(s:Sub):Option (aE×Sub):=
  (if s.eI then some (b,s) else (if s.Kind == 1 then (q7 b w_ s).bind fun x1=>some (x1.1,x1.2) else (if s.Kind == 2 then (nM b w_ s).bind fun x2=>some (x2.1,x2.2) else (if s.Kind == 3 then (lP b s).bind fun x3=>some (x3.1,x3.2) else (if s.Kind == 4 then (lQ b w_ s).bind fun x4=>some (x4.1,x4.2) else (if s.Kind == 5 then (yS b w_ s).bind fun x5=>some (x5.1,x5.2) else (bH s 1).bind fun x6=>some (b,x6)))))))
def aAH(x10:Sub)(x11:aE):Option (aE×Sub):=
  some (x11,x10)
def gE(w_ x7:Int)(x8:Sub)(x12:Bool)(x13:aE):Option (Step (Int×Sub×aE) (Sub×aE)):=
  (if x12 then (BK x13 w_ x8).bind fun x14=>some (.next (aV (x7+1),x14.2,x14.1)) else some (.stop ((x8,x13))))
def gG(w_:Int):(Int×Sub×aE)→Option (Step (Int×Sub×aE) (Sub×aE))
  | (x7,x8,x9)=>(if decide (x7 < 200) then gE w_ x7 x8 (!x8.eI) x9 else gE w_ x7 x8 false x9)
def aAI:(Sub×aE)→Option (aE×Sub)
  | (x10,x11)=>aAH x10 x11
def sO(w_:Int)(s:Sub)(x2:Bool)(x3:aE):Option (aE×Sub):=
  (if x2 then some (x3,s) else (loop (gG w_) (0,s,x3)).bind (aAI))
def gO(b:aE)(w_:Int)(s:Sub):Option (aE×Sub):=
  (FB b).bind fun x1=>(sL b).bind fun x15=>(if !x15 then sO w_ s true x1 else (bP w_ 0 2).bind fun x16=>sO w_ s (!x16) x1)
def DO:Option (List Int):=
  need (0≤(3:Int)∧(3:Int)≤4294967296) (some (List.replicate ((3:Int).toNat) 0))
def vR:Option aI:=
  need (0≤(3:Int)∧(3:Int)≤4294967296) (some (⟨0,List.replicate ((3:Int).toNat) (⟨false,0,false,0⟩:eX)⟩:aI))
def vS:Option (List aP):=
  need (0≤(3:Int)∧(3:Int)≤4294967296) (some (List.replicate ((3:Int).toNat) (⟨[]⟩:aP)))
def FE:Option aE:=
  (DN).bind fun x1=>(vR).bind fun x2=>(vS).bind fun x3=>(DO).bind fun x4=>some (⟨x1,x2,x3,x4⟩:aE)
def l9(kind a_:Int):Option Sub:=
  some (⟨kind,a_,0,0,0,0,0,0,0,false⟩:Sub)
def vT(w_:Int)(x1:aI)(x2:Bool):Option (aI×Bool):=
  (if x2 then some (x1,false) else (idx x1.aX w_).bind fun x3=>some ((⟨x1.aK,x1.aX.set w_.toNat (⟨false,0,false,0⟩:eX)⟩:aI),true))
def GK(c:aI)(w_:Int):Option (aI×Bool):=
  (l7 c).bind fun x1=>(l6 c).bind fun x4=>(if !x4 then vT w_ x1 true else (bP w_ 0 2).bind fun x5=>(if !x5 then vT w_ x1 true else (idx c.aX w_).bind fun x6=>vT w_ x1 (!x6.On)))
def qF(w_ h:Int)(x1:(List Int))(x2:Bool):Option ((List Int)×Bool):=
  (if x2 then some (x1,false) else (idx x1 w_).bind fun x3=>some (x1.set w_.toNat h,true))
def zQ(z:List Int)(w_ h:Int):Option ((List Int)×Bool):=
  (l5 z).bind fun x1=>(BH z).bind fun x4=>(if !x4 then qF w_ h x1 true else (bP w_ 0 2).bind fun x5=>(if !x5 then qF w_ h x1 true else (iE h).bind fun x6=>qF w_ h x1 (!x6)))
def vU(w_:Int)(x1:(List Int))(x2:Bool):Option ((List Int)×Bool):=
  (if x2 then some (x1,false) else (idx x1 w_).bind fun x3=>some (x1.set w_.toNat 0,true))
def LD(z:List Int)(w_:Int):Option ((List Int)×Bool):=
  (l5 z).bind fun x1=>(BH z).bind fun x4=>(if !x4 then vU w_ x1 true else (bP w_ 0 2).bind fun x5=>(if !x5 then vU w_ x1 true else (idx z w_).bind fun x6=>vU w_ x1 (x6 == 0)))
def EB(x17 x18 x19:Int)(x20:aE):Option (aE×Int×(Int×Int)):=
  some (x20,x17,(x18,x19))
def MF(c:aO)(x13:List Int)(x14 x15:Int)(x16:aE):Option (aE×Int×(Int×Int)):=
  (aS (⟨c.b,x14,x15⟩:aO) (x13.length:Int)).bind fun x21=>(idx x13 x21.1).bind fun x22=>EB x22 x21.2.1 x21.2.2 x16
def dQ(x9:Int)(x23:List Int)(x24 x25:Int)(x26:aE):Option (Step ((List Int)×Int×Int×Int×aE) ((List Int)×Int×Int×aE)):=
  some (.next (x23,aV (x9 - 1),x24,x25,x26))
def EC(x8:List Int)(x9:Int)(x37:Sub)(x38 x39:Int)(x40:aE)(x41:Mem):Option (Step ((List Int)×Int×Int×Int×aE) ((List Int)×Int×Int×aE)):=
  dQ x9 (x8++([x37.Out])) x38 x39 ({x40 with Mem:=x41}:aE)
def ED(c:aO)(x8:List Int)(x9 x33 x34:Int)(x35 x36:aE)(x37:Sub):Option (Step ((List Int)×Int×Int×Int×aE) ((List Int)×Int×Int×aE)):=
  (if x37.Out != 0 then need (x8.length+([x37.Out]).length≤1073741824) ((aS (⟨c.b,x33,x34⟩:aO) 60000).bind fun x42=>(o9 x36.Mem x37.Out 0 4 x42.1).bind fun x43=>EC x8 x9 x37 x42.2.1 x42.2.2 x36 x43.1) else dQ x9 x8 x33 x34 x36)
def EE(x8:List Int)(x9:Int)(x30:Int×(Int×Int))(x49:aE):Option (Step ((List Int)×Int×Int×Int×aE) ((List Int)×Int×Int×aE)):=
  dQ x9 x8 x30.2.1 x30.2.2 x49
def BL(x8:List Int)(x9:Int)(x30:Int×(Int×Int))(x54:aE):Option (Step ((List Int)×Int×Int×Int×aE) ((List Int)×Int×Int×aE)):=
  dQ x9 x8 x30.2.1 x30.2.2 x54
def BM(x8:List Int)(x9:Int)(x30:Int×(Int×Int))(x57:aE):Option (Step ((List Int)×Int×Int×Int×aE) ((List Int)×Int×Int×aE)):=
  dQ x9 x8 x30.2.1 x30.2.2 x57
def BN(x8:List Int)(x9:Int)(x30:Int×(Int×Int))(x60:aE):Option (Step ((List Int)×Int×Int×Int×aE) ((List Int)×Int×Int×aE)):=
  dQ x9 x8 x30.2.1 x30.2.2 x60
def qG(c:aO)(x8:List Int)(x9:Int)(x27:Int×(Int×Int))(x29:Int)(x30:Int×(Int×Int))(x52:Bool)(x53:aE):Option (Step ((List Int)×Int×Int×Int×aE) ((List Int)×Int×Int×aE)):=
  (if x52 then (l9 3 0).bind fun x55=>(gO x53 x27.1 x55).bind fun x56=>BL x8 x9 x30 x56.1 else (if x30.1 == 8 then (l9 4 0).bind fun x58=>(gO x53 x27.1 x58).bind fun x59=>BM x8 x9 x30 x59.1 else (if x30.1 == 9 then (l9 5 0).bind fun x61=>(gO x53 x27.1 x61).bind fun x62=>BN x8 x9 x30 x62.1 else (if x30.1 == 10 then (GK x53.aI x27.1).bind fun x63=>dQ x9 x8 x30.2.1 x30.2.2 ({x53 with aI:=x63.1}:aE) else (zQ x53.fW x27.1 x29).bind fun x64=>(r5 (⟨c.b,x30.2.1,x30.2.2⟩:aO) 3).bind fun x65=>(if x65.1 then (LD x64.1 x27.1).bind fun x66=>dQ x9 x8 x65.2.1 x65.2.2 ({x53 with fW:=x66.1}:aE) else dQ x9 x8 x65.2.1 x65.2.2 ({x53 with fW:=x64.1}:aE))))))
def qH(c:aO)(x8:List Int)(x9:Int)(x27:Int×(Int×Int))(x29:Int)(x30:Int×(Int×Int))(x47:Bool)(x48:aE):Option (Step ((List Int)×Int×Int×Int×aE) ((List Int)×Int×Int×aE)):=
  (if x47 then (l9 2 x29).bind fun x50=>(gO x48 x27.1 x50).bind fun x51=>EE x8 x9 x30 x51.1 else (if x30.1 == 6 then qG c x8 x9 x27 x29 x30 true x48 else qG c x8 x9 x27 x29 x30 (x30.1 == 7) x48))
def jE(c:aO)(x8:List Int)(x9:Int)(x27:Int×(Int×Int))(x29:Int)(x30:Int×(Int×Int))(x31:Bool)(x32:aE):Option (Step ((List Int)×Int×Int×Int×aE) ((List Int)×Int×Int×aE)):=
  (if x31 then (aS (⟨c.b,x30.2.1,x30.2.2⟩:aO) 40).bind fun x44=>(l9 1 (aV (1+x44.1))).bind fun x45=>(gO x32 x27.1 x45).bind fun x46=>ED c x8 x9 x44.2.1 x44.2.2 x32 x46.1 x46.2 else (if x30.1 == 4 then qH c x8 x9 x27 x29 x30 true x32 else qH c x8 x9 x27 x29 x30 (x30.1 == 5) x32))
def MG(c:aO):((List Int)×Int×Int×Int×aE)→Option (Step ((List Int)×Int×Int×Int×aE) ((List Int)×Int×Int×aE))
  | (x8,x9,x10,x11,x12)=>(if decide (0 < x9) then (aS (⟨c.b,x10,x11⟩:aO) 3).bind fun x27=>(aS (⟨c.b,x27.2.1,x27.2.2⟩:aO) (x8.length:Int)).bind fun x28=>(idx x8 x28.1).bind fun x29=>(aS (⟨c.b,x28.2.1,x28.2.2⟩:aO) 12).bind fun x30=>(if x30.1 == 0 then jE c x8 x9 x27 x29 x30 true x12 else (if x30.1 == 1 then jE c x8 x9 x27 x29 x30 true x12 else (if x30.1 == 2 then jE c x8 x9 x27 x29 x30 true x12 else jE c x8 x9 x27 x29 x30 (x30.1 == 3) x12))) else some (.stop ((x8,x10,x11,x12))))
def MH(c:aO):((List Int)×Int×Int×aE)→Option (aE×Int×(Int×Int))
  | (x13,x14,x15,x16)=>MF c x13 x14 x15 x16
def zR(c:aO)(most:Int):Option (aE×Int×(Int×Int)):=
  (FE).bind fun x1=>(aS c most).bind fun x2=>(loop (MG c) ([0],x2.1,x2.2.1,x2.2.2,x1)).bind (MH c)
def UY(x13 x14 x15:Int)(x16:List eX):Option (aI×(Int×Int)):=
  some ((⟨x15,x16⟩:aI),(x13,x14))
def kG(x8 x18 x19 x20:Int)(x21:List eX):Option (Step (Int×Int×Int×Int×(List eX)) (Int×Int×Int×(List eX))):=
  some (.next (aV (x8 - 1),x18,x19,x20,x21))
def uA(x8 x11:Int)(x12:List eX)(x17 x22:Int×(Int×Int))(x25:Bool):Option (Step (Int×Int×Int×Int×(List eX)) (Int×Int×Int×(List eX))):=
  (if x25 then (sN (⟨x11,x12⟩:aI) x17.1 x11).bind fun x26=>kG x8 x22.2.1 x22.2.2 x26.1.aK x26.1.aX else (BI (⟨x11,x12⟩:aI) x11).bind fun x27=>kG x8 x22.2.1 x22.2.2 x27.1.aK x27.1.aX)
def J5(c:aO):(Int×Int×Int×Int×(List eX))→Option (Step (Int×Int×Int×Int×(List eX)) (Int×Int×Int×(List eX)))
  | (x8,x9,x10,x11,x12)=>(if decide (0 < x8) then (aS (⟨c.b,x9,x10⟩:aO) 3).bind fun x17=>(aS (⟨c.b,x17.2.1,x17.2.2⟩:aO) 6).bind fun x22=>(if x22.1 == 0 then (xM (⟨x11,x12⟩:aI) x17.1 x11).bind fun x23=>kG x8 x22.2.1 x22.2.2 x23.1.aK x23.1.aX else (if x22.1 == 1 then (GK (⟨x11,x12⟩:aI) x17.1).bind fun x24=>kG x8 x22.2.1 x22.2.2 x24.1.aK x24.1.aX else (if x22.1 == 2 then uA x8 x11 x12 x17 x22 true else uA x8 x11 x12 x17 x22 (x22.1 == 3)))) else some (.stop ((x9,x10,x11,x12))))
def UZ:(Int×Int×Int×(List eX))→Option (aI×(Int×Int))
  | (x13,x14,x15,x16)=>UY x13 x14 x15 x16
def CN(c:aO):Option (aI×(Int×Int)):=
  (vR).bind fun x1=>(aS c 16).bind fun x2=>(loop (J5 c) (x2.1,x2.2.1,x2.2.2,x1.aK,x1.aX)).bind (UZ)
def gH(x3 x4 x5:Int)(x6:List eX):Option (aI×(Int×Int)):=
  some ((⟨x5,x6⟩:aI),(x3,x4))
def IA(c:aO):Option (aI×(Int×Int)):=
  (CN c).bind fun x1=>(aS (⟨c.b,x1.2.1,x1.2.2⟩:aO) 3).bind fun x2=>(aS (⟨c.b,x2.2.1,x2.2.2⟩:aO) 24).bind fun x7=>(if x7.1 == 0 then (iM (⟨c.b,x7.2.1,x7.2.2⟩:aO) ([(-1),100000,100001]:List Int)).bind fun x8=>gH x8.2.1 x8.2.2 x8.1 x1.1.aX else (if x7.1 == 1 then need (0≤(x2.1:Int)∧(x2.1:Int)≤(x1.1.aX.length:Int)) (gH x7.2.1 x7.2.2 x1.1.aK ((x1.1.aX.take x2.1.toNat).drop 0)) else (if x7.1 == 2 then (idx x1.1.aX x2.1).bind fun x9=>gH x7.2.1 x7.2.2 x1.1.aK (x1.1.aX.set x2.1.toNat (⟨false,1,false,0⟩:eX)) else (if x7.1 == 3 then (idx x1.1.aX x2.1).bind fun x10=>gH x7.2.1 x7.2.2 x1.1.aK (x1.1.aX.set x2.1.toNat (⟨true,aV (x1.1.aK+1),false,0⟩:eX)) else (if x7.1 == 4 then (idx x1.1.aX x2.1).bind fun x11=>gH x7.2.1 x7.2.2 x1.1.aK (x1.1.aX.set x2.1.toNat (⟨true,0,false,3⟩:eX)) else (if x7.1 == 5 then (idx x1.1.aX x2.1).bind fun x12=>gH x7.2.1 x7.2.2 x1.1.aK (x1.1.aX.set x2.1.toNat (⟨true,0,true,0⟩:eX)) else gH x7.2.1 x7.2.2 x1.1.aK x1.1.aX))))))
def uB(l:List aP)(w_ h e_:Int)(x1:(List aP))(x2:Bool):Option ((List aP)×Bool):=
  (if x2 then some (x1,false) else (idx x1 w_).bind fun x3=>need (x3.Rows.length+([(⟨h,e_⟩:bC)]).length≤1073741824) ((tZ (x1.set w_.toNat (⟨x3.Rows++([(⟨h,e_⟩:bC)])⟩:aP))).bind fun x4=>(if !x4 then (t7 l).bind fun x5=>some (x5,false) else some (x1.set w_.toNat (⟨x3.Rows++([(⟨h,e_⟩:bC)])⟩:aP),true))))
def CP(l:List aP)(w_ h e_:Int):Option ((List aP)×Bool):=
  (t7 l).bind fun x1=>(tZ l).bind fun x6=>(if !x6 then uB l w_ h e_ x1 true else (bP w_ 0 2).bind fun x7=>uB l w_ h e_ x1 (!x7))
def U0(x11:List aP)(x12 x13:Int):Option ((List aP)×(Int×Int)):=
  some (x11,(x12,x13))
def J6(c:aO):((List aP)×Int×Int×Int)→Option (Step ((List aP)×Int×Int×Int) ((List aP)×Int×Int))
  | (x7,x8,x9,x10)=>(if decide (0 < x8) then (aS (⟨c.b,x9,x10⟩:aO) 3).bind fun x14=>(q6 (⟨c.b,x14.2.1,x14.2.2⟩:aO)).bind fun x15=>(aS (⟨c.b,x15.2.1,x15.2.2⟩:aO) 6).bind fun x16=>(CP x7 x14.1 x15.1 x16.1).bind fun x17=>some (.next (x17.1,aV (x8 - 1),x16.2.1,x16.2.2)) else some (.stop ((x7,x9,x10))))
def U1:((List aP)×Int×Int)→Option ((List aP)×(Int×Int))
  | (x11,x12,x13)=>U0 x11 x12 x13
def CQ(c:aO):Option ((List aP)×(Int×Int)):=
  (vS).bind fun x1=>(aS c 10).bind fun x2=>(loop (J6 c) (x1,x2.1,x2.2.1,x2.2.2)).bind (U1)
def nN(x2:List aP)(x3 x4:Int):Option ((List aP)×(Int×Int)):=
  some (x2,(x3,x4))
def GL(x7:List aP)(x8 x9:Int):Option ((List aP)×(Int×Int)):=
  nN x7 x8 x9
def IB(c:aO):Option ((List aP)×(Int×Int)):=
  (CQ c).bind fun x1=>(aS (⟨c.b,x1.2.1,x1.2.2⟩:aO) 20).bind fun x5=>(if x5.1 == 0 then need (0≤(1:Int)∧(1:Int)≤(x1.1.length:Int)) (some ((x1.1.take ((1:Int).toNat)).drop 0,(x5.2.1,x5.2.2))) else (if x5.1 == 1 then (idx x1.1 0).bind fun x6=>need (x6.Rows.length+([(⟨33,1⟩:bC),(⟨65,1⟩:bC)]:List bC).length≤1073741824) (nN (x1.1.set ((0:Int).toNat) (⟨x6.Rows++([(⟨33,1⟩:bC),(⟨65,1⟩:bC)]:List bC)⟩:aP)) x5.2.1 x5.2.2) else (if x5.1 == 2 then (idx x1.1 1).bind fun x10=>(q6 (⟨c.b,x5.2.1,x5.2.2⟩:aO)).bind fun x11=>need (x10.Rows.length+([(⟨x11.1,(-1)⟩:bC)]).length≤1073741824)<|GL (x1.1.set ((1:Int).toNat) (⟨x10.Rows++([(⟨x11.1,(-1)⟩:bC)])⟩:aP)) x11.2.1 x11.2.2 else (if x5.1 == 3 then (idx x1.1 2).bind fun x12=>need (x12.Rows.length+([(⟨0,0⟩:bC)]).length≤1073741824) (nN (x1.1.set ((2:Int).toNat) (⟨x12.Rows++([(⟨0,0⟩:bC)])⟩:aP)) x5.2.1 x5.2.2) else nN x1.1 x5.2.1 x5.2.2))))
def zS(x14:List Int)(x15 x16:Int):Option ((List Int)×(Int×Int)):=
  some (x14,(x15,x16))
def OI(c:aO)(x11:List Int)(x12 x13:Int):Option ((List Int)×(Int×Int)):=
  (aS (⟨c.b,x12,x13⟩:aO) 20).bind fun x17=>(if x17.1 == 0 then need (0≤(2:Int)∧(2:Int)≤(x11.length:Int)) (some ((x11.take ((2:Int).toNat)).drop 0,(x17.2.1,x17.2.2))) else (if x17.1 == 1 then (aS (⟨c.b,x17.2.1,x17.2.2⟩:aO) 3).bind fun x18=>(iM (⟨c.b,x18.2.1,x18.2.2⟩:aO) ([(-1),31,56,224]:List Int)).bind fun x19=>(idx x11 x18.1).bind fun x20=>zS (x11.set x18.1.toNat x19.1) x19.2.1 x19.2.2 else zS x11 x17.2.1 x17.2.2))
def OJ(c:aO):((List Int)×Int×Int×Int)→Option (Step ((List Int)×Int×Int×Int) ((List Int)×Int×Int))
  | (x7,x8,x9,x10)=>(if decide (0 < x8) then (aS (⟨c.b,x9,x10⟩:aO) 3).bind fun x21=>(aS (⟨c.b,x21.2.1,x21.2.2⟩:aO) 4).bind fun x22=>(aS (⟨c.b,x22.2.1,x22.2.2⟩:aO) 2).bind fun x23=>(j7 x22.1 (aV (1+x23.1))).bind fun x24=>(zQ x7 x21.1 x24).bind fun x25=>some (.next (x25.1,aV (x8 - 1),x23.2.1,x23.2.2)) else some (.stop ((x7,x9,x10))))
def OK(c:aO):((List Int)×Int×Int)→Option ((List Int)×(Int×Int))
  | (x11,x12,x13)=>OI c x11 x12 x13
def IC(c:aO):Option ((List Int)×(Int×Int)):=
  (DO).bind fun x1=>(aS c 4).bind fun x2=>(loop (OJ c) (x1,x2.1,x2.2.1,x2.2.2)).bind (OK c)
def kT(x1:aE×Int×(Int×Int))(x2 x3:Int)(x4:aE):Option (aE×Int×(Int×Int)):=
  some (x4,x1.2.1,(x2,x3))
def ID(c:aO):Option (aE×Int×(Int×Int)):=
  (zR c 26).bind fun x1=>(aS (⟨c.b,x1.2.2.1,x1.2.2.2⟩:aO) 28).bind fun x5=>(if x5.1 == 0 then (GJ (⟨c.b,x5.2.1,x5.2.2⟩:aO)).bind fun x6=>kT x1 x6.2.2.1 x6.2.2.2 (⟨x6.1,x1.1.aI,x1.1.aR,x1.1.fW⟩:aE) else (if x5.1 == 1 then (IA (⟨c.b,x5.2.1,x5.2.2⟩:aO)).bind fun x7=>kT x1 x7.2.1 x7.2.2 (⟨x1.1.Mem,x7.1,x1.1.aR,x1.1.fW⟩:aE) else (if x5.1 == 2 then (IB (⟨c.b,x5.2.1,x5.2.2⟩:aO)).bind fun x8=>kT x1 x8.2.1 x8.2.2 (⟨x1.1.Mem,x1.1.aI,x8.1,x1.1.fW⟩:aE) else (if x5.1 == 3 then (IC (⟨c.b,x5.2.1,x5.2.2⟩:aO)).bind fun x9=>kT x1 x9.2.1 x9.2.2 (⟨x1.1.Mem,x1.1.aI,x1.1.aR,x9.1⟩:aE) else kT x1 x5.2.1 x5.2.2 x1.1))))
def aC4(x5:Int):Option (Int×Int):=
  some (0,x5)
def CR(code:List UInt8)(x3 x4:Int)(x6:Bool):Option (Step (Int×Int) Int):=
  (if x6 then (idx code x4).bind fun x7=>some (.next (cN .and .i64 (aV ((aV ((aV (x3 * 131))+(x7.toNat:Int)))+7)) 1073741823,aV (x4+1))) else some (.stop (x3)))
def Q2(code:List UInt8):(Int×Int)→Option (Step (Int×Int) Int)
  | (x3,x4)=>(if decide (x4 < (code.length:Int)) then CR code x3 x4 (decide (x4 < 4000)) else CR code x3 x4 false)
def aC5:Int→Option (Int×Int)
  | x5=>aC4 x5
def BO(code:List UInt8):Option (Int×Int):=
  (loop (Q2 code) (aV (10101+(code.length:Int)),0)).bind (aC5)
def rQ(code:List UInt8):Option aE:=
  (BO code).bind fun x1=>(ID (⟨code,x1.1,x1.2⟩:aO)).bind fun x2=>some x2.1
def yT:Option Int:=
  some (-1)
def fS(s:List Int)(f:(Int→Option Bool)):Int→Option (Step Int (Out Unit Int))
  | x2=>(if decide (x2 < (s.length:Int)) then (idx s x2).bind fun x3=>(f x3).bind fun x4=>(if x4 then some (.stop (Out.ret x2)) else some (.next (aV (x2+1)))) else some (.stop (Out.brk ())))
def nO:(Out Unit Int)→Option Int
  | .brk ()=>yT
  | .ret r=>some r
def sP(s:List Int)(f:(Int→Option Bool)):Option Int:=
  (loop (fS s f) 0).bind (nO)
def d5(s:List Int)(f:(Int→Option Bool)):Option Bool:=
  (sP s f).bind fun x1=>some (decide (0≤x1))
def nP(x1:Bool):Option Bool:=
  some x1
def cH(n low high:Int):Option Bool:=
  (if decide (low≤n) then nP (decide (n≤high)) else nP false)
def OL(x:Int):Option Bool:=
  (cH x 0 255).bind fun x1=>some x1
def zT(x:Int):Option Bool:=
  (OL x).bind fun x1=>some (!x1)
def wO(x1:Bool):Option Bool:=
  some x1
def FF(b:List Int):Option Bool:=
  (if decide ((b.length:Int)≤1000) then (d5 b (fun y0=>zT y0)).bind fun x2=>wO (!x2) else wO false)
def CS(c:Int):Option Bool:=
  (cH c (-1) 2).bind fun x1=>some (!x1)
def nQ(x1:Bool):Option Bool:=
  some x1
def DP(h:aB):Option Bool:=
  (if (h.Bytes.length:Int) == 384 then (FF h.Bytes).bind fun x2=>(if x2 then (if (h.Class.length:Int) == 6 then (d5 h.Class (fun y0=>CS y0)).bind fun x3=>nQ (!x3) else nQ false) else nQ false) else nQ false)
def XI(x5:Int):Option Int:=
  some x5
def qI(b:List Int)(at_ width:Int):(Int×Int)→Option (Step (Int×Int) Int)
  | (x3,x4)=>(if decide (x4 < (((b.take ((aV (at_+width)).toNat)).drop at_.toNat).length:Int)) then (idx ((b.take ((aV (at_+width)).toNat)).drop at_.toNat) x4).bind fun x6=>some (.next (aV ((aV (256 * x3))+x6),aV (x4+1))) else some (.stop (x3)))
def XJ:Int→Option Int
  | x5=>XI x5
def pG(b:List Int)(at_ width:Int):Option Int:=
  need (0≤(at_:Int)∧(at_:Int)≤(aV (at_+width):Int)∧(aV (at_+width):Int)≤(b.length:Int)) ((loop (qI b at_ width) (0,0)).bind (XJ))
def CT(x:Int):Option Bool:=
  some (x != 0)
def DQ(b:List Int):Option Bool:=
  (d5 b (fun y0=>CT y0)).bind fun x1=>some (!x1)
def iG(c:Int):Option Bool:=
  (cH c 0 2).bind fun x1=>some x1
def yU(c:Int):Option Int:=
  (iG c).bind fun x1=>(if !x1 then some 0 else (idx ([8,16,40]:List Int) c).bind fun x2=>some x2)
def q9(c:Int):Option Int:=
  (iG c).bind fun x1=>(if !x1 then some 0 else (yU c).bind fun x2=>some (aV (4+x2)))
def mA(c:Int):Option Int:=
  (iG c).bind fun x1=>(if !x1 then some 0 else (q9 c).bind fun x2=>need (x2≠0) (some (aV (Int.tdiv 56 x2))))
def aAJ:Option Bool:=
  some true
def nR(h:aB)(page x1 x4:Int):Int→Option (Step Int (Out Unit Bool))
  | x6=>(if decide (x6 < x4) then (q9 x1).bind fun x7=>(pG ((h.Bytes.take ((aV ((aV (page+1)) * 64)).toNat)).drop ((aV (page * 64)).toNat)) (aV (8+(aV (x6 * x7)))) 4).bind fun x8=>(cH x8 1 7).bind fun x9=>(if !x9 then some (.stop (Out.ret false)) else some (.next (aV (x6+1)))) else some (.stop (Out.brk ())))
def aAK:(Out Unit Bool)→Option Bool
  | .brk ()=>aAJ
  | .ret r=>some r
def gI(h:aB)(page x1:Int)(x3:Bool):Option Bool:=
  (if x3 then some false else (mA x1).bind fun x4=>(loop (nR h page x1 x4) 0).bind (aAK))
def IE(h:aB)(page:Int):Option Bool:=
  (idx h.Class page).bind fun x1=>need (0≤(aV (page * 64):Int)∧(aV (page * 64):Int)≤(aV ((aV (page+1)) * 64):Int)∧(aV ((aV (page+1)) * 64):Int)≤(h.Bytes.length:Int)) ((if decide (x1 < 0) then (DQ ((h.Bytes.take ((aV ((aV (page+1)) * 64)).toNat)).drop ((aV (page * 64)).toNat))).bind fun x2=>some x2 else (idx ((h.Bytes.take ((aV ((aV (page+1)) * 64)).toNat)).drop ((aV (page * 64)).toNat)) 0).bind fun x10=>(if x10 != 171 then gI h page x1 true else (idx ((h.Bytes.take ((aV ((aV (page+1)) * 64)).toNat)).drop ((aV (page * 64)).toNat)) 1).bind fun x11=>(if x11 != x1 then gI h page x1 true else (idx ((h.Bytes.take ((aV ((aV (page+1)) * 64)).toNat)).drop ((aV (page * 64)).toNat)) 2).bind fun x12=>(mA x1).bind fun x13=>(if x12 != x13 then gI h page x1 true else need (0≤(3:Int)∧(3:Int)≤(8:Int)∧(8:Int)≤(((h.Bytes.take ((aV ((aV (page+1)) * 64)).toNat)).drop ((aV (page * 64)).toNat)).length:Int)) ((DQ ((((h.Bytes.take ((aV ((aV (page+1)) * 64)).toNat)).drop ((aV (page * 64)).toNat)).take ((8:Int).toNat)).drop ((3:Int).toNat))).bind fun x14=>gI h page x1 (!x14)))))))
def aAL:Option Bool:=
  some true
def sQ(h:aB):Int→Option (Step Int (Out Unit Bool))
  | x3=>(if decide (x3 < 6) then (IE h x3).bind fun x4=>(if !x4 then some (.stop (Out.ret false)) else some (.next (aV (x3+1)))) else some (.stop (Out.brk ())))
def aAM:(Out Unit Bool)→Option Bool
  | .brk ()=>aAL
  | .ret r=>some r
def DR(h:aB):Option Bool:=
  (DP h).bind fun x1=>(if !x1 then some false else (loop (sQ h) 0).bind (aAM))
def j9(slot:Int):Option Bool:=
  (cH slot 0 23).bind fun x1=>some x1
def pH(x10:List Raw):Option (List Raw):=
  some x10
def e6(slices:List (List Raw)):((List Raw)×Int)→Option (Step ((List Raw)×Int) (List Raw))
  | (x8,x9)=>(if decide (x9 < (slices.length:Int)) then (idx slices x9).bind fun x11=>need (x8.length+x11.length≤1073741824) (some (.next (x8++x11,aV (x9+1)))) else some (.stop (x8)))
def LF:(List Raw)→Option (List Raw)
  | x10=>pH x10
def jU(slices:List (List Raw))(x5:Int):Option (List Raw):=
  need (0≤x5∧x5≤1073741824) ((loop (e6 slices) ([],0)).bind (LF))
def eD(slices:List (List Raw)):(Int×Int)→Option (Step (Int×Int) Int)
  | (x3,x4)=>(if decide (x4 < (slices.length:Int)) then (idx slices x4).bind fun x12=>(if decide ((aV (x3+(x12.length:Int))) < 0) then none else some (.next (aV (x3+(x12.length:Int)),aV (x4+1)))) else some (.stop (x3)))
def zU(slices:List (List Raw)):Int→Option (List Raw)
  | x5=>jU slices x5
def m5(slices:List (List Raw)):Option (List Raw):=
  (loop (eD slices) (0,0)).bind (zU slices)
theorem HR{u1 u2:List Raw}(h:u1.length+u2.length≤1073741824):loop (eD [u1,u2]) (0,0)=some ((u1.length+u2.length:Nat):Int):=by
  have e1:aV (u1.length:Int)=u1.length:=F8 (by omega)
  have e2:aV ((u1.length:Int)+(u2.length:Int))=((u1.length+u2.length:Nat):Int):=by rw [F8 (by omega)];rfl
  have e3:aV (0+1)=1:=F8 (by omega)
  have e4:aV 2=2:=F8 (by omega)
  have n1:¬(u1.length:Int) < 0:=by omega
  have n2:¬((u1.length+u2.length:Nat):Int) < 0:=by omega
  rw [bT (s':=((u1.length:Int),1)) ?_,bT (s':=(((u1.length+u2.length:Nat):Int),2)) ?_,bK (r:=((u1.length+u2.length:Nat):Int)) ?_]
  · simp [eD]
  · simp [eD,idx,e2,e4]
    omega
  · simp [eD,idx,e1,n1]
    exact e3
theorem J7{u1 u2:List Raw}{n1 n2:Nat}(hl:u1.length=n1∧u2.length=n2)(h:n1+n2≤1073741824):m5 [u1,u2]=some (u1++u2):=by
  obtain⟨rfl,rfl⟩:=hl
  have e3:aV (0+1)=1:=F8 (by omega)
  have e4:aV 2=2:=F8 (by omega)
  unfold m5
  rw [HR h]
  simp only [aG,zU,jU]
  rw [aL (by omega),bT (s':=(u1,1)) ?_,bT (s':=(u1++u2,2)) ?_,bK (r:=u1++u2) ?_]
  · rfl
  · simp [e6]
  · simp [e6,idx,e4,aL h]
  · have h1:u1.length≤1073741824:=by omega
    simp [e6,idx,aL h1]
    exact e3
def EF:Option Bool:=
  some true
def wP(x4:Int)(x12:List Bool):Option (Step (Int×(List Bool)) (Out Unit Bool)):=
  some (.next (aV (x4+1),x12))
def lR(x10:Int)(x11:List Bool)(x13:Int)(x14:Bool):Option (Step (Int×(List Bool)) (Out (List Bool) Bool)):=
  (if x14 then some (.stop (Out.ret false)) else need (0≤(x13:Int)∧(x13:Int) < 24) ((idx (x11:List Bool) x13).bind fun x15=>some (.next (aV (x10+1),x11.set (x13.toNat) true))))
def jF(x6:aC):(Int×(List Bool))→Option (Step (Int×(List Bool)) (Out (List Bool) Bool))
  | (x10,x11)=>(if decide (x10 < (x6.aJ.length:Int)) then (idx x6.aJ x10).bind fun x13=>(j9 x13).bind fun x16=>(if !x16 then lR x10 x11 x13 true else need (0≤(x13:Int)∧(x13:Int) < 24) ((idx (x11:List Bool) x13).bind fun x17=>lR x10 x11 x13 x17)) else some (.stop (Out.brk x11)))
def MI(x4:Int):(Out (List Bool) Bool)→Option (Step (Int×(List Bool)) (Out Unit Bool))
  | .brk x12=>wP x4 x12
  | .ret r=>some (.stop (Out.ret r))
def jG(x4:Int)(x5:List Bool)(x6:aC)(x7:Bool):Option (Step (Int×(List Bool)) (Out Unit Bool)):=
  (if x7 then some (.stop (Out.ret false)) else (loop (jF x6) (0,x5)).bind (MI x4))
def jH(l:aA):(Int×(List Bool))→Option (Step (Int×(List Bool)) (Out Unit Bool))
  | (x4,x5)=>(if decide (x4 < ((l.bB++l.Global).length:Int)) then (idx (l.bB++l.Global) x4).bind fun x6=>(if decide (x4 < (l.bB.length:Int)) then jG x4 x5 x6 (decide (2 < (x6.aJ.length:Int))) else jG x4 x5 x6 false) else some (.stop (Out.brk ())))
def XL:(Out Unit Bool)→Option Bool
  | .brk ()=>EF
  | .ret r=>some r
def qJ(l:aA)(x1:Bool):Option Bool:=
  (if x1 then some false else need (l.bB.length+l.Global.length≤1073741824) ((loop (jH l) (0,[false,false,false,false,false,false,false,false,false,false,false,false,false,false,false,false,false,false,false,false,false,false,false,false])).bind (XL)))
def iH(l:aA):Option Bool:=
  (if (l.Global.length:Int) != 3 then qJ l true else qJ l ((l.bB.length:Int) != 9))
def vV(slot c:Int)(x1:Bool):Option Int:=
  (if x1 then some (-1) else (q9 c).bind fun x2=>some (aV ((aV ((aV ((aV (Int.tdiv slot 4)) * 64))+8))+(aV ((Int.tmod slot 4) * x2)))))
def sS(slot c:Int):Option Int:=
  (j9 slot).bind fun x3=>(if !x3 then vV slot c true else (iG c).bind fun x4=>(if !x4 then vV slot c true else (mA c).bind fun x5=>vV slot c (decide (x5≤(Int.tmod slot 4)))))
def wQ(h:aB)(slot:Int)(x1:Bool):Option Int:=
  (if x1 then some (-1) else (idx h.Class (aV (Int.tdiv slot 4))).bind fun x2=>some x2)
def mB(h:aB)(slot:Int):Option Int:=
  (j9 slot).bind fun x3=>(if !x3 then wQ h slot true else (idx h.Class (aV (Int.tdiv slot 4))).bind fun x4=>(sS slot x4).bind fun x5=>wQ h slot (decide (x5 < 0)))
def zV(h:aB)(slot:Int):Option Int:=
  (DP h).bind fun x1=>(if !x1 then some (-1) else (mB h slot).bind fun x2=>some x2)
def xN(h:aB)(slot:Int):Option Int:=
  (zV h slot).bind fun x1=>(if decide (x1 < 0) then some 0 else (sS slot x1).bind fun x2=>(pG h.Bytes x2 4).bind fun x3=>some x3)
def U2:Option Bool:=
  some true
def uC(x2:Int)(x4:Bool):Option (Step Int (Out Unit Bool)):=
  (if x4 then some (.stop (Out.ret false)) else some (.next (aV (x2+1))))
def kH(h:aB)(s:aC)(c:Int):Int→Option (Step Int (Out Unit Bool))
  | x2=>(if decide (x2 < (s.aJ.length:Int)) then (idx s.aJ x2).bind fun x3=>(mB h x3).bind fun x5=>(if x5 != c then uC x2 true else (xN h x3).bind fun x6=>uC x2 (decide (6 < x6))) else some (.stop (Out.brk ())))
def U3:(Out Unit Bool)→Option Bool
  | .brk ()=>U2
  | .ret r=>some r
def vW(h:aB)(s:aC)(c:Int):Option Bool:=
  (loop (kH h s c) 0).bind (U3)
def aC6:Option Bool:=
  some true
def rA(m:Mem):Int→Option (Step Int (Out Unit Bool))
  | x5=>(if decide (x5 < (m.aA.bB.length:Int)) then (idx m.aA.bB x5).bind fun x6=>(vW m.aB x6 (Int.tmod x5 3)).bind fun x7=>(if !x7 then some (.stop (Out.ret false)) else some (.next (aV (x5+1)))) else some (.stop (Out.brk ())))
def aC7:(Out Unit Bool)→Option Bool
  | .brk ()=>aC6
  | .ret r=>some r
def Q3(m:Mem):Option Bool:=
  (loop (rA m) 0).bind (aC7)
def rB(m:Mem):Int→Option (Step Int (Out Unit Bool))
  | x3=>(if decide (x3 < (m.aA.Global.length:Int)) then (idx m.aA.Global x3).bind fun x8=>(vW m.aB x8 x3).bind fun x9=>(if !x9 then some (.stop (Out.ret false)) else some (.next (aV (x3+1)))) else some (.stop (Out.brk ())))
def Q4(m:Mem):(Out Unit Bool)→Option Bool
  | .brk ()=>Q3 m
  | .ret r=>some r
def CU(m:Mem)(x1:Bool):Option Bool:=
  (if x1 then some false else (loop (rB m) 0).bind (Q4 m))
def xO(m:Mem):Option Bool:=
  (DR m.aB).bind fun x10=>(if !x10 then CU m true else (iH m.aA).bind fun x11=>CU m (!x11))
def WA(x6:Int)(x7:List UInt8):Option (List UInt8):=
  need (x7.length+([u8 x6]).length≤1073741824) (some (x7++([u8 x6])))
def DS:(Int×(List UInt8))→Option (Step (Int×(List UInt8)) (Int×(List UInt8)))
  | (x4,x5)=>(if decide (127 < x4) then need (x5.length+([u8 (cN .or .i64 (cN .and .i64 x4 127) 128)]).length≤1073741824) (some (.next (pW .i64 x4 7,x5++([u8 (cN .or .i64 (cN .and .i64 x4 127) 128)])))) else some (.stop ((x4,x5))))
def WB:(Int×(List UInt8))→Option (List UInt8)
  | (x6,x7)=>WA x6 x7
def mC(n:Int):Option (List UInt8):=
  (cH n 0 562949953421311).bind fun x1=>(if !x1 then some ([]) else (loop (DS) (n,([]:List UInt8))).bind (WB))
def U4(x6:List UInt8):Option (List UInt8):=
  some x6
def nS(s:aC):((List UInt8)×Int)→Option (Step ((List UInt8)×Int) (List UInt8))
  | (x4,x5)=>(if decide (x5 < (s.aJ.length:Int)) then (idx s.aJ x5).bind fun x7=>(mC x7).bind fun x8=>need (x4.length+x8.length≤9223372036854775807) (some (.next (x4++x8,aV (x5+1)))) else some (.stop (x4)))
def U5:(List UInt8)→Option (List UInt8)
  | x6=>U4 x6
def vX(s:aC):Option (List UInt8):=
  (mC (s.aJ.length:Int)).bind fun x1=>(loop (nS s) (x1,0)).bind (U5)
def XM(x21:List UInt8):Option (List UInt8):=
  some x21
def qK(m:Mem):((List UInt8)×Int)→Option (Step ((List UInt8)×Int) (List UInt8))
  | (x19,x20)=>(if decide (x20 < (m.aA.bB.length:Int)) then (idx m.aA.bB x20).bind fun x22=>(vX x22).bind fun x23=>need (x19.length+x23.length≤9223372036854775807) (some (.next (x19++x23,aV (x20+1)))) else some (.stop (x19)))
def XN:(List UInt8)→Option (List UInt8)
  | x21=>XM x21
def MJ(m:Mem)(x16:List UInt8):Option (List UInt8):=
  (loop (qK m) (x16,0)).bind (XN)
def qL(m:Mem):((List UInt8)×Int)→Option (Step ((List UInt8)×Int) (List UInt8))
  | (x14,x15)=>(if decide (x15 < (m.aA.Global.length:Int)) then (idx m.aA.Global x15).bind fun x24=>(vX x24).bind fun x25=>need (x14.length+x25.length≤9223372036854775807) (some (.next (x14++x25,aV (x15+1)))) else some (.stop (x14)))
def MK(m:Mem):(List UInt8)→Option (List UInt8)
  | x16=>MJ m x16
def ML(m:Mem)(x11:List UInt8):Option (List UInt8):=
  (loop (qL m) (x11,0)).bind (MK m)
def qM(m:Mem):((List UInt8)×Int)→Option (Step ((List UInt8)×Int) (List UInt8))
  | (x9,x10)=>(if decide (x10 < (m.aB.Class.length:Int)) then (idx m.aB.Class x10).bind fun x26=>need (x9.length+([u8 (aV (x26+1))]).length≤1073741824) (some (.next (x9++([u8 (aV (x26+1))]),aV (x10+1)))) else some (.stop (x9)))
def MM(m:Mem):(List UInt8)→Option (List UInt8)
  | x11=>ML m x11
def MN(m:Mem)(x6:List UInt8):Option (List UInt8):=
  (loop (qM m) (x6,0)).bind (MM m)
def qN(m:Mem):((List UInt8)×Int)→Option (Step ((List UInt8)×Int) (List UInt8))
  | (x4,x5)=>(if decide (x5 < (m.aB.Bytes.length:Int)) then (idx m.aB.Bytes x5).bind fun x27=>need (x4.length+([u8 x27]).length≤1073741824) (some (.next (x4++([u8 x27]),aV (x5+1)))) else some (.stop (x4)))
def MO(m:Mem):(List UInt8)→Option (List UInt8)
  | x6=>MN m x6
def mD(m:Mem):Option (List UInt8):=
  (xO m).bind fun x1=>(if !x1 then some ([]) else (loop (qN m) (([]:List UInt8),0)).bind (MO m))
def yV:Option Int:=
  some (-1)
def fT(s:List eX)(f:(eX→Option Bool)):Int→Option (Step Int (Out Unit Int))
  | x2=>(if decide (x2 < (s.length:Int)) then (idx s x2).bind fun x3=>(f x3).bind fun x4=>(if x4 then some (.stop (Out.ret x2)) else some (.next (aV (x2+1)))) else some (.stop (Out.brk ())))
def nT:(Out Unit Int)→Option Int
  | .brk ()=>yV
  | .ret r=>some r
def sT(s:List eX)(f:(eX→Option Bool)):Option Int:=
  (loop (fT s f) 0).bind (nT)
def i5(s:List eX)(f:(eX→Option Bool)):Option Bool:=
  (sT s f).bind fun x1=>some (decide (0≤x1))
def i6(x1:Bool):Option Bool:=
  some x1
def sU(p:eX)(k0:aI):Option Bool:=
  (cH p.aK 0 k0.aK).bind fun x2=>(if !x2 then i6 true else (cH p.Seen 0 2).bind fun x3=>(if !x3 then i6 true else (if !p.On then i6 (!(decide (p=(⟨false,0,false,0⟩:eX)))) else i6 false)))
def qO(x1:Bool):Option Bool:=
  some x1
def mE(c:aI):Option Bool:=
  (cH c.aK 0 100000).bind fun x2=>(if x2 then (if (c.aX.length:Int) == 3 then (i5 c.aX (fun y0=>sU y0 c)).bind fun x3=>qO (!x3) else qO false) else qO false)
def kI(x1:Bool):Option Bool:=
  some x1
def f8(h:Int):Option Bool:=
  (cH h 32 223).bind fun x2=>(if x2 then kI (decide ((Int.tmod h 32) < 24)) else kI false)
def zW(x5:Int):Option Int:=
  some x5
def gJ(l:List aP):(Int×Int)→Option (Step (Int×Int) Int)
  | (x3,x4)=>(if decide (x4 < (l.length:Int)) then (idx l x4).bind fun x6=>some (.next (aV (x3+(x6.Rows.length:Int)),aV (x4+1))) else some (.stop (x3)))
def S6:Int→Option Int
  | x5=>zW x5
def sV(l:List aP):Option Int:=
  (loop (gJ l) (0,0)).bind (S6)
def wR(l:List aP):Option Bool:=
  (sV l).bind fun x5=>some (decide (x5≤24))
def wS(x3:Int)(x11:List Bool):Option (Step (Int×(List Bool)) (Out Unit Bool)):=
  some (.next (aV (x3+1),x11))
def gP(x9:Int)(x10:List Bool)(x12:bC)(x13:Bool):Option (Step (Int×(List Bool)) (Out (List Bool) Bool)):=
  (if x13 then some (.stop (Out.ret false)) else need (0≤(Int.tmod x12.Handle 32:Int)∧(Int.tmod x12.Handle 32:Int) < 24) ((idx (x10:List Bool) (Int.tmod x12.Handle 32)).bind fun x14=>some (.next (aV (x9+1),x10.set ((Int.tmod x12.Handle 32).toNat) true))))
def jI(x6:aP):(Int×(List Bool))→Option (Step (Int×(List Bool)) (Out (List Bool) Bool))
  | (x9,x10)=>(if decide (x9 < (x6.Rows.length:Int)) then (idx x6.Rows x9).bind fun x12=>(f8 x12.Handle).bind fun x15=>(if !x15 then gP x9 x10 x12 true else (cH x12.aK 0 100000).bind fun x16=>(if !x16 then gP x9 x10 x12 true else need (0≤(Int.tmod x12.Handle 32:Int)∧(Int.tmod x12.Handle 32:Int) < 24) ((idx (x10:List Bool) (Int.tmod x12.Handle 32)).bind fun x17=>gP x9 x10 x12 x17))) else some (.stop (Out.brk x10)))
def MP(x3:Int):(Out (List Bool) Bool)→Option (Step (Int×(List Bool)) (Out Unit Bool))
  | .brk x11=>wS x3 x11
  | .ret r=>some (.stop (Out.ret r))
def jJ(l:List aP):(Int×(List Bool))→Option (Step (Int×(List Bool)) (Out Unit Bool))
  | (x3,x4)=>(if decide (x3 < (l.length:Int)) then (idx l x3).bind fun x6=>(loop (jI x6) (0,x4)).bind (MP x3) else some (.stop (Out.brk ())))
def MQ(l:List aP):(Out Unit Bool)→Option Bool
  | .brk ()=>wR l
  | .ret r=>some r
def jV(l:List aP):Option Bool:=
  (if (l.length:Int) != 3 then some false else (loop (jJ l) (0,[false,false,false,false,false,false,false,false,false,false,false,false,false,false,false,false,false,false,false,false,false,false,false,false])).bind (MQ l))
def zX(x1:Bool):Option Bool:=
  some x1
def OM(h:Int):Option Bool:=
  (if h == 0 then zX true else (f8 h).bind fun x2=>zX x2)
def FG(h:Int):Option Bool:=
  (OM h).bind fun x1=>some (!x1)
def CV(x1:Bool):Option Bool:=
  some x1
def BP(z:List Int):Option Bool:=
  (if (z.length:Int) == 3 then (d5 z (fun y0=>FG y0)).bind fun x2=>CV (!x2) else CV false)
def uV:Option Int:=
  some (-1)
def g7(s:List aP)(f:(aP→Option Bool)):Int→Option (Step Int (Out Unit Int))
  | x2=>(if decide (x2 < (s.length:Int)) then (idx s x2).bind fun x3=>(f x3).bind fun x4=>(if x4 then some (.stop (Out.ret x2)) else some (.next (aV (x2+1)))) else some (.stop (Out.brk ())))
def lF:(Out Unit Int)→Option Int
  | .brk ()=>uV
  | .ret r=>some r
def pI(s:List aP)(f:(aP→Option Bool)):Option Int:=
  (loop (g7 s f) 0).bind (lF)
def fC(s:List aP)(f:(aP→Option Bool)):Option Bool:=
  (pI s f).bind fun x1=>some (decide (0≤x1))
def vY:Option Int:=
  some (-1)
def iI(s:List bC)(f:(bC→Option Bool)):Int→Option (Step Int (Out Unit Int))
  | x2=>(if decide (x2 < (s.length:Int)) then (idx s x2).bind fun x3=>(f x3).bind fun x4=>(if x4 then some (.stop (Out.ret x2)) else some (.next (aV (x2+1)))) else some (.stop (Out.brk ())))
def mN:(Out Unit Int)→Option Int
  | .brk ()=>vY
  | .ret r=>some r
def rL(s:List bC)(f:(bC→Option Bool)):Option Int:=
  (loop (iI s f) 0).bind (mN)
def fJ(s:List bC)(f:(bC→Option Bool)):Option Bool:=
  (rL s f).bind fun x1=>some (decide (0≤x1))
def EY:Option Int:=
  some (-1)
def dO(s:List Int)(v:Int):Int→Option (Step Int (Out Unit Int))
  | x2=>(if decide (x2 < (s.length:Int)) then (idx s x2).bind fun x3=>(if v == x3 then some (.stop (Out.ret x2)) else some (.next (aV (x2+1)))) else some (.stop (Out.brk ())))
def m6:(Out Unit Int)→Option Int
  | .brk ()=>EY
  | .ret r=>some r
def kJ(s:List Int)(v:Int):Option Int:=
  (loop (dO s v) 0).bind (m6)
def m7(s:List Int)(v:Int):Option Bool:=
  (kJ s v).bind fun x1=>some (decide (0≤x1))
def mO(s:aC)(k0:Int):Option Bool:=
  (m7 s.aJ k0).bind fun x1=>some x1
def uW:Option Int:=
  some (-1)
def g8(s:List aC)(f:(aC→Option Bool)):Int→Option (Step Int (Out Unit Int))
  | x2=>(if decide (x2 < (s.length:Int)) then (idx s x2).bind fun x3=>(f x3).bind fun x4=>(if x4 then some (.stop (Out.ret x2)) else some (.next (aV (x2+1)))) else some (.stop (Out.brk ())))
def lG:(Out Unit Int)→Option Int
  | .brk ()=>uW
  | .ret r=>some r
def pJ(s:List aC)(f:(aC→Option Bool)):Option Int:=
  (loop (g8 s f) 0).bind (lG)
def fE(s:List aC)(f:(aC→Option Bool)):Option Bool:=
  (pJ s f).bind fun x1=>some (decide (0≤x1))
def zY(x1:Bool):Option Bool:=
  some x1
def DT(l:aA)(slot:Int):Option Bool:=
  (fE l.Global (fun y0=>mO y0 slot)).bind fun x2=>(if x2 then zY true else (fE l.bB (fun y0=>mO y0 slot)).bind fun x3=>zY x3)
def FH(m:Mem)(slot:Int):Option Int:=
  (mB m.aB slot).bind fun x1=>(if decide (x1 < 0) then some 0 else (DT m.aA slot).bind fun x2=>(if x2 then some 1 else (xN m.aB slot).bind fun x3=>(if decide (6 < x3) then some 2 else some 3)))
def sW(x1:Bool):Option Bool:=
  some x1
def yW(m:Mem)(h:Int):Option Bool:=
  (f8 h).bind fun x2=>(if x2 then (FH m (Int.tmod h 32)).bind fun x3=>(if x3 == 3 then (xN m.aB (Int.tmod h 32)).bind fun x4=>sW (x4 == (aV (Int.tdiv h 32))) else sW false) else sW false)
def pK(x1:Bool):Option Bool:=
  some x1
def wT(r_:bC)(k0:aE):Option Bool:=
  (yW k0.Mem r_.Handle).bind fun x2=>(if !x2 then pK true else pK (decide (k0.aI.aK < r_.aK)))
def CX(l:aP)(k0:aE):Option Bool:=
  (fJ l.Rows (fun y0=>wT y0 k0)).bind fun x1=>some x1
def nU(b:aE)(x1:Bool):Option Bool:=
  (if x1 then some false else (fC b.aR (fun y0=>CX y0 b)).bind fun x2=>some (!x2))
def yX(b:aE):Option Bool:=
  (xO b.Mem).bind fun x3=>(if !x3 then nU b true else (mE b.aI).bind fun x4=>(if !x4 then nU b true else (jV b.aR).bind fun x5=>(if !x5 then nU b true else (BP b.fW).bind fun x6=>nU b (!x6))))
def P9(is:Bool):Option Int:=
  (if is then some 1 else some 0)
def U6(x18:List UInt8):Option (List UInt8):=
  some x18
def nV(b:aE):((List UInt8)×Int)→Option (Step ((List UInt8)×Int) (List UInt8))
  | (x16,x17)=>(if decide (x17 < (b.fW.length:Int)) then (idx b.fW x17).bind fun x19=>(mC x19).bind fun x20=>need (x16.length+x20.length≤9223372036854775807) (some (.next (x16++x20,aV (x17+1)))) else some (.stop (x16)))
def U7:(List UInt8)→Option (List UInt8)
  | x18=>U6 x18
def J8(b:aE)(x13:List UInt8):Option (List UInt8):=
  (loop (nV b) (x13,0)).bind (U7)
def J9(x12:Int)(x27:List UInt8):Option (Step ((List UInt8)×Int) (List UInt8)):=
  some (.next (x27,aV (x12+1)))
def nW(x21:aP):((List UInt8)×Int)→Option (Step ((List UInt8)×Int) (List UInt8))
  | (x25,x26)=>(if decide (x26 < (x21.Rows.length:Int)) then (idx x21.Rows x26).bind fun x28=>(mC x28.Handle).bind fun x29=>(mC x28.aK).bind fun x30=>need (x29.length+x30.length≤9223372036854775807) (need (x25.length+(x29++x30).length≤9223372036854775807) (some (.next (x25++(x29++x30),aV (x26+1))))) else some (.stop (x25)))
def KA(x12:Int):(List UInt8)→Option (Step ((List UInt8)×Int) (List UInt8))
  | x27=>J9 x12 x27
def nX(b:aE):((List UInt8)×Int)→Option (Step ((List UInt8)×Int) (List UInt8))
  | (x11,x12)=>(if decide (x12 < (b.aR.length:Int)) then (idx b.aR x12).bind fun x21=>(mC (x21.Rows.length:Int)).bind fun x22=>need (x11.length+x22.length≤9223372036854775807) ((loop (nW x21) (x11++x22,0)).bind (KA x12)) else some (.stop (x11)))
def KB(b:aE):(List UInt8)→Option (List UInt8)
  | x13=>J8 b x13
def KC(b:aE)(x8:List UInt8):Option (List UInt8):=
  (loop (nX b) (x8,0)).bind (KB b)
def nY(b:aE):((List UInt8)×Int)→Option (Step ((List UInt8)×Int) (List UInt8))
  | (x6,x7)=>(if decide (x7 < (b.aI.aX.length:Int)) then (idx b.aI.aX x7).bind fun x31=>(P9 x31.On).bind fun x32=>(mC x32).bind fun x33=>(mC x31.aK).bind fun x34=>need (x33.length+x34.length≤9223372036854775807) ((P9 x31.dT).bind fun x35=>(mC x35).bind fun x36=>need ((x33++x34).length+x36.length≤9223372036854775807) ((mC x31.Seen).bind fun x37=>need (((x33++x34)++x36).length+x37.length≤9223372036854775807) (need (x6.length+(((x33++x34)++x36)++x37).length≤9223372036854775807) (some (.next (x6++(((x33++x34)++x36)++x37),aV (x7+1))))))) else some (.stop (x6)))
def KD(b:aE):(List UInt8)→Option (List UInt8)
  | x8=>KC b x8
def kA(b:aE):Option (List UInt8):=
  (yX b).bind fun x1=>(if !x1 then some ([]) else (mD b.Mem).bind fun x2=>(mC b.aI.aK).bind fun x3=>need (x2.length+x3.length≤9223372036854775807) ((loop (nY b) (x2++x3,0)).bind (KD b)))
def fU(r_:Reader):Option (Int×Reader):=
  (if r_.left.b == ([]) then some (0,(⟨r_.left,true⟩:Reader)) else (idx r_.left.b 0).bind fun x1=>need (0≤(1:Int)∧(1:Int)≤(r_.left.b.length:Int)) (some ((x1.toNat:Int),(⟨(⟨r_.left.b.drop ((1:Int).toNat)⟩:pU),r_.bad⟩:Reader))))
def XO:Option (Int×Int):=
  some (0,0)
def wU(x3 x4:Int)(x5:UInt8)(x7:Bool):Option (Step (Int×Int) (Out Unit (Int×Int))):=
  (if x7 then some (.stop (Out.brk ())) else some (.stop (Out.ret (cN .or .i64 x3 (QU .i64 (IntKind.i64.wrap (cN .and .u8 (x5.toNat:Int) ((127:UInt8).toNat:Int))) (IntKind.u64.wrap (aV (7 * x4)))),aV (x4+1)))))
def lS(s:List UInt8):(Int×Int)→Option (Step (Int×Int) (Out Unit (Int×Int)))
  | (x3,x4)=>(if decide (x4 < (if 7 < (s.length:Int) then 7 else (s.length:Int))) then (idx s x4).bind fun x5=>need (0≤(IntKind.u64.wrap (aV (7 * x4)):Int)) ((idx s x4).bind fun x6=>(if decide ((x6.toNat:Int) < ((128:UInt8).toNat:Int)) then (if decide (0 < x4) then (idx s x4).bind fun x8=>wU x3 x4 x5 ((x8.toNat:Int) == ((0:UInt8).toNat:Int)) else wU x3 x4 x5 false) else some (.next (cN .or .i64 x3 (QU .i64 (IntKind.i64.wrap (cN .and .u8 (x5.toNat:Int) ((127:UInt8).toNat:Int))) (IntKind.u64.wrap (aV (7 * x4)))),aV (x4+1))))) else some (.stop (Out.brk ())))
def MR:(Out Unit (Int×Int))→Option (Int×Int)
  | .brk ()=>XO
  | .ret r=>some r
def uD(s:List UInt8):Option (Int×Int):=
  (loop (lS s) (0,0)).bind (MR)
def hO(r_:Reader)(x1:Int×Int)(x2:Bool):Option (Int×Reader):=
  need (0≤(x1.2:Int)∧(x1.2:Int)≤(r_.left.b.length:Int)) (some (x1.1,(⟨(⟨r_.left.b.drop (x1.2.toNat)⟩:pU),x2⟩:Reader)))
def aT(r_:Reader):Option (Int×Reader):=
  (uD r_.left.b).bind fun x1=>(if r_.bad then hO r_ x1 true else hO r_ x1 (x1.2 == 0))
def d8(r_:Reader):Option (Int×Reader):=
  (aT r_).bind fun x1=>(if decide ((x1.2.left.b.length:Int) < x1.1) then some (0,(⟨x1.2.left,true⟩:Reader)) else some (x1.1,x1.2))
def QM(x10:List UInt8)(x11:Bool)(x12:List Int):Option (aC×Reader):=
  some ((⟨x12⟩:aC),(⟨(⟨x10⟩:pU),x11⟩:Reader))
def m8(x6:Int)(x13:List UInt8)(x14:Bool)(x15:List Int):Option (Step (Int×(List UInt8)×Bool×(List Int)) ((List UInt8)×Bool×(List Int))):=
  some (.next (aV (x6+1),x13,x14,x15))
def fF(x1:Int×Reader):(Int×(List UInt8)×Bool×(List Int))→Option (Step (Int×(List UInt8)×Bool×(List Int)) ((List UInt8)×Bool×(List Int)))
  | (x6,x7,x8,x9)=>(if decide (x6 < x1.1) then (aT (⟨(⟨x7⟩:pU),x8⟩:Reader)).bind fun x16=>need (x9.length+([x16.1]).length≤1073741824)<|m8 x6 x16.2.left.b x16.2.bad (x9++([x16.1])) else some (.stop ((x7,x8,x9))))
def QN:((List UInt8)×Bool×(List Int))→Option (aC×Reader)
  | (x10,x11,x12)=>QM x10 x11 x12
def eJ(r_:Reader):Option (aC×Reader):=
  (d8 r_).bind fun x1=>(loop (fF x1) (0,x1.2.left.b,x1.2.bad,[])).bind (QN)
def xP(x42:List UInt8)(x43:Bool)(x44:Mem):Option (Mem×Reader):=
  some (x44,(⟨(⟨x42⟩:pU),x43⟩:Reader))
def xQ(x38:Int)(x45:List UInt8)(x46:Bool)(x47:Mem):Option (Step (Int×(List UInt8)×Bool×Mem) ((List UInt8)×Bool×Mem)):=
  some (.next (aV (x38+1),x45,x46,x47))
def pL:(Int×(List UInt8)×Bool×Mem)→Option (Step (Int×(List UInt8)×Bool×Mem) ((List UInt8)×Bool×Mem))
  | (x38,x39,x40,x41)=>(if decide (x38 < 9) then (eJ (⟨(⟨x39⟩:pU),x40⟩:Reader)).bind fun x48=>need (x41.aA.bB.length+([x48.1]).length≤1073741824)<|xQ x38 x48.2.left.b x48.2.bad (⟨x41.aB,(⟨x41.aA.Global,x41.aA.bB++([x48.1])⟩:aA)⟩:Mem) else some (.stop ((x39,x40,x41))))
def xR:((List UInt8)×Bool×Mem)→Option (Mem×Reader)
  | (x42,x43,x44)=>xP x42 x43 x44
def xS(x11 x22:List Int)(x31:List UInt8)(x32:Bool)(x33:List aC):Option (Mem×Reader):=
  (loop (pL) (0,x31,x32,(⟨(⟨x11,x22⟩:aB),(⟨x33,[]⟩:aA)⟩:Mem))).bind (xR)
def xT(x27:Int)(x49:List UInt8)(x50:Bool)(x51:List aC):Option (Step (Int×(List UInt8)×Bool×(List aC)) ((List UInt8)×Bool×(List aC))):=
  some (.next (aV (x27+1),x49,x50,x51))
def xU:(Int×(List UInt8)×Bool×(List aC))→Option (Step (Int×(List UInt8)×Bool×(List aC)) ((List UInt8)×Bool×(List aC)))
  | (x27,x28,x29,x30)=>(if decide (x27 < 3) then (eJ (⟨(⟨x28⟩:pU),x29⟩:Reader)).bind fun x52=>need (x30.length+([x52.1]).length≤1073741824)<|xT x27 x52.2.left.b x52.2.bad (x30++([x52.1])) else some (.stop ((x28,x29,x30))))
def xV(x11 x22:List Int):((List UInt8)×Bool×(List aC))→Option (Mem×Reader)
  | (x31,x32,x33)=>xS x11 x22 x31 x32 x33
def xW(x11:List Int)(x20:List UInt8)(x21:Bool)(x22:List Int):Option (Mem×Reader):=
  (loop (xU) (0,x20,x21,[])).bind (xV x11 x22)
def xX(x16:Int)(x53:List UInt8)(x54:Bool)(x55:List Int):Option (Step (Int×(List UInt8)×Bool×(List Int)) ((List UInt8)×Bool×(List Int))):=
  some (.next (aV (x16+1),x53,x54,x55))
def xY:(Int×(List UInt8)×Bool×(List Int))→Option (Step (Int×(List UInt8)×Bool×(List Int)) ((List UInt8)×Bool×(List Int)))
  | (x16,x17,x18,x19)=>(if decide (x16 < 6) then (fU (⟨(⟨x17⟩:pU),x18⟩:Reader)).bind fun x56=>need (x19.length+([aV (x56.1 - 1)]).length≤1073741824)<|xX x16 x56.2.left.b x56.2.bad (x19++([aV (x56.1 - 1)])) else some (.stop ((x17,x18,x19))))
def xZ(x11:List Int):((List UInt8)×Bool×(List Int))→Option (Mem×Reader)
  | (x20,x21,x22)=>xW x11 x20 x21 x22
def yA(x9:List UInt8)(x10:Bool)(x11:List Int):Option (Mem×Reader):=
  (loop (xY) (0,x9,x10,[])).bind (xZ x11)
def yC(x5:Int)(x57:List UInt8)(x58:Bool)(x59:List Int):Option (Step (Int×(List UInt8)×Bool×(List Int)) ((List UInt8)×Bool×(List Int))):=
  some (.next (aV (x5+1),x57,x58,x59))
def yD:(Int×(List UInt8)×Bool×(List Int))→Option (Step (Int×(List UInt8)×Bool×(List Int)) ((List UInt8)×Bool×(List Int)))
  | (x5,x6,x7,x8)=>(if decide (x5 < 384) then (fU (⟨(⟨x6⟩:pU),x7⟩:Reader)).bind fun x60=>need (x8.length+([x60.1]).length≤1073741824)<|yC x5 x60.2.left.b x60.2.bad (x8++([x60.1])) else some (.stop ((x6,x7,x8))))
def yE:((List UInt8)×Bool×(List Int))→Option (Mem×Reader)
  | (x9,x10,x11)=>yA x9 x10 x11
def jK(r_:Reader):Option (Mem×Reader):=
  (loop (yD) (0,r_.left.b,r_.bad,[])).bind (yE)
def kK(x36:Bool)(x37:aE):Option (aE×Bool):=
  (if x36 then some ((⟨(⟨(⟨[],[]⟩:aB),(⟨[],[]⟩:aA)⟩:Mem),(⟨0,[]⟩:aI),[],[]⟩:aE),false) else some (x37,true))
def BQ(s x33:List UInt8)(x34:Bool)(x35:aE):Option (aE×Bool):=
  (if x34 then kK true x35 else (yX x35).bind fun x38=>(if !x38 then kK true x35 else (kA x35).bind fun x39=>kK (!(x39 == s)) x35))
def BR(x29:Int)(x40:List UInt8)(x41:Bool)(x42:aE):Option (Step (Int×(List UInt8)×Bool×aE) ((List UInt8)×Bool×aE)):=
  some (.next (aV (x29+1),x40,x41,x42))
def nZ:(Int×(List UInt8)×Bool×aE)→Option (Step (Int×(List UInt8)×Bool×aE) ((List UInt8)×Bool×aE))
  | (x29,x30,x31,x32)=>(if decide (x29 < 3) then (aT (⟨(⟨x30⟩:pU),x31⟩:Reader)).bind fun x43=>need (x32.fW.length+([x43.1]).length≤1073741824)<|BR x29 x43.2.left.b x43.2.bad ({x32 with fW:=x32.fW++([x43.1])}:aE) else some (.stop ((x30,x31,x32))))
def BS(s:List UInt8):((List UInt8)×Bool×aE)→Option (aE×Bool)
  | (x33,x34,x35)=>BQ s x33 x34 x35
def BT(s x22:List UInt8)(x23:Bool)(x24:aE):Option (aE×Bool):=
  (loop (nZ) (0,x22,x23,({x24 with fW:=[]}:aE))).bind (BS s)
def KE(x18:Int)(x53:List UInt8)(x54:Bool)(x55:aE)(x56:List bC):Option (Step (Int×(List UInt8)×Bool×aE) ((List UInt8)×Bool×aE)):=
  need (x55.aR.length+([(⟨x56⟩:aP)]).length≤1073741824) (some (.next (aV (x18+1),x53,x54,({x55 with aR:=x55.aR++([(⟨x56⟩:aP)]),fW:=[]}:aE))))
def n7(x21:aE)(x44:Int×Reader):(Int×(List UInt8)×Bool×(List bC))→Option (Step (Int×(List UInt8)×Bool×(List bC)) ((List UInt8)×Bool×aE×(List bC)))
  | (x49,x50,x51,x52)=>(if decide (x49 < x44.1) then (aT (⟨(⟨x50⟩:pU),x51⟩:Reader)).bind fun x57=>(aT x57.2).bind fun x58=>need (x52.length+([(⟨x57.1,x58.1⟩:bC)]).length≤1073741824) (some (.next (aV (x49+1),x58.2.left.b,x58.2.bad,x52++([(⟨x57.1,x58.1⟩:bC)])))) else some (.stop ((x50,x51,({x21 with fW:=[]}:aE),x52))))
def KF(x18:Int):((List UInt8)×Bool×aE×(List bC))→Option (Step (Int×(List UInt8)×Bool×aE) ((List UInt8)×Bool×aE))
  | (x53,x54,x55,x56)=>KE x18 x53 x54 x55 x56
def n8:(Int×(List UInt8)×Bool×aE)→Option (Step (Int×(List UInt8)×Bool×aE) ((List UInt8)×Bool×aE))
  | (x18,x19,x20,x21)=>(if decide (x18 < 3) then (d8 (⟨(⟨x19⟩:pU),x20⟩:Reader)).bind fun x44=>(loop (n7 x21 x44) (0,x44.2.left.b,x44.2.bad,[])).bind (KF x18) else some (.stop ((x19,x20,({x21 with fW:=[]}:aE)))))
def BU(s:List UInt8):((List UInt8)×Bool×aE)→Option (aE×Bool)
  | (x22,x23,x24)=>BT s x22 x23 x24
def BV(s x11:List UInt8)(x12:Bool)(x13:aE):Option (aE×Bool):=
  (loop (n8) (0,x11,x12,({x13 with aR:=[],fW:=[]}:aE))).bind (BU s)
def n9(x1:Mem×Reader)(x2:Int×Reader):(Int×(List UInt8)×Bool×(List eX))→Option (Step (Int×(List UInt8)×Bool×(List eX)) ((List UInt8)×Bool×aE))
  | (x7,x8,x9,x10)=>(if decide (x7 < 3) then (aT (⟨(⟨x8⟩:pU),x9⟩:Reader)).bind fun x59=>(aT x59.2).bind fun x60=>(aT x60.2).bind fun x61=>(aT x61.2).bind fun x62=>need (x10.length+([(⟨x59.1 == 1,x60.1,x61.1 == 1,x62.1⟩:eX)]).length≤1073741824) (some (.next (aV (x7+1),x62.2.left.b,x62.2.bad,x10++([(⟨x59.1 == 1,x60.1,x61.1 == 1,x62.1⟩:eX)])))) else some (.stop ((x8,x9,(⟨x1.1,(⟨x2.1,x10⟩:aI),[],[]⟩:aE)))))
def BW(s:List UInt8):((List UInt8)×Bool×aE)→Option (aE×Bool)
  | (x11,x12,x13)=>BV s x11 x12 x13
def mP(s:List UInt8):Option (aE×Bool):=
  (jK (⟨(⟨s⟩:pU),false⟩:Reader)).bind fun x1=>(aT x1.2).bind fun x2=>(loop (n9 x1 x2) (0,x2.2.left.b,x2.2.bad,[])).bind (BW s)
def S7:Option Bool:=
  some true
def zZ(a_ b:List Int):Int→Option (Step Int (Out Unit Bool))
  | x2=>(if decide (x2 < (a_.length:Int)) then (idx a_ x2).bind fun x3=>(idx b x2).bind fun x4=>(if x3 != x4 then some (.stop (Out.ret false)) else some (.next (aV (x2+1)))) else some (.stop (Out.brk ())))
def S8:(Out Unit Bool)→Option Bool
  | .brk ()=>S7
  | .ret r=>some r
def kU(a_ b:List Int):Option Bool:=
  (if (a_.length:Int) != (b.length:Int) then some false else (loop (zZ a_ b) 0).bind (S8))
def BX(x1:Bool):Option Bool:=
  some x1
def I4(a_ b:aB):Option Bool:=
  (kU a_.Bytes b.Bytes).bind fun x2=>(if x2 then (kU a_.Class b.Class).bind fun x3=>BX x3 else BX false)
def aAN:Option Bool:=
  some true
def GM(a_ b:List aC):Int→Option (Step Int (Out Unit Bool))
  | x2=>(if decide (x2 < (a_.length:Int)) then (idx a_ x2).bind fun x3=>(idx b x2).bind fun x4=>(kU x3.aJ x4.aJ).bind fun x5=>(if !x5 then some (.stop (Out.ret false)) else some (.next (aV (x2+1)))) else some (.stop (Out.brk ())))
def aAO:(Out Unit Bool)→Option Bool
  | .brk ()=>aAN
  | .ret r=>some r
def DU(a_ b:List aC):Option Bool:=
  (if (a_.length:Int) != (b.length:Int) then some false else (loop (GM a_ b) 0).bind (aAO))
def z4(x1:Bool):Option Bool:=
  some x1
def GN(a_ b:aA):Option Bool:=
  (DU a_.Global b.Global).bind fun x2=>(if x2 then (DU a_.bB b.bB).bind fun x3=>z4 x3 else z4 false)
def EG(x1:Bool):Option Bool:=
  some x1
def z5(a_ b:Mem):Option Bool:=
  (I4 a_.aB b.aB).bind fun x2=>(if x2 then (GN a_.aA b.aA).bind fun x3=>EG x3 else EG false)
def S9:Option Bool:=
  some true
def z6(a_ b:aI):Int→Option (Step Int (Out Unit Bool))
  | x3=>(if decide (x3 < (a_.aX.length:Int)) then (idx a_.aX x3).bind fun x4=>(idx b.aX x3).bind fun x5=>(if !(decide (x4=x5)) then some (.stop (Out.ret false)) else some (.next (aV (x3+1)))) else some (.stop (Out.brk ())))
def TA:(Out Unit Bool)→Option Bool
  | .brk ()=>S9
  | .ret r=>some r
def rR(a_ b:aI)(x1:Bool):Option Bool:=
  (if x1 then some false else (loop (z6 a_ b) 0).bind (TA))
def z7(a_ b:aI):Option Bool:=
  (if a_.aK != b.aK then rR a_ b true else rR a_ b ((a_.aX.length:Int) != (b.aX.length:Int)))
def TB:Option Bool:=
  some true
def IF(x2:Int):Option (Step Int (Out Unit Bool)):=
  some (.next (aV (x2+1)))
def rS(a_ b:List aP)(x2:Int):Int→Option (Step Int (Out Unit Bool))
  | x6=>(idx a_ x2).bind fun x7=>(if decide (x6 < (x7.Rows.length:Int)) then (idx a_ x2).bind fun x8=>(idx x8.Rows x6).bind fun x9=>(idx b x2).bind fun x10=>(idx x10.Rows x6).bind fun x11=>(if !(decide (x9=x11)) then some (.stop (Out.ret false)) else some (.next (aV (x6+1)))) else some (.stop (Out.brk ())))
def IG(x2:Int):(Out Unit Bool)→Option (Step Int (Out Unit Bool))
  | .brk ()=>IF x2
  | .ret r=>some (.stop (Out.ret r))
def z8(a_ b:List aP):Int→Option (Step Int (Out Unit Bool))
  | x2=>(if decide (x2 < (a_.length:Int)) then (idx a_ x2).bind fun x3=>(idx b x2).bind fun x4=>(if (x3.Rows.length:Int) != (x4.Rows.length:Int) then some (.stop (Out.ret false)) else (loop (rS a_ b x2) 0).bind (IG x2)) else some (.stop (Out.brk ())))
def TC:(Out Unit Bool)→Option Bool
  | .brk ()=>TB
  | .ret r=>some r
def z9(a_ b:List aP):Option Bool:=
  (if (a_.length:Int) != (b.length:Int) then some false else (loop (z8 a_ b) 0).bind (TC))
def oA(x1:Bool):Option Bool:=
  some x1
def vZ(a_ b:aE):Option Bool:=
  (z5 a_.Mem b.Mem).bind fun x2=>(if x2 then (z7 a_.aI b.aI).bind fun x3=>(if x3 then (z9 a_.aR b.aR).bind fun x4=>(if x4 then (kU a_.fW b.fW).bind fun x5=>oA x5 else oA false) else oA false) else oA false)
def uE(code:List UInt8):Option Mem:=
  (BO code).bind fun x1=>(GJ (⟨code,x1.1,x1.2⟩:aO)).bind fun x2=>some x2.1
def lT(x2:Bool)(x3:Mem):Option (Mem×Bool):=
  (if x2 then some ((⟨(⟨[],[]⟩:aB),(⟨[],[]⟩:aA)⟩:Mem),false) else some (x3,true))
def uF(s:List UInt8):Option (Mem×Bool):=
  (jK (⟨(⟨s⟩:pU),false⟩:Reader)).bind fun x1=>(if x1.2.bad then lT true x1.1 else (xO x1.1).bind fun x4=>(if !x4 then lT true x1.1 else (mD x1.1).bind fun x5=>lT (!(x5 == s)) x1.1))
def aAP(x11:List UInt8)(x12 x13:Int):Option ((List UInt8)×(Int×Int)):=
  some (x11,(x12,x13))
def sY(x7:List UInt8)(x8:Int)(x14:Int×(Int×Int))(x16:Int):Option (Step ((List UInt8)×Int×Int×Int) ((List UInt8)×Int×Int)):=
  need (x7.length+([u8 x16]).length≤1073741824) (some (.next (x7++([u8 x16]),aV (x8 - 1),x14.2.1,x14.2.2)))
def AA(x1:Int×(Int×Int))(x7:List UInt8)(x8:Int)(x14:Int×(Int×Int))(x15:Int):Option (Step ((List UInt8)×Int×Int×Int) ((List UInt8)×Int×Int)):=
  (if x1.1 == 2 then sY x7 x8 x14 (aV (97+(Int.tmod x15 4))) else sY x7 x8 x14 x15)
def ON(c:aO)(x1:Int×(Int×Int)):((List UInt8)×Int×Int×Int)→Option (Step ((List UInt8)×Int×Int×Int) ((List UInt8)×Int×Int))
  | (x7,x8,x9,x10)=>(if decide (0 < x8) then (j6 (⟨c.b,x9,x10⟩:aO)).bind fun x14=>(if x1.1 == 1 then AA x1 x7 x8 x14 (Int.tmod x14.1 2) else AA x1 x7 x8 x14 x14.1) else some (.stop ((x7,x9,x10))))
def aAQ:((List UInt8)×Int×Int)→Option ((List UInt8)×(Int×Int))
  | (x11,x12,x13)=>aAP x11 x12 x13
def IH(c:aO)(most:Int):Option ((List UInt8)×(Int×Int)):=
  (aS c 4).bind fun x1=>(aS (⟨c.b,x1.2.1,x1.2.2⟩:aO) (aV (most+1))).bind fun x2=>(loop (ON c x1) (([]:List UInt8),x2.1,x2.2.1,x2.2.2)).bind (aAQ)
def FI(c:aO)(s:List UInt8):Option ((List UInt8)×(Int×Int)):=
  (if (s.length:Int) == 0 then (IH c 3).bind fun x1=>some (x1.1,(x1.2.1,x1.2.2)) else (aS c (s.length:Int)).bind fun x2=>(aS (⟨c.b,x2.2.1,x2.2.2⟩:aO) 4).bind fun x3=>(if x3.1 == 0 then need (0≤(x2.1:Int)∧(x2.1:Int)≤(s.length:Int)) (need (0≤(aV (x2.1+1):Int)∧(aV (x2.1+1):Int)≤(s.length:Int)) (need ((s.take (x2.1.toNat)).length+(s.drop ((aV (x2.1+1)).toNat)).length≤9223372036854775807) (some ((s.take (x2.1.toNat))++(s.drop ((aV (x2.1+1)).toNat)),(x3.2.1,x3.2.2))))) else (if x3.1 == 1 then need (0≤(x2.1:Int)∧(x2.1:Int)≤(s.length:Int)) (need (0≤(x2.1:Int)∧(x2.1:Int)≤(s.length:Int)) ((j6 (⟨c.b,x3.2.1,x3.2.2⟩:aO)).bind fun x4=>need ((s.take (x2.1.toNat)).length+([u8 x4.1]).length≤9223372036854775807) (need (((s.take (x2.1.toNat))++([u8 x4.1])).length+(s.drop (x2.1.toNat)).length≤9223372036854775807) (some (((s.take (x2.1.toNat))++([u8 x4.1]))++(s.drop (x2.1.toNat)),(x4.2.1,x4.2.2)))))) else (if x3.1 == 2 then need (0≤(x2.1:Int)∧(x2.1:Int)≤(s.length:Int)) (some (s.take (x2.1.toNat),(x3.2.1,x3.2.2))) else need (0≤(x2.1:Int)∧(x2.1:Int)≤(s.length:Int)) ((idx s x2.1).bind fun x5=>need (0≤(aV (x2.1+1):Int)∧(aV (x2.1+1):Int)≤(s.length:Int)) ((aS (⟨c.b,x3.2.1,x3.2.2⟩:aO) 255).bind fun x6=>need ((s.take (x2.1.toNat)).length+([u8 (cN .xor .i64 (x5.toNat:Int) (aV (1+x6.1)))]).length≤9223372036854775807) (need (((s.take (x2.1.toNat))++([u8 (cN .xor .i64 (x5.toNat:Int) (aV (1+x6.1)))])).length+(s.drop ((aV (x2.1+1)).toNat)).length≤9223372036854775807) (some (((s.take (x2.1.toNat))++([u8 (cN .xor .i64 (x5.toNat:Int) (aV (1+x6.1)))]))++(s.drop ((aV (x2.1+1)).toNat)),(x6.2.1,x6.2.2))))))))))
def CY(c:aO)(s:List UInt8):Option ((List UInt8)×(Int×Int)):=
  (aS c 6).bind fun x1=>(if x1.1 == 0 then (FI (⟨c.b,x1.2.1,x1.2.2⟩:aO) s).bind fun x2=>some (x2.1,(x2.2.1,x2.2.2)) else (if x1.1 == 1 then (aS (⟨c.b,x1.2.1,x1.2.2⟩:aO) (aV ((s.length:Int)+1))).bind fun x3=>need (0≤(x3.1:Int)∧(x3.1:Int)≤(s.length:Int)) (some (s.take (x3.1.toNat),(x3.2.1,x3.2.2))) else (if x1.1 == 2 then need (s.length+([0]).length≤9223372036854775807) (some (s++([0]),(x1.2.1,x1.2.2))) else some (s,(x1.2.1,x1.2.2)))))
def WC(x6:Int)(x7:List UInt8):Option (List UInt8):=
  need (x7.length+([u8 x6]).length≤1073741824) (some (x7++([u8 x6])))
def DV:(Int×(List UInt8))→Option (Step (Int×(List UInt8)) (Int×(List UInt8)))
  | (x4,x5)=>(if decide (128≤x4) then need (x5.length+([u8 (aV (128+(Int.tmod x4 128)))]).length≤1073741824) (some (.next (aV (Int.tdiv x4 128),x5++([u8 (aV (128+(Int.tmod x4 128)))])))) else some (.stop ((x4,x5))))
def WD:(Int×(List UInt8))→Option (List UInt8)
  | (x6,x7)=>WC x6 x7
def kV(n:Int):Option (List UInt8):=
  (bP n 0 562949953421311).bind fun x1=>(if !x1 then some ([]) else (loop (DV) (n,([]:List UInt8))).bind (WD))
def U8(x5:List UInt8):Option (List UInt8):=
  some x5
def KG(x4:Int)(x12:List UInt8):Option (Step ((List UInt8)×Int) (List UInt8)):=
  some (.next (x12,aV (x4+1)))
def oC(l:List aC)(x4:Int):((List UInt8)×Int)→Option (Step ((List UInt8)×Int) (List UInt8))
  | (x10,x11)=>(idx l x4).bind fun x13=>(if decide (x11 < (x13.aJ.length:Int)) then (idx l x4).bind fun x14=>(idx x14.aJ x11).bind fun x15=>(kV x15).bind fun x16=>need (x10.length+x16.length≤9223372036854775807) (some (.next (x10++x16,aV (x11+1)))) else some (.stop (x10)))
def KH(x4:Int):(List UInt8)→Option (Step ((List UInt8)×Int) (List UInt8))
  | x12=>KG x4 x12
def oD(l:List aC):((List UInt8)×Int)→Option (Step ((List UInt8)×Int) (List UInt8))
  | (x3,x4)=>(if decide (x4 < (l.length:Int)) then (idx l x4).bind fun x6=>(kV (x6.aJ.length:Int)).bind fun x7=>need (x3.length+x7.length≤9223372036854775807) ((loop (oC l x4) (x3++x7,0)).bind (KH x4)) else some (.stop (x3)))
def U9:(List UInt8)→Option (List UInt8)
  | x5=>U8 x5
def v5(l:List aC):Option (List UInt8):=
  (loop (oD l) ([],0)).bind (U9)
def MS(m:Mem)(x11:List UInt8):Option (List UInt8):=
  (v5 m.aA.Global).bind fun x12=>need (x11.length+x12.length≤9223372036854775807) ((v5 m.aA.bB).bind fun x13=>need ((x11++x12).length+x13.length≤9223372036854775807) (some ((x11++x12)++x13)))
def qP(m:Mem):((List UInt8)×Int)→Option (Step ((List UInt8)×Int) (List UInt8))
  | (x9,x10)=>(if decide (x10 < 6) then (idx m.aB.Class x10).bind fun x14=>need (x9.length+([u8 (aV (x14+1))]).length≤1073741824) (some (.next (x9++([u8 (aV (x14+1))]),aV (x10+1)))) else some (.stop (x9)))
def MT(m:Mem):(List UInt8)→Option (List UInt8)
  | x11=>MS m x11
def MU(m:Mem)(x6:List UInt8):Option (List UInt8):=
  (loop (qP m) (x6,0)).bind (MT m)
def qQ(m:Mem):((List UInt8)×Int)→Option (Step ((List UInt8)×Int) (List UInt8))
  | (x4,x5)=>(if decide (x5 < (m.aB.Bytes.length:Int)) then (idx m.aB.Bytes x5).bind fun x15=>need (x4.length+([u8 x15]).length≤1073741824) (some (.next (x4++([u8 x15]),aV (x5+1)))) else some (.stop (x4)))
def MV(m:Mem):(List UInt8)→Option (List UInt8)
  | x6=>MU m x6
def FJ(m:Mem):Option (List UInt8):=
  (mK m).bind fun x1=>(if !x1 then some ([]) else (loop (qQ m) (([]:List UInt8),0)).bind (MV m))
def FK(b:Bool):Option Int:=
  (if b then some 1 else some 0)
def VA(x18:List UInt8):Option (List UInt8):=
  some x18
def oE(b:aE):((List UInt8)×Int)→Option (Step ((List UInt8)×Int) (List UInt8))
  | (x16,x17)=>(if decide (x17 < 3) then (idx b.fW x17).bind fun x19=>(kV x19).bind fun x20=>need (x16.length+x20.length≤9223372036854775807) (some (.next (x16++x20,aV (x17+1)))) else some (.stop (x16)))
def VB:(List UInt8)→Option (List UInt8)
  | x18=>VA x18
def KI(b:aE)(x13:List UInt8):Option (List UInt8):=
  (loop (oE b) (x13,0)).bind (VB)
def KJ(x12:Int)(x27:List UInt8):Option (Step ((List UInt8)×Int) (List UInt8)):=
  some (.next (x27,aV (x12+1)))
def oF(b:aE)(x12:Int):((List UInt8)×Int)→Option (Step ((List UInt8)×Int) (List UInt8))
  | (x25,x26)=>(idx b.aR x12).bind fun x28=>(if decide (x26 < (x28.Rows.length:Int)) then (idx b.aR x12).bind fun x29=>(idx x29.Rows x26).bind fun x30=>(idx b.aR x12).bind fun x31=>(idx x31.Rows x26).bind fun x32=>(kV x30.Handle).bind fun x33=>need (x25.length+x33.length≤9223372036854775807) ((kV x32.aK).bind fun x34=>need ((x25++x33).length+x34.length≤9223372036854775807) (some (.next ((x25++x33)++x34,aV (x26+1))))) else some (.stop (x25)))
def KK(x12:Int):(List UInt8)→Option (Step ((List UInt8)×Int) (List UInt8))
  | x27=>KJ x12 x27
def oG(b:aE):((List UInt8)×Int)→Option (Step ((List UInt8)×Int) (List UInt8))
  | (x11,x12)=>(if decide (x12 < 3) then (idx b.aR x12).bind fun x21=>(kV (x21.Rows.length:Int)).bind fun x22=>need (x11.length+x22.length≤9223372036854775807) ((loop (oF b x12) (x11++x22,0)).bind (KK x12)) else some (.stop (x11)))
def KL(b:aE):(List UInt8)→Option (List UInt8)
  | x13=>KI b x13
def KM(b:aE)(x8:List UInt8):Option (List UInt8):=
  (loop (oG b) (x8,0)).bind (KL b)
def oH(b:aE):((List UInt8)×Int)→Option (Step ((List UInt8)×Int) (List UInt8))
  | (x6,x7)=>(if decide (x7 < 3) then (idx b.aI.aX x7).bind fun x35=>(FK x35.On).bind fun x36=>(kV x36).bind fun x37=>need (x6.length+x37.length≤9223372036854775807) ((kV x35.aK).bind fun x38=>need ((x6++x37).length+x38.length≤9223372036854775807) ((FK x35.dT).bind fun x39=>(kV x39).bind fun x40=>need (((x6++x37)++x38).length+x40.length≤9223372036854775807) ((kV x35.Seen).bind fun x41=>need ((((x6++x37)++x38)++x40).length+x41.length≤9223372036854775807) (some (.next ((((x6++x37)++x38)++x40)++x41,aV (x7+1))))))) else some (.stop (x6)))
def KN(b:aE):(List UInt8)→Option (List UInt8)
  | x8=>KM b x8
def mQ(b:aE):Option (List UInt8):=
  (sL b).bind fun x1=>(if !x1 then some ([]) else (FJ b.Mem).bind fun x2=>(kV b.aI.aK).bind fun x3=>need (x2.length+x3.length≤9223372036854775807) ((loop (oH b) (x2++x3,0)).bind (KN b)))
def rT(code:List UInt8):Option (List UInt8):=
  (BO code).bind fun x1=>(zR (⟨code,x1.1,x1.2⟩:aO) 20).bind fun x2=>(mQ x2.1).bind fun x3=>(CY (⟨code,x2.2.2.1,x2.2.2.2⟩:aO) x3).bind fun x4=>some x4.1
def XP:Option (Int×Int):=
  some (0,0)
def MW(s:List UInt8)(x2 x8:Int):Option (Step Int (Out Unit (Int×Int))):=
  need (0≤(x2:Int)∧(x2:Int)≤(s.length:Int)) ((kV x8).bind fun x9=>(if x9 == (s.take (x2.toNat)) then some (.stop (Out.ret (x8,x2))) else some (.next (aV (x2+1)))))
def qR(s:List UInt8):(Int×Int)→Option (Step (Int×Int) Int)
  | (x6,x7)=>(if decide (0≤x7) then (idx s x7).bind fun x10=>some (.next (aV ((aV (x6 * 128))+(Int.tmod (x10.toNat:Int) 128)),aV (x7 - 1))) else some (.stop (x6)))
def MX(s:List UInt8)(x2:Int):Int→Option (Step Int (Out Unit (Int×Int)))
  | x8=>MW s x2 x8
def wV(s:List UInt8)(x2:Int)(x3:Bool):Option (Step Int (Out Unit (Int×Int))):=
  (if x3 then (loop (qR s) (0,aV (x2 - 1))).bind (MX s x2) else some (.stop (Out.brk ())))
def gQ(s:List UInt8):Int→Option (Step Int (Out Unit (Int×Int)))
  | x2=>(if decide (x2≤7) then wV s x2 (decide (x2≤(s.length:Int))) else wV s x2 false)
def XQ:(Out Unit (Int×Int))→Option (Int×Int)
  | .brk ()=>XP
  | .ret r=>some r
def uG(s:List UInt8):Option (Int×Int):=
  (loop (gQ s) 1).bind (XQ)
def dK(s:List UInt8)(at_:Int):Option (Int×Int):=
  (if decide (at_ < 0) then some (0,(-1)) else need (0≤(at_:Int)∧(at_:Int)≤(s.length:Int)) ((uG (s.drop (at_.toNat))).bind fun x1=>(if x1.2 == 0 then some (0,(-1)) else some (x1.1,aV (at_+x1.2)))))
def VC(x7:Int)(x8:List aC):Option ((List aC)×Int):=
  some (x8,x7)
def BY(x5:List aC)(x6 x16:Int)(x17:List Int):Option (Step (Int×(List aC)×Int) (Int×(List aC))):=
  need (x5.length+([(⟨x17⟩:aC)]).length≤1073741824) (some (.next (x16,x5++([(⟨x17⟩:aC)]),aV (x6+1))))
def kL(s:List UInt8)(x13 x14:Int)(x15:List Int)(x18:Bool):Option (Step (Int×Int×(List Int)) (Int×(List Int))):=
  (if x18 then (dK s x13).bind fun x19=>need (x15.length+([x19.1]).length≤1073741824) (some (.next (x19.2,aV (x14+1),x15++([x19.1])))) else some (.stop ((x13,x15))))
def fV(s:List UInt8)(x9:Int×Int):(Int×Int×(List Int))→Option (Step (Int×Int×(List Int)) (Int×(List Int)))
  | (x13,x14,x15)=>(if decide (x14 < x9.1) then kL s x13 x14 x15 (decide (x14 < 24)) else kL s x13 x14 x15 false)
def BZ(x5:List aC)(x6:Int):(Int×(List Int))→Option (Step (Int×(List aC)×Int) (Int×(List aC)))
  | (x16,x17)=>BY x5 x6 x16 x17
def hY(s:List UInt8)(n:Int):(Int×(List aC)×Int)→Option (Step (Int×(List aC)×Int) (Int×(List aC)))
  | (x4,x5,x6)=>(if decide (x6 < n) then (dK s x4).bind fun x9=>(loop (fV s x9) (x9.2,0,[])).bind (BZ x5 x6) else some (.stop ((x4,x5))))
def VD:(Int×(List aC))→Option ((List aC)×Int)
  | (x7,x8)=>VC x7 x8
def mR(s:List UInt8)(at_ n:Int):Option ((List aC)×Int):=
  (loop (hY s n) (at_,([]:List aC),0)).bind (VD)
def GO(s:List UInt8)(x5 x10:List Int):Option (Mem×Int):=
  (mR s 390 3).bind fun x11=>(mR s x11.2 9).bind fun x12=>some ((⟨(⟨x5,x10⟩:aB),(⟨x11.1,x12.1⟩:aA)⟩:Mem),x12.2)
def GP(x8:Int)(x13:List Int):Option (Step (Int×(List Int)) (List Int)):=
  some (.next (aV (x8+1),x13))
def sZ(s:List UInt8):(Int×(List Int))→Option (Step (Int×(List Int)) (List Int))
  | (x8,x9)=>(if decide (x8 < 6) then (idx s (aV (384+x8))).bind fun x14=>need (x9.length+([aV ((x14.toNat:Int) - 1)]).length≤1073741824)<|GP x8 (x9++([aV ((x14.toNat:Int) - 1)])) else some (.stop (x9)))
def GQ(s:List UInt8)(x5:List Int):(List Int)→Option (Mem×Int)
  | x10=>GO s x5 x10
def GR(s:List UInt8)(x5:List Int):Option (Mem×Int):=
  (loop (sZ s) (0,[])).bind (GQ s x5)
def GS(x3:Int)(x15:List Int):Option (Step (Int×(List Int)) (List Int)):=
  some (.next (aV (x3+1),x15))
def tA(s:List UInt8):(Int×(List Int))→Option (Step (Int×(List Int)) (List Int))
  | (x3,x4)=>(if decide (x3 < 384) then (idx s x3).bind fun x16=>need (x4.length+([(x16.toNat:Int)]).length≤1073741824)<|GS x3 (x4++([(x16.toNat:Int)])) else some (.stop (x4)))
def GU(s:List UInt8):(List Int)→Option (Mem×Int)
  | x5=>GR s x5
def yY(s:List UInt8):Option (Mem×Int):=
  (if decide ((s.length:Int) < 390) then some ((⟨(⟨[],[]⟩:aB),(⟨[],[]⟩:aA)⟩:Mem),(-1)) else (loop (tA s) (0,[])).bind (GU s))
def mF(s:List UInt8)(at_:Int):Option (eX×Int):=
  (dK s at_).bind fun x1=>(dK s x1.2).bind fun x2=>(dK s x2.2).bind fun x3=>(dK s x3.2).bind fun x4=>some ((⟨x1.1 == 1,x2.1,x3.1 == 1,x4.1⟩:eX),x4.2)
def MY(x8:Int)(x9:List bC):Option (aP×Int):=
  some ((⟨x9⟩:aP),x8)
def lU(s:List UInt8)(x5 x6:Int)(x7:List bC)(x10:Bool):Option (Step (Int×Int×(List bC)) (Int×(List bC))):=
  (if x10 then (dK s x5).bind fun x11=>(dK s x11.2).bind fun x12=>need (x7.length+([(⟨x11.1,x12.1⟩:bC)]).length≤1073741824) (some (.next (x12.2,aV (x6+1),x7++([(⟨x11.1,x12.1⟩:bC)])))) else some (.stop ((x5,x7))))
def jL(s:List UInt8)(x1:Int×Int):(Int×Int×(List bC))→Option (Step (Int×Int×(List bC)) (Int×(List bC)))
  | (x5,x6,x7)=>(if decide (x6 < x1.1) then lU s x5 x6 x7 (decide (x6 < 24)) else lU s x5 x6 x7 false)
def MZ:(Int×(List bC))→Option (aP×Int)
  | (x8,x9)=>MY x8 x9
def jW(s:List UInt8)(at_:Int):Option (aP×Int):=
  (dK s at_).bind fun x1=>(loop (jL s x1) (x1.2,0,[])).bind (MZ)
def kM(x27:Bool)(x28:aE):Option (aE×Bool):=
  (if x27 then some ((⟨(⟨(⟨[],[]⟩:aB),(⟨[],[]⟩:aA)⟩:Mem),(⟨0,[]⟩:aI),[],[]⟩:aE),false) else some (x28,true))
def B3(s:List UInt8)(x25:Int)(x26:aE):Option (aE×Bool):=
  (if x25 != (s.length:Int) then kM true x26 else (sL x26).bind fun x29=>(if !x29 then kM true x26 else (mQ x26).bind fun x30=>kM (!(x30 == s)) x26))
def oJ(s:List UInt8)(x18:aE):(Int×Int×(List Int))→Option (Step (Int×Int×(List Int)) (Int×aE))
  | (x22,x23,x24)=>(if decide (x23 < 3) then (dK s x22).bind fun x31=>need (x24.length+([x31.1]).length≤1073741824) (some (.next (x31.2,aV (x23+1),x24++([x31.1])))) else some (.stop ((x22,({x18 with fW:=x24}:aE)))))
def B4(s:List UInt8):(Int×aE)→Option (aE×Bool)
  | (x25,x26)=>B3 s x25 x26
def B5(s:List UInt8)(x17:Int)(x18:aE):Option (aE×Bool):=
  (loop (oJ s x18) (x17,0,[])).bind (B4 s)
def oK(s:List UInt8)(x10:aE):(Int×Int×(List aP))→Option (Step (Int×Int×(List aP)) (Int×aE))
  | (x14,x15,x16)=>(if decide (x15 < 3) then (jW s x14).bind fun x32=>need (x16.length+([x32.1]).length≤1073741824) (some (.next (x32.2,aV (x15+1),x16++([x32.1])))) else some (.stop ((x14,({x10 with aR:=x16,fW:=[]}:aE)))))
def B6(s:List UInt8):(Int×aE)→Option (aE×Bool)
  | (x17,x18)=>B5 s x17 x18
def B7(s:List UInt8)(x9:Int)(x10:aE):Option (aE×Bool):=
  (loop (oK s x10) (x9,0,[])).bind (B6 s)
def oL(s:List UInt8)(x1:Mem×Int)(x2:Int×Int):(Int×Int×(List eX))→Option (Step (Int×Int×(List eX)) (Int×aE))
  | (x6,x7,x8)=>(if decide (x7 < 3) then (mF s x6).bind fun x33=>need (x8.length+([x33.1]).length≤1073741824) (some (.next (x33.2,aV (x7+1),x8++([x33.1])))) else some (.stop ((x6,(⟨x1.1,(⟨x2.1,x8⟩:aI),[],[]⟩:aE)))))
def B8(s:List UInt8):(Int×aE)→Option (aE×Bool)
  | (x9,x10)=>B7 s x9 x10
def rC(s:List UInt8):Option (aE×Bool):=
  (yY s).bind fun x1=>(dK s x1.2).bind fun x2=>(loop (oL s x1 x2) (x2.2,0,[])).bind (B8 s)
def d9(w_:Int):Option Bool:=
  (cH w_ 0 2).bind fun x1=>some x1
def eK(s:List Int):Option (List Int):=
  need (([]:List Int).length+s.length≤1073741824) (some (([]:List Int)++s))
def rD(h:aB):Option aB:=
  (eK h.Bytes).bind fun x1=>(eK h.Class).bind fun x2=>some (⟨x1,x2⟩:aB)
def TD(x5 x10:List aC):Option aA:=
  some (⟨x5,x10⟩:aA)
def AB(x8:Int)(x12:List aC):Option (Step (Int×(List aC)) (List aC)):=
  some (.next (aV (x8+1),x12))
def AD(l:aA):(Int×(List aC))→Option (Step (Int×(List aC)) (List aC))
  | (x8,x9)=>(if decide (x8 < (l.bB.length:Int)) then (idx l.bB x8).bind fun x11=>(eK x11.aJ).bind fun x13=>need (x9.length+([(⟨x13⟩:aC)]).length≤1073741824)<|AB x8 (x9++([(⟨x13⟩:aC)])) else some (.stop (x9)))
def TE(x5:List aC):(List aC)→Option aA
  | x10=>TD x5 x10
def II(l:aA)(x5:List aC):Option aA:=
  (loop (AD l) (0,[])).bind (TE x5)
def AE(x3:Int)(x15:List aC):Option (Step (Int×(List aC)) (List aC)):=
  some (.next (aV (x3+1),x15))
def AF(l:aA):(Int×(List aC))→Option (Step (Int×(List aC)) (List aC))
  | (x3,x4)=>(if decide (x3 < (l.Global.length:Int)) then (idx l.Global x3).bind fun x14=>(eK x14.aJ).bind fun x16=>need (x4.length+([(⟨x16⟩:aC)]).length≤1073741824)<|AE x3 (x4++([(⟨x16⟩:aC)])) else some (.stop (x4)))
def IJ(l:aA):(List aC)→Option aA
  | x5=>II l x5
def fK(l:aA):Option aA:=
  (loop (AF l) (0,[])).bind (IJ l)
def AG(m:Mem):Option Mem:=
  (rD m.aB).bind fun x1=>(fK m.aA).bind fun x2=>some (⟨x1,x2⟩:Mem)
def uH(s:List eX):Option (List eX):=
  need (([]:List eX).length+s.length≤1073741824) (some (([]:List eX)++s))
def iN(c:aI):Option aI:=
  (uH c.aX).bind fun x1=>some (⟨c.aK,x1⟩:aI)
def rU(s:List bC):Option (List bC):=
  need (([]:List bC).length+s.length≤1073741824) (some (([]:List bC)++s))
def TF(x5:List aP):Option (List aP):=
  some x5
def AH(l:List aP):((List aP)×Int)→Option (Step ((List aP)×Int) (List aP))
  | (x3,x4)=>(if decide (x4 < (l.length:Int)) then (idx l x4).bind fun x6=>(rU x6.Rows).bind fun x7=>need (x3.length+([(⟨x7⟩:aP)]).length≤1073741824) (some (.next (x3++([(⟨x7⟩:aP)]),aV (x4+1)))) else some (.stop (x3)))
def TG:(List aP)→Option (List aP)
  | x5=>TF x5
def iO(l:List aP):Option (List aP):=
  (loop (AH l) (([]:List aP),0)).bind (TG)
def CZ(b:aE):Option aE:=
  (AG b.Mem).bind fun x1=>(iN b.aI).bind fun x2=>(iO b.aR).bind fun x3=>(eK b.fW).bind fun x4=>some (⟨x1,x2,x3,x4⟩:aE)
def bA(s:Sub)(code:Int):Option Sub:=
  some ({s with Code:=code,eI:=true}:Sub)
def XR:Option Int:=
  some (-1)
def wW(x2:Int)(x3:Bool):Option (Step Int (Out Unit Int)):=
  (if x3 then some (.stop (Out.ret x2)) else some (.next (aV (x2+1))))
def gR(size:Int):Int→Option (Step Int (Out Unit Int))
  | x2=>(if decide (x2 < 3) then (if decide (1≤size) then (yU x2).bind fun x4=>wW x2 (decide (size≤x4)) else wW x2 false) else some (.stop (Out.brk ())))
def XS:(Out Unit Int)→Option Int
  | .brk ()=>XR
  | .ret r=>some r
def FL(size:Int):Option Int:=
  (loop (gR size) 0).bind (XS)
def C0(w_ c:Int)(x1:Bool):Option Int:=
  (if x1 then some (-1) else some (aV ((aV (w_ * 3))+c)))
def GV(w_ c:Int):Option Int:=
  (d9 w_).bind fun x2=>(if !x2 then C0 w_ c true else (iG c).bind fun x3=>C0 w_ c (!x3))
def tB(s:aC):Option (Int×aC):=
  (if decide ((aV ((s.aJ.length:Int) - 1)) < 0) then some ((-1),s) else (idx s.aJ (aV ((s.aJ.length:Int) - 1))).bind fun x1=>need (0≤(aV ((s.aJ.length:Int) - 1):Int)∧(aV ((s.aJ.length:Int) - 1):Int)≤(aV ((s.aJ.length:Int) - 1):Int)∧(aV ((s.aJ.length:Int) - 1):Int)≤(s.aJ.length:Int)) (some (x1,(⟨(s.aJ.take ((aV ((s.aJ.length:Int) - 1)).toNat)).drop 0⟩:aC))))
def wX(x1:aA)(x2:Int)(x3:Bool):Option (aA×Int):=
  (if x3 then some (x1,(-1)) else (idx x1.bB x2).bind fun x4=>(tB x4).bind fun x5=>some ((⟨x1.Global,x1.bB.set x2.toNat x5.2⟩:aA),x5.1))
def FM(l:aA)(w_ c:Int):Option (aA×Int):=
  (fK l).bind fun x1=>(GV w_ c).bind fun x2=>(iH l).bind fun x6=>(if !x6 then wX x1 x2 true else wX x1 x2 (decide (x2 < 0)))
def pM(c:Int)(x1:aA)(x2:Bool):Option (aA×Int):=
  (if x2 then some (x1,(-1)) else (idx x1.Global c).bind fun x3=>(tB x3).bind fun x4=>some ((⟨x1.Global.set c.toNat x4.2,x1.bB⟩:aA),x4.1))
def wY(l:aA)(c:Int):Option (aA×Int):=
  (fK l).bind fun x1=>(iH l).bind fun x5=>(if !x5 then pM c x1 true else (iG c).bind fun x6=>pM c x1 (!x6))
def pN(width:Int):Option Bool:=
  (cH width 1 7).bind fun x1=>some x1
def aC8(x8:List UInt8):Option (List UInt8):=
  some x8
def C1:(Int×(List UInt8)×Int)→Option (Step (Int×(List UInt8)×Int) (List UInt8))
  | (x5,x6,x7)=>(if decide (0≤x7) then (idx x6 x7).bind fun x9=>some (.next (pW .i64 x5 8,x6.set x7.toNat (u8 x5),aV (x7 - 1))) else some (.stop (x6)))
def aC9:(List UInt8)→Option (List UInt8)
  | x8=>aC8 x8
def v7(n width:Int)(x1:Bool):Option (List UInt8):=
  (if x1 then some ([]) else need (0≤(width:Int)∧(width:Int)≤4294967296) ((loop (C1) (n,List.replicate (width.toNat) 0,aV (width - 1))).bind (aC9)))
def yF(n width:Int):Option (List UInt8):=
  (pN width).bind fun x10=>(if !x10 then v7 n width true else (if decide (n < 0) then v7 n width true else need (0≤(IntKind.u64.wrap (aV (8 * width)):Int)) (v7 n width (decide ((QU .i64 1 (IntKind.u64.wrap (aV (8 * width))))≤n)))))
def OO(b x5:List Int):Option (List Int):=
  need (x5.length=b.length) (some x5)
def AI(b:List Int)(at_:Int)(text:List UInt8):((List Int)×Int)→Option (Step ((List Int)×Int) (List Int))
  | (x3,x4)=>need (x3.length=b.length) ((if decide (x4 < (text.length:Int)) then (idx text x4).bind fun x6=>(idx x3 (aV (at_+x4))).bind fun x7=>some (.next (x3.set ((aV (at_+x4)).toNat) (x6.toNat:Int),aV (x4+1))) else some (.stop (x3))))
def OQ(b:List Int):(List Int)→Option (List Int)
  | x5=>OO b x5
def tC(b:List Int)(at_:Int)(text:List UInt8):Option (List Int):=
  (loop (AI b at_ text) (b,0)).bind (OQ b)
def AJ(page index:Int)(x1:Bool):Option Int:=
  (if x1 then some (-1) else some (aV ((aV (page * 4))+index)))
def IK(page index:Int):Option Int:=
  (cH page 0 5).bind fun x2=>(if !x2 then AJ page index true else (cH index 0 3).bind fun x3=>AJ page index (!x3))
def aDA(c:Int)(x1:aB)(x2:Int)(x13 x14:List Int):Option (aB×(List Int)):=
  some ((⟨x14,x1.Class.set x2.toNat c⟩:aB),x13)
def I5(x10:List Int)(x11 x15:Int)(x16:List Int):Option (Step ((List Int)×Int×(List Int)) ((List Int)×(List Int))):=
  need (x10.length+([x15]).length≤1073741824) (some (.next (x10++([x15]),aV (x11+1),x16)))
def C3(c x2 x6:Int):((List Int)×Int×(List Int))→Option (Step ((List Int)×Int×(List Int)) ((List Int)×(List Int)))
  | (x10,x11,x12)=>(if decide (x11 < x6) then (IK x2 x11).bind fun x15=>(sS x15 c).bind fun x17=>(yF 1 4).bind fun x18=>(tC x12 x17 x18).bind fun x19=>I5 x10 x11 x15 x19 else some (.stop ((x10,x12))))
def aDB(c:Int)(x1:aB)(x2:Int):((List Int)×(List Int))→Option (aB×(List Int))
  | (x13,x14)=>aDA c x1 x2 x13 x14
def I6(c:Int)(x1:aB)(x2:Int)(x5:List Int):Option (aB×(List Int)):=
  (mA c).bind fun x6=>(loop (C3 c x2 x6) (([]:List Int),0,x5)).bind (aDB c x1 x2)
def v8(c:Int)(x1:aB)(x2:Int)(x3:Bool):Option (aB×(List Int)):=
  (if x3 then some (x1,([]:List Int)) else (idx x1.Class x2).bind fun x4=>need (0≤(aV (x2 * 64):Int)∧(aV (x2 * 64):Int)≤(x1.Bytes.length:Int))<|(mA c).bind fun x20=>I6 c x1 x2 (c9 x1.Bytes ((aV (x2 * 64)).toNat) ([171,c,x20]:List Int)))
def B9(h:aB)(c:Int):Option (aB×(List Int)):=
  (rD h).bind fun x1=>(kJ h.Class (-1)).bind fun x2=>(DR h).bind fun x21=>(if !x21 then v8 c x1 x2 true else (iG c).bind fun x22=>(if !x22 then v8 c x1 x2 true else v8 c x1 x2 (decide (x2 < 0))))
def EH(x4:Int)(x5:Mem):Option (Mem×Int):=
  some (x5,x4)
def EI(c:Int)(x1:aB×(List Int))(x2:Mem):Option (Mem×Int):=
  (if (x1.2.length:Int) == 0 then some (x2,(-1)) else (idx x2.aA.Global c).bind fun x3=>need (0≤(1:Int)∧(1:Int)≤(x1.2.length:Int)) (need (x3.aJ.length+((x1.2.take x1.2.length).drop ((1:Int).toNat)).length≤1073741824) ((idx x1.2 0).bind fun x6=>EH x6 (⟨x2.aB,(⟨x2.aA.Global.set c.toNat (⟨x3.aJ++((x1.2.take x1.2.length).drop ((1:Int).toNat))⟩:aC),x2.aA.bB⟩:aA)⟩:Mem))))
def FN(m:Mem)(c:Int):Option (Mem×Int):=
  (B9 m.aB c).bind fun x1=>(fK m.aA).bind fun x7=>EI c x1 (⟨x1.1,x7⟩:Mem)
def uI(slot gen:Int)(x1:Bool):Option Int:=
  (if x1 then some 0 else some (aV ((aV (gen * 32))+slot)))
def I7(slot gen:Int):Option Int:=
  (j9 slot).bind fun x2=>(if !x2 then uI slot gen true else (cH gen 1 6).bind fun x3=>uI slot gen (!x3))
def C4(m:Mem)(slot:Int):Option Int:=
  (xN m.aB slot).bind fun x1=>(I7 slot x1).bind fun x2=>some x2
def fH(s:Sub)(x3:Int)(x4:aE):Option (Sub×aE):=
  (if decide (0≤x3) then (C4 x4.Mem x3).bind fun x5=>(bA ({s with Out:=x5}:Sub) 0).bind fun x6=>some (x6,x4) else (if s.Pc == 3 then (bA s 3).bind fun x7=>some (x7,x4) else some (({s with Pc:=aV (s.Pc+1)}:Sub),x4)))
def lC(s:Sub)(b:aE)(x1:Int)(x9:Bool):Option (Sub×aE):=
  (if x9 then (wY b.Mem.aA x1).bind fun x10=>fH s x10.2 ({b with Mem:=(⟨b.Mem.aB,x10.1⟩:Mem)}:aE) else (if s.Pc == 2 then (FN b.Mem x1).bind fun x11=>fH s x11.2 ({b with Mem:=x11.1}:aE) else (bA s 1).bind fun x12=>some (x12,b)))
def pO(s:Sub)(b:aE)(w_:Int):Option (Sub×aE):=
  (FL s.A).bind fun x1=>(if decide (x1 < 0) then (bA s 2).bind fun x2=>some (x2,b) else (if s.Pc == 0 then (FM b.Mem.aA w_ x1).bind fun x8=>fH s x8.2 ({b with Mem:=(⟨b.Mem.aB,x8.1⟩:Mem)}:aE) else (if s.Pc == 1 then lC s b x1 true else lC s b x1 (s.Pc == 3))))
def m9(x1:Bool):Option Bool:=
  some x1
def oN(r_:bC)(k0:Int):Option Bool:=
  (f8 r_.Handle).bind fun x2=>(if x2 then m9 ((Int.tmod r_.Handle 32) == k0) else m9 false)
def AK(own:aP)(k0:Int):Option Bool:=
  (fJ own.Rows (fun y0=>oN y0 k0)).bind fun x1=>some x1
def FO(l:List aP)(slot:Int):Option Bool:=
  (fC l (fun y0=>AK y0 slot)).bind fun x1=>some x1
def uJ(l:List aP)(w_ h e_:Int)(x1:Bool):Option ((List aP)×Bool):=
  (if x1 then (iO l).bind fun x2=>some (x2,false) else (iO l).bind fun x3=>(idx x3 w_).bind fun x4=>need (x4.Rows.length+([(⟨h,e_⟩:bC)]).length≤1073741824) ((jV (x3.set w_.toNat (⟨x4.Rows++([(⟨h,e_⟩:bC)])⟩:aP))).bind fun x5=>(if !x5 then (iO l).bind fun x6=>some (x6,false) else some (x3.set w_.toNat (⟨x4.Rows++([(⟨h,e_⟩:bC)])⟩:aP),true))))
def C5(l:List aP)(w_ h e_:Int):Option ((List aP)×Bool):=
  (jV l).bind fun x7=>(if !x7 then uJ l w_ h e_ true else (d9 w_).bind fun x8=>uJ l w_ h e_ (!x8))
def jX(s:Sub)(b:aE)(w_:Int)(x3:Bool):Option (Sub×aE):=
  (if x3 then (bA s 4).bind fun x4=>some (x4,b) else (C5 b.aR w_ s.A s.E).bind fun x5=>(bA s 0).bind fun x6=>some (x6,({b with aR:=x5.1}:aE)))
def jY(s:Sub)(b:aE)(w_:Int)(x1:Bool):Option (Sub×aE):=
  (if x1 then (bA s 1).bind fun x2=>some (x2,b) else (yW b.Mem s.A).bind fun x7=>(if !x7 then jX s b w_ true else (FO b.aR (Int.tmod s.A 32)).bind fun x8=>jX s b w_ x8))
def nA(s:Sub)(b:aE)(w_:Int):Option (Sub×aE):=
  (if s.Pc == 0 then some (({s with Pc:=1,E:=b.aI.aK}:Sub),b) else (if s.Pc != 1 then jY s b w_ true else (cH s.E 0 b.aI.aK).bind fun x9=>jY s b w_ (!x9)))
def oO(w_:Int)(x1:aI)(x4:Bool):Option (aI×Bool):=
  (if x4 then some (x1,true) else (idx x1.aX w_).bind fun x5=>(if decide (x5.Seen < 2) then some ((⟨x1.aK,x1.aX.set w_.toNat ({x5 with Seen:=aV (x5.Seen+1)}:eX)⟩:aI),false) else some ((⟨x1.aK,x1.aX.set w_.toNat ({x5 with dT:=true,Seen:=0}:eX)⟩:aI),true)))
def AL(w_ e_:Int)(x1:aI)(x2:Bool):Option (aI×Bool):=
  (if x2 then some (x1,false) else (idx x1.aX w_).bind fun x3=>(if !x3.On then oO w_ x1 true else (if x3.dT then oO w_ x1 true else oO w_ x1 (x3.aK == e_))))
def IL(c:aI)(w_ e_:Int):Option (aI×Bool):=
  (iN c).bind fun x1=>(mE c).bind fun x6=>(if !x6 then AL w_ e_ x1 true else (d9 w_).bind fun x7=>AL w_ e_ x1 (!x7))
def AM(x1:aI)(x2:Bool):Option (aI×Bool):=
  (if x2 then some (x1,false) else some ((⟨aV (x1.aK+1),x1.aX⟩:aI),true))
def QA(c:aI)(e_:Int):Option (aI×Bool):=
  (iN c).bind fun x1=>(mE c).bind fun x3=>(if !x3 then AM x1 true else (if c.aK != e_ then AM x1 true else AM x1 (c.aK == 100000)))
def i7(s:Sub)(b:aE)(x4:aI×Bool)(x5:Int):Option (Sub×aE):=
  (bA ({s with Out:=x5}:Sub) 0).bind fun x6=>some (x6,({b with aI:=x4.1}:aE))
def i9(s:Sub)(b:aE)(x1:Bool):Option (Sub×aE):=
  (if x1 then (IL b.aI s.B s.E).bind fun x2=>(if !x2.2 then (bA s 8).bind fun x3=>some (x3,({b with aI:=x2.1}:aE)) else (if (aV (s.B+1)) == 3 then some (({s with Pc:=2,B:=aV (s.B+1)}:Sub),({b with aI:=x2.1}:aE)) else some (({s with B:=aV (s.B+1)}:Sub),({b with aI:=x2.1}:aE)))) else (if s.Pc == 2 then (QA b.aI s.E).bind fun x4=>(if x4.2 then i7 s b x4 1 else i7 s b x4 s.Out) else (bA s 1).bind fun x7=>some (x7,b)))
def mG(s:Sub)(b:aE):Option (Sub×aE):=
  (if s.Pc == 0 then some (({s with Pc:=1,E:=b.aI.aK,B:=0}:Sub),b) else (if s.Pc == 1 then (d9 s.B).bind fun x8=>i9 s b x8 else i9 s b false))
def AN(x1:Bool):Option Bool:=
  some x1
def DW(l:List aP)(w_ i:Int):Option Bool:=
  (d9 w_).bind fun x2=>(if x2 then (idx l w_).bind fun x3=>(cH i 0 (aV ((x3.Rows.length:Int) - 1))).bind fun x4=>AN x4 else AN false)
def FP(x1:Bool):Option Bool:=
  some x1
def KO(r_:bC)(e_:Int):Option Bool:=
  (if decide (2≤e_) then FP (decide (r_.aK≤(aV (e_ - 2)))) else FP false)
def DX(s:Sub)(b:aE):Option (Sub×aE):=
  (bA s 0).bind fun x3=>some (x3,b)
def dS(s:Sub)(b:aE)(w_:Int):Int→Option (Step Int (Out Unit (Sub×aE)))
  | x2=>(idx b.aR w_).bind fun x4=>(if decide (x2 < (x4.Rows.length:Int)) then (idx x4.Rows x2).bind fun x5=>(KO x5 s.E).bind fun x6=>(if x6 then some (.stop (Out.ret (({s with Pc:=2,Row:=x2,B:=0,H:=x5.Handle}:Sub),b))) else some (.next (aV (x2+1)))) else some (.stop (Out.brk ())))
def OR(s:Sub)(b:aE):(Out Unit (Sub×aE))→Option (Sub×aE)
  | .brk ()=>DX s b
  | .ret r=>some r
def mH(s:Sub)(b:aE)(w_:Int):Option (Sub×aE):=
  (loop (dS s b w_) (if s.Row < 0 then 0 else s.Row)).bind (OR s b)
def yG(s:List bC)(i j:Int):Option (List bC):=
  need (0≤(i:Int)∧(i:Int)≤(j:Int)∧(j:Int)≤((s.length:Int):Int)∧((s.length:Int):Int)≤(s.length:Int)) ((if i == j then some s else need (0≤(i:Int)∧(i:Int)≤(s.length:Int)) (need (0≤(j:Int)∧(j:Int)≤(s.length:Int)) (need (i.toNat≤j.toNat) (need (0≤(((((c9 s i.toNat (s.drop j.toNat)).take (i.toNat+(s.length - j.toNat))).drop 0).length:Int):Int)∧(((((c9 s i.toNat (s.drop j.toNat)).take (i.toNat+(s.length - j.toNat))).drop 0).length:Int):Int)≤((s.length:Int):Int)∧((s.length:Int):Int)≤((c9 s i.toNat (s.drop j.toNat)).length:Int)) (some (((c9 s i.toNat (s.drop j.toNat)).take (i.toNat+(s.length - j.toNat))).drop 0)))))))
def wZ(w_ i:Int)(x1:(List aP))(x2:Bool):Option ((List aP)×Bool):=
  (if x2 then some (x1,false) else (idx x1 w_).bind fun x3=>(yG x3.Rows i (aV (i+1))).bind fun x4=>some (x1.set w_.toNat (⟨x4⟩:aP),true))
def FQ(l:List aP)(w_ i:Int):Option ((List aP)×Bool):=
  (iO l).bind fun x1=>(jV l).bind fun x5=>(if !x5 then wZ w_ i x1 true else (DW l w_ i).bind fun x6=>wZ w_ i x1 (!x6))
def GW(x3 x5:List Int):Option (aB×Bool):=
  some ((⟨x5,x3⟩:aB),true)
def AO(slot gen x1:Int)(x2 x3:List Int)(x4:Bool):Option (aB×Bool):=
  (if x4 then some ((⟨x2,x3⟩:aB),false) else (sS slot x1).bind fun x6=>(yF gen 4).bind fun x7=>(tC x2 x6 x7).bind fun x8=>GW x3 x8)
def GX(slot gen x1:Int)(x2 x3:List Int):Option (aB×Bool):=
  (if decide (x1 < 0) then AO slot gen x1 x2 x3 true else (cH gen 1 7).bind fun x9=>AO slot gen x1 x2 x3 (!x9))
def OS(h:aB)(slot gen:Int):Option (aB×Bool):=
  (rD h).bind fun x10=>(zV h slot).bind fun x11=>GX slot gen x11 x10.Bytes x10.Class
def uK(c slot:Int)(x1:aA)(x2:Int)(x3:Bool):Option (aA×Bool):=
  (if x3 then some (x1,false) else (idx x1.bB x2).bind fun x4=>(if decide (2≤(x4.aJ.length:Int)) then (idx x1.Global c).bind fun x5=>need (x5.aJ.length+([slot]).length≤1073741824) (some ((⟨x1.Global.set c.toNat (⟨x5.aJ++([slot])⟩:aC),x1.bB⟩:aA),true)) else need (x4.aJ.length+([slot]).length≤1073741824) (some ((⟨x1.Global,x1.bB.set x2.toNat (⟨x4.aJ++([slot])⟩:aC)⟩:aA),true))))
def VE(l:aA)(w_ c slot:Int):Option (aA×Bool):=
  (fK l).bind fun x1=>(GV w_ c).bind fun x2=>(iH l).bind fun x6=>(if !x6 then uK c slot x1 x2 true else (if decide (x2 < 0) then uK c slot x1 x2 true else (j9 slot).bind fun x7=>(if !x7 then uK c slot x1 x2 true else (DT l slot).bind fun x8=>uK c slot x1 x2 x8)))
def I8(x3:Mem):Option Mem:=
  some x3
def I9(m:Mem)(w_ h:Int)(x2:Mem):Option Mem:=
  (if decide ((aV ((aV (Int.tdiv h 32))+1))≤6) then (mB m.aB (Int.tmod h 32)).bind fun x4=>(VE m.aA w_ x4 (Int.tmod h 32)).bind fun x5=>I8 (⟨x2.aB,x5.1⟩:Mem) else I8 x2)
def LG(m:Mem)(w_ h:Int):Option Mem:=
  (OS m.aB (Int.tmod h 32) (aV ((aV (Int.tdiv h 32))+1))).bind fun x1=>(fK m.aA).bind fun x6=>I9 m w_ h (⟨x1.1,x6⟩:Mem)
def cR(s:Sub)(b:aE)(w_:Int)(x5:Bool):Option (Sub×aE):=
  (if x5 then (FQ b.aR w_ s.Row).bind fun x6=>(LG b.Mem w_ s.H).bind fun x7=>some (({s with Pc:=1,Out:=aV (s.Out+1)}:Sub),({b with Mem:=x7,aR:=x6.1}:aE)) else (bA s 1).bind fun x8=>some (x8,b))
def dL(s:Sub)(b:aE)(w_:Int)(x1 x3:Bool):Option (Sub×aE):=
  (if x3 then (idx b.fW s.B).bind fun x4=>(if x4 == s.H then some (({s with Pc:=1,Row:=aV (s.Row+1)}:Sub),b) else (if (aV (s.B+1)) == 3 then some (({s with Pc:=3,B:=aV (s.B+1)}:Sub),b) else some (({s with B:=aV (s.B+1)}:Sub),b))) else (if s.Pc == 3 then (if x1 then (idx b.aR w_).bind fun x9=>(idx x9.Rows s.Row).bind fun x10=>(KO x10 s.E).bind fun x11=>cR s b w_ x11 else cR s b w_ false) else cR s b w_ false))
def d6(s:Sub)(b:aE)(w_:Int)(x1:Bool):Option (Sub×aE):=
  (if s.Pc == 0 then some (({s with Pc:=1,E:=b.aI.aK,Row:=0}:Sub),b) else (if s.Pc == 1 then (mH s b w_).bind fun x2=>some (x2.1,x2.2) else (if s.Pc == 2 then (d9 s.B).bind fun x12=>(if x12 then dL s b w_ x1 x1 else dL s b w_ x1 false) else dL s b w_ x1 false)))
def mI(s:Sub)(b:aE)(w_:Int):Option (Sub×aE):=
  (DW b.aR w_ s.Row).bind fun x13=>(if x13 then (idx b.aR w_).bind fun x14=>(idx x14.Rows s.Row).bind fun x15=>d6 s b w_ (x15.Handle == s.H) else d6 s b w_ false)
def v9(w_ e_:Int)(x1:aI)(x2:Bool):Option (aI×Bool):=
  (if x2 then some (x1,false) else (idx x1.aX w_).bind fun x3=>some ((⟨x1.aK,x1.aX.set w_.toNat (⟨true,e_,false,0⟩:eX)⟩:aI),true))
def LH(c:aI)(w_ e_:Int):Option (aI×Bool):=
  (iN c).bind fun x1=>(mE c).bind fun x4=>(if !x4 then v9 w_ e_ x1 true else (d9 w_).bind fun x5=>(if !x5 then v9 w_ e_ x1 true else (cH e_ 0 c.aK).bind fun x6=>v9 w_ e_ x1 (!x6)))
def vD(s:Sub)(b:aE)(x1:Bool)(x2:Int)(x3:List eX):Option (Sub×aE):=
  (if !x1 then (bA s 1).bind fun x4=>some (x4,b) else some (({s with Pc:=2}:Sub),({b with aI:=(⟨x2,x3⟩:aI)}:aE)))
def uL(s:Sub)(b:aE)(w_:Int):Option (Sub×aE):=
  (if s.Pc == 0 then some (({s with Pc:=1,E:=b.aI.aK}:Sub),b) else (if s.Pc == 1 then (LH b.aI w_ s.E).bind fun x5=>vD s b x5.2 x5.1.aK x5.1.aX else (if s.Pc == 2 then (if b.aI.aK == s.E then (bA s 0).bind fun x6=>some (x6,b) else some (({s with Pc:=0}:Sub),b)) else (bA s 1).bind fun x7=>some (x7,b))))
def mS(s:Sub)(b:aE)(w_:Int):Option (Sub×aE):=
  (if s.eI then some (s,b) else (if s.Kind == 1 then (pO s b w_).bind fun x1=>some (x1.1,x1.2) else (if s.Kind == 2 then (nA s b w_).bind fun x2=>some (x2.1,x2.2) else (if s.Kind == 3 then (mG s b).bind fun x3=>some (x3.1,x3.2) else (if s.Kind == 4 then (mI s b w_).bind fun x4=>some (x4.1,x4.2) else (if s.Kind == 5 then (uL s b w_).bind fun x5=>some (x5.1,x5.2) else (bA s 1).bind fun x6=>some (x6,b)))))))
def aAR(x10:Sub)(x11:aE):Option (aE×Sub):=
  some (x11,x10)
def kW(w_:Int):(Int×Sub×aE)→Option (Step (Int×Sub×aE) (Sub×aE))
  | (x7,x8,x9)=>(if decide (x7 < 200) then (mS x8 x9 w_).bind fun x12=>some (.next (aV (x7+1),x12.1,x12.2)) else some (.stop ((x8,x9))))
def aAS:(Sub×aE)→Option (aE×Sub)
  | (x10,x11)=>aAR x10 x11
def AP(w_:Int)(s:Sub)(x2:Bool)(x3:aE):Option (aE×Sub):=
  (if x2 then some (x3,s) else (loop (kW w_) (0,s,x3)).bind (aAS))
def IM(b:aE)(w_:Int)(s:Sub):Option (aE×Sub):=
  (CZ b).bind fun x1=>(yX b).bind fun x13=>(if !x13 then AP w_ s true x1 else (d9 w_).bind fun x14=>AP w_ s (!x14) x1)
def OT(kind a_:Int):Option Sub:=
  some (⟨kind,a_,0,0,0,0,0,0,0,false⟩:Sub)
def GY(x26:Bool):Option Bool:=
  some x26
def GZ(x22:Sub)(x23 x24:aE)(x25:Sub):Option Bool:=
  (if decide (x22=x25) then (vZ x23 x24).bind fun x27=>GY x27 else GY false)
def G0(code:List UInt8)(x20 x21:aE)(x22:Sub):Option Bool:=
  (S5 code 0).bind fun x28=>(gO x20 1 (⟨aV (1+(Int.tmod x28 5)),9,0,0,0,0,0,0,0,false⟩:Sub)).bind fun x29=>GZ x22 x21 x29.1 x29.2
def oP(code:List UInt8)(x4:aE×Bool)(x17:Bool)(x18 x19:aE):Option Bool:=
  (if x17 then some false else (if !x4.2 then some true else (S5 code 0).bind fun x30=>(OT (aV (1+(Int.tmod x30 5))) 9).bind fun x31=>(IM x19 1 x31).bind fun x32=>G0 code x18 x32.1 x32.2))
def oQ(code:List UInt8)(x4:aE×Bool)(x11:Bool)(x12 x13:aE):Option Bool:=
  (if x11 then some false else (rT code).bind fun x14=>(mP x14).bind fun x15=>(rC x14).bind fun x16=>(if !(x15.2 == x16.2) then oP code x4 true x12 x13 else (if x15.2 then (kA x15.1).bind fun x33=>oP code x4 (!(x33 == x14)) x12 x13 else oP code x4 false x12 x13)))
def kX(code:List UInt8)(x4:aE×Bool)(x5:Bool)(x6 x7:aE):Option Bool:=
  (if x5 then some false else (uE code).bind fun x8=>(mD x8).bind fun x9=>(uF x9).bind fun x10=>(mK x8).bind fun x34=>(if !(x10.2 == x34) then oQ code x4 true x6 x7 else (if x10.2 then (z5 x10.1 x8).bind fun x35=>oQ code x4 (!x35) x6 x7 else oQ code x4 false x6 x7)))
def OU(code:List UInt8):Option Bool:=
  (Z0 code).bind fun x1=>(if x1 then some true else (rQ code).bind fun x2=>(kA x2).bind fun x3=>(mP x3).bind fun x4=>(sL x2).bind fun x36=>(if !(x4.2 == x36) then kX code x4 true x2 x4.1 else (if x4.2 then (vZ x4.1 x2).bind fun x37=>(if !x37 then kX code x4 true x2 x4.1 else kX code x4 (!((!(x3 == ([]))) == x4.2)) x2 x4.1) else kX code x4 (!((!(x3 == ([]))) == x4.2)) x2 x4.1)))
def LI(slot c:Int):Option Int:=
  (sS slot c).bind fun x1=>(if decide (x1 < 0) then some (-1) else some (aV (x1+4)))
def TH(slot c:Int):Option Span:=
  (LI slot c).bind fun x1=>(if decide (x1 < 0) then some (⟨0,0⟩:Span) else (yU c).bind fun x2=>some (⟨x1,aV (x1+x2)⟩:Span))
def FR(h:aB)(slot at_ width:Int):Option Int:=
  (mB h slot).bind fun x1=>(TH slot x1).bind fun x2=>(cH at_ 0 (aV ((aV (x2.To - x2.aTV)) - width))).bind fun x3=>(if !x3 then some (-1) else some (aV (x2.aTV+at_)))
def G3(m:Mem)(h at_ width:Int)(x1:Bool):Option (Int×Int):=
  (if x1 then some (0,1) else (yW m h).bind fun x2=>(if !x2 then some (0,4) else (FR m.aB (Int.tmod h 32) at_ width).bind fun x3=>(if decide (x3 < 0) then some (0,2) else (pG m.aB.Bytes x3 width).bind fun x4=>some (x4,0))))
def WE(m:Mem)(h at_ width:Int):Option (Int×Int):=
  (xO m).bind fun x5=>(if !x5 then G3 m h at_ width true else (pN width).bind fun x6=>G3 m h at_ width (!x6))
def XT(x4:Mem):Option (Mem×Int):=
  some (x4,0)
def TJ(m:Mem)(h at_ width n:Int):Option (Mem×Int):=
  (AG m).bind fun x1=>(yF n width).bind fun x2=>(WE m h at_ width).bind fun x3=>(if x3.2 != 0 then some (x1,x3.2) else (if x2 == ([]) then some (x1,1) else (FR m.aB (Int.tmod h 32) at_ width).bind fun x5=>(tC x1.aB.Bytes x5 x2).bind fun x6=>XT (⟨(⟨x6,x1.aB.Class⟩:aB),x1.aA⟩:Mem)))
def C6(w_:Int)(x1:aI)(x2:Bool):Option (aI×Bool):=
  (if x2 then some (x1,false) else (idx x1.aX w_).bind fun x3=>some ((⟨x1.aK,x1.aX.set w_.toNat (⟨false,0,false,0⟩:eX)⟩:aI),true))
def aAT(c:aI)(w_:Int):Option (aI×Bool):=
  (iN c).bind fun x1=>(mE c).bind fun x4=>(if !x4 then C6 w_ x1 true else (d9 w_).bind fun x5=>(if !x5 then C6 w_ x1 true else (idx c.aX w_).bind fun x6=>C6 w_ x1 (!x6.On)))
def xA(w_ h:Int)(x1:(List Int))(x2:Bool):Option ((List Int)×Bool):=
  (if x2 then some (x1,false) else (idx x1 w_).bind fun x3=>some (x1.set w_.toNat h,true))
def TL(z:List Int)(w_ h:Int):Option ((List Int)×Bool):=
  (eK z).bind fun x1=>(BP z).bind fun x4=>(if !x4 then xA w_ h x1 true else (d9 w_).bind fun x5=>(if !x5 then xA w_ h x1 true else (f8 h).bind fun x6=>xA w_ h x1 (!x6)))
def C7(w_:Int)(x1:(List Int))(x2:Bool):Option ((List Int)×Bool):=
  (if x2 then some (x1,false) else (idx x1 w_).bind fun x3=>some (x1.set w_.toNat 0,true))
def aAU(z:List Int)(w_:Int):Option ((List Int)×Bool):=
  (eK z).bind fun x1=>(BP z).bind fun x4=>(if !x4 then C7 w_ x1 true else (d9 w_).bind fun x5=>(if !x5 then C7 w_ x1 true else (idx z w_).bind fun x6=>C7 w_ x1 (x6 == 0)))
def XU(x y:Int):Option (Int×Int):=
  some (IntKind.u64.wrap ((IntKind.u64.wrap ((IntKind.u64.wrap ((pW .u64 x 32) * (pW .u64 y 32)))+(pW .u64 (IntKind.u64.wrap ((IntKind.u64.wrap ((pW .u64 x 32) * (cN .and .u64 y 4294967295)))+(pW .u64 (IntKind.u64.wrap ((cN .and .u64 x 4294967295) * (cN .and .u64 y 4294967295))) 32))) 32)))+(pW .u64 (IntKind.u64.wrap ((cN .and .u64 (IntKind.u64.wrap ((IntKind.u64.wrap ((pW .u64 x 32) * (cN .and .u64 y 4294967295)))+(pW .u64 (IntKind.u64.wrap ((cN .and .u64 x 4294967295) * (cN .and .u64 y 4294967295))) 32))) 4294967295)+(IntKind.u64.wrap ((cN .and .u64 x 4294967295) * (pW .u64 y 32))))) 32)),IntKind.u64.wrap (x * y))
def Q5(x y:Int):Option (Int×Int):=
  (XU x y).bind fun x1=>some (x1.1,x1.2)
def OV(x7:List Int):Option (List Int):=
  some x7
def iP:((List Int)×Int)→Option (Step ((List Int)×Int) (List Int))
  | (x5,x6)=>(if decide (x6 < (x5.length:Int)) then need (0≤(x6:Int)∧(x6:Int)≤(x5.length:Int)) (need (0≤(x6:Int)∧(x6:Int)≤(x5.length:Int)) (some (.next (c9 x5 x6.toNat ((x5.take x6.toNat).drop 0),aV (x6+((min ((x5.take x6.toNat).drop 0).length (x5.length - x6.toNat):Nat):Int)))))) else some (.stop (x5)))
def OW:(List Int)→Option (List Int)
  | x7=>OV x7
def tD(x:List Int)(x1:Int×Int)(x2:Bool):Option (List Int):=
  (if x2 then none else need (0≤(IntKind.i64.wrap x1.2:Int)∧(IntKind.i64.wrap x1.2:Int)≤4294967296) ((loop (iP) (c9 (List.replicate ((IntKind.i64.wrap x1.2).toNat) 0) 0 x,((min x.length ((List.replicate ((IntKind.i64.wrap x1.2).toNat) 0:List Int).length - 0):Nat):Int))).bind (OW)))
def AQ(x:List Int)(count:Int):Option (List Int):=
  (if decide (count < 0) then none else (Q5 (IntKind.u64.wrap (x.length:Int)) (IntKind.u64.wrap count)).bind fun x1=>(if decide (0 < x1.1) then tD x x1 true else tD x x1 (decide (9223372036854775807 < x1.2))))
def XV(x1:List Int):Option aB:=
  some (⟨List.replicate ((384:Int).toNat) 0,x1⟩:aB)
def LJ:Option aB:=
  need (0≤(384:Int)∧(384:Int)≤4294967296)<|(AQ ([(-1)]) 6).bind fun x2=>XV x2
def VF:Option aA:=
  some (⟨List.replicate ((3:Int).toNat) (⟨[]⟩:aC),List.replicate ((9:Int).toNat) (⟨[]⟩:aC)⟩:aA)
def Q6:Option aA:=
  need (0≤(3:Int)∧(3:Int)≤4294967296)<|need (0≤(9:Int)∧(9:Int)≤4294967296)<|VF
def WG:Option Mem:=
  (LJ).bind fun x1=>(Q6).bind fun x2=>some (⟨x1,x2⟩:Mem)
def Q7:Option aI:=
  need (0≤(3:Int)∧(3:Int)≤4294967296) (some (⟨0,List.replicate ((3:Int).toNat) (⟨false,0,false,0⟩:eX)⟩:aI))
def Q8:Option (List aP):=
  need (0≤(3:Int)∧(3:Int)≤4294967296) (some (List.replicate ((3:Int).toNat) (⟨[]⟩:aP)))
def WH:Option (List Int):=
  need (0≤(3:Int)∧(3:Int)≤4294967296) (some (List.replicate ((3:Int).toNat) 0))
def TM:Option aE:=
  (WG).bind fun x1=>(Q7).bind fun x2=>(Q8).bind fun x3=>(WH).bind fun x4=>some (⟨x1,x2,x3,x4⟩:aE)
end
end Go.Gv
end
