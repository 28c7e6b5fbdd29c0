import Derived.Test.YtgjpcfdgefopgaaGreatXLB
import Derived.Test.YtgjpcfdgefopgaaGreatProg
set_option linter.unusedVariables false
set_option linter.unusedSimpArgs false
set_option linter.unusedSectionVars false
set_option linter.constructorNameAsVariable false
set_option linter.unnecessarySimpa false
noncomputable section
set_option linter.unusedVariables false
namespace Go.Gv
def RE(i j n:Nat):Nat:=match Nat.beq n i with
  | true=>j
  | false => match Nat.beq n j with
    | true=>i
    | false=>n
def swC(i j:Nat):SV→SV
  | .p n o=>.p (RE i j n) o
  | x=>x
def aAB(i j:Nat):List SV→List SV
  | []=>[]
  | x :: r=>swC i j x :: aAB i j r
def swG(i j:Nat):SV→SV
  | .g cs=>.g (aAB i j cs)
  | x=>swC i j x
def aF2(i j:Nat):List SV→List SV
  | []=>[]
  | x :: r=>swG i j x :: aF2 i j r
def swF(i j:Nat):List Nat→List Nat
  | []=>[]
  | n :: r=>RE i j n :: swF i j r
def swT(i j:Nat):SV→SV
  | .t cs=>.t (aF2 i j cs)
  | .f f ns=>.f f (swF i j ns)
  | x=>swG i j x
def swE(i j:Nat):SE→SE
  | []=>[]
  | (k,x) :: r=>(k,swT i j x) :: swE i j r
def swL(i j:Nat):List Ch→List Ch
  | []=>[]
  | x :: r => (match x with
    | .box n cs=>.box (RE i j n) (aAB i j cs)
    | .ro n cs=>.ro (RE i j n) (aAB i j cs)
    | .w n b z=>.w (RE i j n) b z
    | y=>y) :: swL i j r
noncomputable section
variable {B B':Bl} {i j:Nat}
theorem aDQ(h:∀n,B'[RE i j n]?=B[n]?)(x:SV):bH B' (swC i j x)=bH B x:=by
  cases x <;> first | rfl | (simp only [swC,bH,h])
theorem NQ(h:∀n,B'[RE i j n]?=B[n]?):∀cs:List SV,aU (bH B') (aAB i j cs)=aU (bH B) cs
  | []=>rfl
  | x :: r=>by simp only [aAB,aU,aDQ h,NQ h r]
theorem XQ(h:∀n,B'[RE i j n]?=B[n]?)(x:SV):gV B' (swG i j x)=gV B x:=by
  cases x with
  | g cs=>simp only [swG,gV,NQ h]
  | p n o=>exact aDQ h (.p n o)
  | _=>rfl
theorem ZK(h:∀n,B'[RE i j n]?=B[n]?):∀cs:List SV,aU (gV B') (aF2 i j cs)=aU (gV B) cs
  | []=>rfl
  | x :: r=>by simp only [aF2,aU,XQ h,ZK h r]
theorem aDR(h:∀n,B'[RE i j n]?=B[n]?):∀cs:List Nat,aU (EA B') (swF i j cs)=aU (EA B) cs
  | []=>rfl
  | x :: r=>by simp only [swF,aU,EA,h];rw [show aU (EA B') (swF i j r)=aU (EA B) r from aDR h r]
theorem aH5(h:∀n,B'[RE i j n]?=B[n]?)(x:SV):dJ B' (swT i j x)=dJ B x:=by
  cases x with
  | t cs=>simp only [swT,dJ,ZK h]
  | f f ns=>simp only [swT,dJ,aDR h]
  | g cs=>exact XQ h (.g cs)
  | p n o=>exact XQ h (.p n o)
  | _=>rfl
theorem aDS{k:Nat}{x:SV}:∀{e:SE},tK (swE i j e) k=some x→∃y,tK e k=some y∧x=swT i j y
  | [],h=>by cases h
  | (k', y) :: r, h => by
    simp only [swE,tK] at h ⊢
    split at h
    · rename_i hb;cases h;exact⟨y,rfl,rfl⟩
    · rename_i hb;exact aDS h
theorem ZL(h:∀n,B'[RE i j n]?=B[n]?){w:World}{R:List Fact}:∀(L:List Ch),fB w (L.map (gA B)) ((swL i j L).map (gA B'))∧((∀x∈L,VD B R x)→∀x∈swL i j L,VD B' R x)
  | []=>⟨.nil,fun _ x hx=>by cases hx⟩
  | x :: L => by
    obtain⟨h1,h2⟩:=ZL h (w:=w) (R:=R) L
    refine⟨.cons (fun F hF=>?_) h1,fun hr y hy=>?_⟩
    · cases x with
      | box n cs =>
        obtain⟨b,z,vs,k1,k2,k3⟩:=hF
        exact⟨b,z,vs,by rw [h];exact k1,by rw [NQ h];exact k2,k3⟩
      | _=>exact hF
    · rcases List.mem_cons.1 hy with hy | hy
      · have hx:=hr x (by simp)
        cases x with
        | box n cs=>subst hy;trivial
        | ro n cs =>
          obtain⟨b,z,vs,k1,k2,k3⟩:=hx
          subst hy
          exact⟨b,z,vs,by rw [h];exact k1,by rw [NQ h];exact k2,k3⟩
        | w n b z=>subst hy;show B'[RE i j n]?=_;rw [h];exact hx
        | o c=>subst hy;trivial
        | no=>subst hy;trivial
        | f f=>subst hy;exact hx
      · exact h2 (fun x hx=>hr x (List.mem_cons_of_mem _ hx)) y hy
end
theorem aJL{B:Bl}{i j:Nat}(hi:i < B.length)(hj:j < B.length):∃B':Bl,B'.length=B.length∧(∀n,B'[RE i j n]?=B[n]?):=by
  refine⟨(B.set i B[j]).set j B[i],by simp,fun n=>?_⟩
  unfold RE
  cases h1:Nat.beq n i with
  | true =>
    have h1:=Nat.eq_of_beq_eq_true h1
    subst h1
    simp only
    rw [List.getElem?_set_self (by simpa using hj),List.getElem?_eq_getElem hi]
  | false =>
    have h1:n≠i:=fun h=>by rw [h] at h1;simp at h1
    cases h2:Nat.beq n j with
    | true =>
      have h2:=Nat.eq_of_beq_eq_true h2
      subst h2
      simp only
      rw [List.getElem?_set_ne h1,List.getElem?_set_self hi,List.getElem?_eq_getElem hj]
    | false =>
      have h2:n≠j:=fun h=>by rw [h] at h2;simp at h2
      simp only
      rw [List.getElem?_set_ne (Ne.symm h2),List.getElem?_set_ne (Ne.symm h1)]
noncomputable section
variable {n:Nat} {c:Ctx} {B0:Bl} {m:Nat} {e:SE} {L:List Ch}
theorem LC{Z:Act→World→Prop}(i j:Nat)(h:(Nat.ble B0.length i && (Nat.ble B0.length j && (Nat.blt i m && Nat.blt j m)))=true)
    (kk:∀a w,jH n c B0 m (swE i j e) (swL i j L) a w→Z a w):∀a w,jH n c B0 m e L a w→Z a w:=by
  simp only [Bool.and_eq_true,Nat.ble_eq,Nat.blt_eq] at h
  obtain⟨h1,h2,h3,h4⟩:=h
  intro a w ⟨B,hm,hA,hS⟩
  refine kk a w ?_
  rw [List.length_append] at hm
  obtain⟨B',hl,hB⟩:=aJL (B:=B) (i:=i - B0.length) (j:=j - B0.length) (by omega) (by omega)
  have key:∀n,(B0++B')[RE i j n]?=(B0++B)[n]?:=by
    intro n
    have hsw:∀n,n < B0.length→RE i j n=n:=fun n hn=>by
      unfold RE
      cases e1:Nat.beq n i with
      | true=>have:=Nat.eq_of_beq_eq_true e1;omega
      | false =>
        cases e2:Nat.beq n j with
        | true=>have:=Nat.eq_of_beq_eq_true e2;omega
        | false=>rfl
    have hge:∀n,B0.length≤n→RE i j n=B0.length+RE (i - B0.length) (j - B0.length) (n - B0.length):=fun n hn=>by
      have q1:Nat.beq (n - B0.length) (i - B0.length)=Nat.beq n i:=by
        rw [Bool.eq_iff_iff];simp only [Nat.beq_eq];omega
      have q2:Nat.beq (n - B0.length) (j - B0.length)=Nat.beq n j:=by
        rw [Bool.eq_iff_iff];simp only [Nat.beq_eq];omega
      unfold RE
      rw [q1,q2]
      cases Nat.beq n i <;> cases Nat.beq n j <;> simp only <;> omega
    by_cases hn:n < B0.length
    · rw [hsw n hn,List.getElem?_append_left hn,List.getElem?_append_left hn]
    · rw [hge n (by omega),List.getElem?_append_right (by omega),List.getElem?_append_right (by omega),Nat.add_sub_cancel_left]
      exact hB _
  refine⟨B',by rw [List.length_append];omega,⟨hA.d,hA.size,fun k x hk=>?_⟩,?_⟩
  · obtain⟨y,g1,rfl⟩:=aDS hk
    obtain⟨v,g2,g3⟩:=hA.get k y g1
    exact⟨v,by rw [aH5 key];exact g2,g3⟩
  · obtain⟨⟨R,s1,s2⟩,s0⟩:=hS
    obtain⟨g1,g2⟩:=ZL key (w:=w) (R:=R) L
    exact⟨⟨R,s1.imp g1,g2 s2⟩,s0⟩
theorem WX{Z:Act→World→Prop}{α:Type}[aI α](j:Nat){s:AC}{l:List α}{n0:Nat}(hl:l.length=n0)(hj:L[j]?=some (ow s l))
    (kk:∀a w,jH n c B0 m e (L.set j (.o (bU [s.v n0] l))) a w→Z a w):∀a w,jH n c B0 m e L a w→Z a w:=by
  subst hl
  have:L.set j (.o (bU [s.v l.length] l))=L:=by
    obtain⟨h1,h2⟩:=List.getElem?_eq_some_iff.1 hj
    rw [←show L[j]=.o (bU [s.v l.length] l) from h2];exact List.set_getElem_self h1
  rw [this] at kk
  exact kk
end
theorem fG{P:Program}{T:TT}{hT:w4 P T}{n:Nat}{c:Ctx}{B0:Bl}{N:Act→World→Prop}{X:Nat→Act→World→Prop}{Q:Act→World→Prop}{K:List Fr}{m:Nat}{e e1:SE}{L L1:List Ch}{cf:oT}(h1:Z4 e=some e1)(h2:Z5 L=some L1)(k:G (.mk P T hT n c B0 N X Q) K m e1 L1 cf):G (.mk P T hT n c B0 N X Q) K m e L cf:=by
  have:=NH h1
  have:=NI h2
  subst e1;subst L1
  exact k
def fc1:SV→Option SV
  | .i k x=>some (.i k x)
  | .y b=>some (.y b)
  | .b c=>some (.b c)
  | .l c=>some (.l c)
  | .s l=>some (.s l)
  | .p n o=>some (.p n o)
  | .h s n=>some (.h s n)
  | .e s n i o=>some (.e s n i o)
  | .k x=>some (.k x)
  | .g cs=>some (.g cs)
  | .t cs=>some (.t cs)
  | .f f cs=>some (.f f cs)
  | .u=>some .u
def fcs:List SV→Option (List SV)
  | []=>some []
  | x :: r => match fc1 x with
    | some y => match fcs r with
      | some s=>some (y :: s)
      | none=>none
    | none=>none
def fc2:SV→Option SV
  | .g cs => match fcs cs with
    | some ds=>some (.g ds)
    | none=>none
  | x=>fc1 x
def fgs:List SV→Option (List SV)
  | []=>some []
  | x :: r => match fc2 x with
    | some y => match fgs r with
      | some s=>some (y :: s)
      | none=>none
    | none=>none
def fc3:SV→Option SV
  | .t cs => match fgs cs with
    | some ds=>some (.t ds)
    | none=>none
  | x=>fc2 x
def fdE:SE→Option SE
  | []=>some []
  | (k, v) :: r => match fc3 v with
    | some y => match fdE r with
      | some s=>some ((k,y) :: s)
      | none=>none
    | none=>none
def fdL:List Ch→Option (List Ch)
  | []=>some []
  | x :: r => match fdL r with
    | some s => match x with
      | .box n cs => match fcs cs with
        | some ds=>some (.box n ds :: s)
        | none=>none
      | .ro n cs => match fcs cs with
        | some ds=>some (.ro n ds :: s)
        | none=>none
      | y=>some (y :: s)
    | none=>none
theorem aDT{x y:SV}(h:fc1 x=some y):y=x:=by cases x <;> simp only [fc1] at h <;> cases h <;> rfl
theorem UI:∀{l r:List SV},fcs l=some r→r=l
  | [],r,h=>by cases h;rfl
  | x :: l, r, h => by
    simp only [fcs] at h
    split at h
    · rename_i y hy
      split at h
      · rename_i s hs;cases h;rw [aDT hy,UI hs]
      · cases h
    · cases h
theorem aDU{x y:SV}(h:fc2 x=some y):y=x:=by
  cases x with
  | g cs =>
    simp only [fc2] at h
    split at h
    · rename_i ds hd;cases h;rw [UI hd]
    · cases h
  | _=>exact aDT h
theorem aDV:∀{l r:List SV},fgs l=some r→r=l
  | [],r,h=>by cases h;rfl
  | x :: l, r, h => by
    simp only [fgs] at h
    split at h
    · rename_i y hy
      split at h
      · rename_i s hs;cases h;rw [aDU hy,aDV hs]
      · cases h
    · cases h
theorem aH6{x y:SV}(h:fc3 x=some y):y=x:=by
  cases x with
  | t cs =>
    simp only [fc3] at h
    split at h
    · rename_i ds hd;cases h;rw [aDV hd]
    · cases h
  | _=>exact aDU h
theorem aDW:∀{e r:SE},fdE e=some r→r=e
  | [],r,h=>by cases h;rfl
  | (k, v) :: l, r, h => by
    simp only [fdE] at h
    split at h
    · rename_i y hy
      split at h
      · rename_i s hs;cases h;rw [aH6 hy,aDW hs]
      · cases h
    · cases h
theorem aDX:∀{e r:List Ch},fdL e=some r→r=e
  | [],r,h=>by cases h;rfl
  | x :: l, r, h => by
    simp only [fdL] at h
    split at h
    · rename_i s hs
      have:=aDX hs
      subst this
      split at h
      · split at h
        · rename_i ds hds;cases h;rw [UI hds]
        · cases h
      · split at h
        · rename_i ds hds;cases h;rw [UI hds]
        · cases h
      · cases h;rfl
    · cases h
theorem fD{n:Nat}{c:Ctx}{B0:Bl}{m:Nat}{e e1:SE}{L L1:List Ch}{Z:Act→World→Prop}(h1:fdE e=some e1)(h2:fdL L=some L1)(kk:∀a w,jH n c B0 m e1 L1 a w→Z a w):∀a w,jH n c B0 m e L a w→Z a w:=by
  have:=aDW h1
  have:=aDX h2
  subst e1;subst L1
  exact kk
end Go.Gv
end
noncomputable section
set_option linter.unusedVariables false
namespace Go.Gv
def W{ρ:Type}(C:Prop)(r:ρ)(F:Option ρ):Prop:=F=some r→C
theorem wm{ρ:Type}{C:Prop}{r:ρ}{F F':Option ρ}(h:F'=F)(k:W C r F):W C r F':=h ▸ k
theorem wi{ρ:Type}{C:Prop}{r:ρ}{F:Option ρ}(h:F=some r)(k:W C r F):C:=k h
def VS(P:Program)(c:Ctx)(f:FuncId){ρ ex:Type}(F:Option ρ)(xs:List SV)(B0:Bl)(L0:List Ch)(sv:ρ→ex→SV)(Lf:ρ→ex→List Ch):Prop:=∀r,F=some r→FnS P f c xs B0 L0 sv Lf r
abbrev V0(P:Program)(c:Ctx)(f:FuncId){ρ:Type}(F:Option ρ)(xs:List SV)(sv:ρ→SV):Prop:=VS P c f F xs [] [] (fun r (_:Unit)=>sv r) (fun _ _=>[])
theorem VS.r{P:Program}{c:Ctx}{f:FuncId}{ρ ex:Type}{F:Option ρ}{xs:List SV}{B0:Bl}{L0:List Ch}{sv:ρ→ex→SV}{Lf:ρ→ex→List Ch}(h:VS P c f F xs B0 L0 sv Lf){r:ρ}(hF:F=some r):FnS P f c xs B0 L0 sv Lf r:=h r hF
def QR(P:Program)(fn:Func){rs:List ResultVar}(_:fn.results=rs.toArray)(c:Ctx)(B0:Bl){ρ ex:Type}(sv:ρ→ex→SV)(Lf:ρ→ex→List Ch)(r:ρ):Act→World→Prop:=QS P fn c B0 sv Lf r
def aDY(T:TT)(rs:List ResultVar)(is:List Nat)(b0:Nat)(L2:List Ch):Stop→Option (SV×List Ch)
  | .ret m e L => match XE T e L rs with
    | some x => match yF b0 (nbS x) with
      | true => match IJ b0 m e L is b0 [] L2 with
        | some ([],L3)=>some (nbS x,L3)
        | _=>none
      | false=>none
    | none=>none
  | _=>none
def aAC(is:List Nat)(b0 mj:Nat)(ej:SE)(Lj:List Ch):Stop→Option (SE×List Ch)
  | .fin m e L=>IJ b0 m e L is mj ej Lj
  | _=>none
def exQ(is:List Nat)(id b0 mj:Nat)(ej:SE)(Lj:List Ch):Stop→Option (SE×List Ch)
  | .ex i m e L => match Nat.beq i id with
    | true=>IJ b0 m e L is mj ej Lj
    | false=>none
  | _=>none
def aJM:Stop→Stop
  | .fin m e L=>.ret m e L
  | _=>.stuck
def ixT(T:TT)(t n:Nat):Bool:=match tT T t with
  | some ⟨.sl el, _, _, _⟩ => match tT T el with
    | some ⟨_,_,sz,_⟩=>Nat.beq n sz
    | none=>false
  | _=>false
noncomputable section
variable {P:Program} {T:TT} {hT:w4 P T} {n:Nat} {c:Ctx} {B0:Bl} {N:Act→World→Prop} {X:Nat→Act→World→Prop} {Q:Act→World→Prop} {K K':List Fr} {m m':Nat} {e e':SE} {L L' Lv:List Ch} {cf cf' cf1 cf2:oT} {o:Oper}
theorem cA(hT:w4 P T){f:FuncId}{fn:Func}{cd:Code}{xs:List SV}{L0:List Ch}{ρ ex:Type}{sv:ρ→ex→SV}{Lf:ρ→ex→List Ch}{F:Option ρ}{rs:List ResultVar}(hc:∀args w,(callFunc f args).run P w=.ok (.enter f args) w)(hf:P.funcs[f]?=some fn)(hr:fn.results=rs.toArray)(hb:fn.body=some cd)(hm:fn.ntmps=n)
    (k:∀{r},W (G (.mk P T hT n c B0 (QR P fn hr c B0 sv Lf r) (fun _ _ _=>False) (QR P fn hr c B0 sv Lf r)) [] B0.length (TA 0 xs) L0 (.c cd)) r F) (hl:Nat.ble xs.length n=true:=by exact rfl):VS P c f F xs B0 L0 sv Lf:=
  fun _ hF=>en n hc hf hT hb hm hl (k hF)
theorem ZM{rs:List ResultVar}{is:List Nat}{b0:Nat}{L2 L3:List Ch}{s:SV}{st:Stop}(h:aDY T rs is b0 L2 st=some (s,L3)):∃m' e' L' x,st=.ret m' e' L'∧XE T e' L' rs=some x∧nbS x=s∧yF b0 s=true∧IJ b0 m' e' L' is b0 [] L2=some ([],L3):=by
  unfold aDY at h
  split at h
  · split at h
    · rename_i h1
      split at h
      · rename_i h2
        split at h
        · rename_i h3
          cases h
          exact⟨_,_,_,_,rfl,h1,rfl,h2,h3⟩
        · cases h
      · cases h
    · cases h
  · cases h
theorem fY{fn:Func}{ρ ex:Type}{sv:ρ→ex→SV}{Lf:ρ→ex→List Ch}{r r':ρ}{rs:List ResultVar}{hr:fn.results=rs.toArray}{zz:Option ρ}(y:ex)(is:List Nat)(hz:zz=some r')(h:aDY T rs is B0.length (Lf r' y) (iD T n K cf m e L)=some (sv r' y,Lf r' y)):W (G (.mk P T hT n c B0 N X (QR P fn hr c B0 sv Lf r)) K m e L cf) r zz:=fun hF=>by
  obtain⟨_,_,_,_,h1,h2,h3,h4,h5⟩:=ZM h
  exact rt y is hF hz h1 hr h2 h3 h4 h5
theorem bJ{fn:Func}{ρ:Type}{sv:ρ→Unit→SV}{Lf:ρ→Unit→List Ch}{r r':ρ}{rs:List ResultVar}{hr:fn.results=rs.toArray}{zz:Option ρ}(hz:zz=some r')(h:aDY T rs [] B0.length (Lf r' ()) (iD T n K cf m e L)=some (sv r' (),Lf r' ())):W (G (.mk P T hT n c B0 N X (QR P fn hr c B0 sv Lf r)) K m e L cf) r zz:=fY () [] hz h
theorem I3{fn:Func}{ρ ex:Type}{sv:ρ→ex→SV}{Lf:ρ→ex→List Ch}{r r':ρ}{rs:List ResultVar}{hr:fn.results=rs.toArray}{zz:Option ρ}(y:ex)(is:List Nat)(hz:zz=some r')(h:aDY T rs is B0.length (Lf r' y) (aJM (iD T n K cf m e L))=some (sv r' y,Lf r' y)):W (G (.mk P T hT n c B0 (QR P fn hr c B0 sv Lf r) X Q) K m e L cf) r zz:=fun hF=>by
  obtain⟨m',e',L',_,h1,h2,h3,h4,h5⟩:=ZM h
  refine rf y is hF hz (m':=m') (e':=e') (L':=L') ?_ hr h2 h3 h4 h5
  unfold aJM at h1
  split at h1
  · rename_i h0;rw [h0];cases h1;rfl
  · cases h1
theorem ZN{is:List Nat}{b0 mj:Nat}{ej e3:SE}{Lj L3:List Ch}{st:Stop}(h:aAC is b0 mj ej Lj st=some (e3,L3)):∃m' e' L',st=.fin m' e' L'∧IJ b0 m' e' L' is mj ej Lj=some (e3,L3):=by
  unfold aAC at h
  split at h
  · exact⟨_,_,_,rfl,h⟩
  · cases h
theorem tU{π υ α:Type}{eq:π→Prop}{mj:Nat}{ej:π→υ→SE}{Lj:π→υ→List Ch}{p:π}{q:α}{zz:Option α}(u:υ)(is:List Nat)(hz:(zz=some q)=eq p)(h:aAC is B0.length mj (ej p u) (Lj p u) (iD T n K cf m e L)=some (ej p u,Lj p u)):W (G (.mk P T hT n c B0 (JP n c B0 eq mj ej Lj) X Q) K m e L cf) q zz:=fun hF=>by
  obtain⟨_,_,_,h1,h2⟩:=ZN h
  exact jn u is (hz ▸ hF) h1 h2
theorem cJ{π α:Type}{eq:π→Prop}{mj:Nat}{ej:π→Unit→SE}{Lj:π→Unit→List Ch}{p:π}{q:α}{zz:Option α}(is:List Nat)(hz:(zz=some q)=eq p)(h:aAC is B0.length mj (ej p ()) (Lj p ()) (iD T n K cf m e L)=some (ej p (),Lj p ())):W (G (.mk P T hT n c B0 (JP n c B0 eq mj ej Lj) X Q) K m e L cf) q zz:=tU () is hz h
theorem ZO{σ ρ υ:Type}{o:Step σ ρ}{mj:Nat}{el:σ→υ→SE}{Ll:σ→υ→List Ch}{s:σ}(u:υ)(is:List Nat)(h:aAC is B0.length mj (el s u) (Ll s u) (iD T n K cf m e L)=some (el s u,Ll s u)):W (G (.mk P T hT n c B0 (NxP n c B0 o mj el Ll) X Q) K m e L cf) o (some (Step.next s)):=fun hF=>by
  obtain⟨_,_,_,h1,h2⟩:=ZN h
  exact nx u is hF h1 h2
theorem zM{σ ρ:Type}{o:Step σ ρ}{mj:Nat}{el:σ→Unit→SE}{Ll:σ→Unit→List Ch}{s:σ}(is:List Nat)(h:aAC is B0.length mj (el s ()) (Ll s ()) (iD T n K cf m e L)=some (el s (),Ll s ())):W (G (.mk P T hT n c B0 (NxP n c B0 o mj el Ll) X Q) K m e L cf) o (some (Step.next s)):=ZO () is h
def BkR(n:Nat)(c:Ctx)(B0:Bl){β ρ σ υ:Type}{o:Step σ ρ}{ro:ρ}(_:∀p,o=.stop p→p=ro)(enc:β→ρ)(m:Nat)(ej:β→υ→SE)(Lj:β→υ→List Ch)(id:Nat)(X:Nat→Act→World→Prop):Nat→Act→World→Prop:=BkP n c B0 ro enc m ej Lj id X
theorem TE{σ ρ β υ:Type}{o:Step σ ρ}{ro:ρ}{enc:β→ρ}{mj id:Nat}{ej:β→υ→SE}{Lj:β→υ→List Ch}{b:β}{hr:∀p,o=.stop p→p=ro}(u:υ)(is:List Nat)(h:exQ is id B0.length mj (ej b u) (Lj b u) (iD T n K cf m e L)=some (ej b u,Lj b u)):W (G (.mk P T hT n c B0 N (BkR n c B0 hr enc mj ej Lj id X) Q) K m e L cf) o (some (Step.stop (enc b))):=fun hF=>by
  unfold exQ at h
  split at h
  · rename_i h0
    split at h
    · rename_i hb
      rw [Nat.eq_of_beq_eq_true hb] at h0
      exact bk u is hF hr h0 h
    · cases h
  · cases h
theorem zK{σ ρ β:Type}{o:Step σ ρ}{ro:ρ}{enc:β→ρ}{mj id:Nat}{ej:β→Unit→SE}{Lj:β→Unit→List Ch}{b:β}{hr:∀p,o=.stop p→p=ro}(is:List Nat)(h:exQ is id B0.length mj (ej b ()) (Lj b ()) (iD T n K cf m e L)=some (ej b (),Lj b ())):W (G (.mk P T hT n c B0 N (BkR n c B0 hr enc mj ej Lj id X) Q) K m e L cf) o (some (Step.stop (enc b))):=TE () is h
theorem w5{σ ρ α:Type}{o:Step σ ρ}{p ro:ρ}{F:ρ→Option α}{q:α}{C:Prop}(hr:∀p,o=.stop p→p=ro)(hF:F ro=some q)(k:W C q (F p)):W C o (some (Step.stop p)):=fun h=>k (re h rfl hr hF)
noncomputable section
variable {b:Bool} {α:Type} {A B':Option α} {q:α}
theorem bI{o:Operand}{x y:Code}(ss:List Nat)(hs:iD T n K cf m e L=.cond o b x y K' m' e' L')(ho:aU (tK e') ss=some (ss.map fun _=>SV.b b))
    (k1:W (G (.mk P T hT n c B0 N X Q) K' m' (RD true e' ss) L' (.c x)) q A) (k2:W (G (.mk P T hT n c B0 N X Q) K' m' (RD false e' ss) L' (.c y)) q B'):W (G (.mk P T hT n c B0 N X Q) K m e L cf) q (if b=true then A else B'):=fun hF=>cs ss hs ho hF k1 k2
theorem aDZ{o:Operand}{x y:Code}(ss:List Nat)(hs:iD T n K cf m e L=.cond o b x y K' m' e' L')(ho:aU (tK e') ss=some (ss.map fun _=>SV.b b))
    (k1:b=true→W (G (.mk P T hT n c B0 N X Q) K' m' (RD true e' ss) L' (.c x)) q A) (k2:b=false→W (G (.mk P T hT n c B0 N X Q) K' m' (RD false e' ss) L' (.c y)) q B'):W (G (.mk P T hT n c B0 N X Q) K m e L cf) q (if b=true then A else B'):=fun hF=>csK ss hs ho hF k1 k2
theorem fE(ss:List Nat)(hs:iD T n K cf m e L=.case b cf' K' m' e' L')(ho:aU (tK e') ss=some (ss.map fun _=>SV.b b))
    (k1:W (G (.mk P T hT n c B0 N X Q) K' m' (RD true e' ss) L' cf') q A) (k2:W (G (.mk P T hT n c B0 N X Q) K' m' (RD false e' ss) L' cf') q B'):W (G (.mk P T hT n c B0 N X Q) K m e L cf) q (if b=true then A else B'):=fun hF=>ca ss hs ho hF k1 k2
theorem aKS(ss:List Nat)(hs:iD T n K cf m e L=.case b cf' K' m' e' L')(ho:aU (tK e') ss=some (ss.map fun _=>SV.b b))
    (k1:b=true→W (G (.mk P T hT n c B0 N X Q) K' m' (RD true e' ss) L' cf') q A) (k2:b=false→W (G (.mk P T hT n c B0 N X Q) K' m' (RD false e' ss) L' cf') q B'):W (G (.mk P T hT n c B0 N X Q) K m e L cf) q (if b=true then A else B'):=fun hF=>caK ss hs ho hF k1 k2
end
noncomputable section
variable {α β:Type} {fo:Option α} {kf:α→Option β} {q:β} {d:Nat} {f:FuncId} {xs:List SV}
theorem c0{sv:α→SV}(hs:iD T n K cf m e L=.call o (some d) f xs cf1 cf2 K' m' e' L')
    (hc:∀{w},HS c w L'→V0 P (bV w) f fo xs sv) (k:∀x,W (G (.mk P T hT n c B0 N X Q) K' m' ((d,sv x) :: e') L' cf2) q (kf x)):W (G (.mk P T hT n c B0 N X Q) K m e L cf) q (fo.bind kf):=fun hF=>cl0 hs (fun h _ hx=>hc h _ hx) hF fun x _ h=>k x h
theorem c1{ex:Type}{sv:α→ex→SV}{Lf:α→ex→List Ch}(hs:iD T n K cf m e L=.call o (some d) f xs cf1 cf2 K' m' e' L')
    (hc:∀{w},HS c w L'→VS P (bV w) f fo xs [] [] sv Lf) (k:∀x,∀y:ex,W (G (.mk P T hT n c B0 N X Q) K' m' ((d,sv x y) :: e') (L'++Lf x y) cf2) q (kf x)) (hn:∀x y,noF (Lf x y)=true:=by exact fun _ _=>rfl):W (G (.mk P T hT n c B0 N X Q) K m e L cf) q (fo.bind kf):=fun hF=>cl hs hn (fun h _ hx=>hc h _ hx) hF fun x _ h y=>k x y h
theorem zX{β:Type}{kf:α→Option β}{q:β}{iR:aI α}(C:GR α){d t:Nat}{s:AC}{i:Int}{ls:List α}(hs:iD T n K cf m e L=.idx o d t s ls.length i Lv cf1 cf2 K' m' e' L')(h1:bA c s ls)(ht:ixT T t (aI.n α)=true)
    (k:∀x,∀y:C.ex,C.sub c.S0 c.w0 x y→W (G (.mk P T hT n c B0 N X Q) K' (m'+1) ((d,.p m' 0) :: e') (L' ++ [.ro m' (C.cs x y)]) (cf2.ext [.ro m' (C.cs x y)])) q (kf x)):W (G (.mk P T hT n c B0 N X Q) K m e L cf) q ((idx ls i).bind kf):=fun hF=>by
  unfold ixT at ht
  split at ht
  · rename_i h2
    split at ht
    · rename_i h3
      exact ix C hs h1 hF h2 h3 (Nat.eq_of_beq_eq_true ht) fun x _ h y hy=>k x y hy h
    · cases ht
  · cases ht
theorem H0{β:Type}{kf:Int→Option β}{q:β}{d t:Nat}{s:AC}{i:Int}{ls:List Int}(hs:iD T n K cf m e L=.idx o d t s ls.length i Lv cf1 cf2 K' m' e' L')(h1:bA c s ls)(ht:ixT T t 1=true)
    (k:∀x,W (G (.mk P T hT n c B0 N X Q) K' (m'+1) ((d,.p m' 0) :: e') (L' ++ [.ro m' [.i .i64 x]]) (cf2.ext [.ro m' [.i .i64 x]])) q (kf x)):W (G (.mk P T hT n c B0 N X Q) K m e L cf) q ((idx ls i).bind kf):=zX cI hs h1 ht fun x _ _=>k x
theorem fO(hm:P.follows .mixedOrders=true){id:Nat}{ops:Array Oper}{zz:Option β}(is:List Nat)(hs:iD T n K cf m e L=.rgn id ops K' m' e' L')
    (k:∀{B1},W (G (.mk P T hT n c B0 N X Q) K' m' e' L' (.d B1 ops (List.replicate ops.size false) is (kl L' is) (kl L' is))) q zz) (hf:(VR ops && (T1 m' (kl L' is) && (b8 is && is.all fun j=>Nat.blt j L'.length)))=true:=by kernel_rfl):W (G (.mk P T hT n c B0 N X Q) K m e L cf) q zz:=fun hF=>dr is hs hm hf fun _=>k hF
theorem jL{π υ:Type}{zz:Option β}(j mj:Nat)(Fj:π→Option β)(ks:List Nat)(ej:π→υ→SE)(is:List Nat)(Lj:π→υ→List Ch)(hs:IS (iD T n K cf m e L)=some (K',cf',m',e',L'))
    (k1:W (G (.mk P T hT n c B0 (JP n c B0 (fun p=>Fj p=some q) mj (fun p u=>ej p u++kp e' ks) (fun p u=>Lj p u++kl L' is)) (XK (.mk P T hT n c B0 N X Q) (K'.drop j)) Q) (K'.take j) m' e' L' cf') q zz)
    (k2:∀p u,W (G (.mk P T hT n c B0 N X Q) (K'.drop j) mj (ej p u++kp e' ks) (Lj p u++kl L' is) .n) q (Fj p)):W (G (.mk P T hT n c B0 N X Q) K m e L cf) q zz:=fun hF=>cut j mj (fun p=>Fj p=some q) ks ej is Lj hs (k1 hF) fun p u h=>k2 p u h
theorem dM{zz:Option β}(j mj:Nat)(Fj:Bool→Option β)(ks:List Nat)(v:Nat)(is:List Nat)(hs:IS (iD T n K cf m e L)=some (K',cf',m',e',L'))
    (k1:W (G (.mk P T hT n c B0 (JP n c B0 (fun p=>Fj p=some q) mj (fun p (_:Unit)=>[(v,.b p)]++kp e' ks) (fun _ _=>[]++kl L' is)) (XK (.mk P T hT n c B0 N X Q) (K'.drop j)) Q) (K'.take j) m' e' L' cf') q zz)
    (k2:∀p,W (G (.mk P T hT n c B0 N X Q) (K'.drop j) mj ([(v,.b p)]++kp e' ks) ([]++kl L' is) .n) q (Fj p)):W (G (.mk P T hT n c B0 N X Q) K m e L cf) q zz:=jL j mj Fj ks (fun p (_:Unit)=>[(v,.b p)]) is (fun _ _=>[]) hs k1 fun p _=>k2 p
theorem IK{σ ρ υ γ ω:Type}{id:Nat}{y:Code}{fb:σ→Option (Step σ ρ)}{s0:σ}{gk:ρ→Option β}(u0:υ)(ks:List Nat)(el:σ→υ→SE)(is0 is:List Nat)(Ll:σ→υ→List Ch)(enc:γ→ρ)(kb:List Nat)(ej:γ→ω→SE)(ib:List Nat)(Lj:γ→ω→List Ch)
    (hs:iD T n K cf m e L=.loop id y K' m' e' L')
    (h0:IJ B0.length m' e' L' is0 m' (el s0 u0++kp e' ks) (Ll s0 u0++kl L' is)=some (el s0 u0++kp e' ks,Ll s0 u0++kl L' is))
    (k1:∀{ro o},gk ro=some q→∀s u,(hr:∀p,o=.stop p→p=ro)→W (G (.mk P T hT n c B0 (NxP n c B0 o m' (fun s u=>el s u++kp e' ks) (fun s u=>Ll s u++kl L' is)) (BkR n c B0 hr enc m' (fun b u=>ej b u++kp e' kb) (fun b u=>Lj b u++kl L' ib) id (XK (.mk P T hT n c B0 N X Q) K')) Q) [] m' (el s u++kp e' ks) (Ll s u++kl L' is) (.c y)) o (fb s))
    (k2:∀b u,W (G (.mk P T hT n c B0 N X Q) K' m' (ej b u++kp e' kb) (Lj b u++kl L' ib) .n) q (gk (enc b))):W (G (.mk P T hT n c B0 N X Q) K m e L cf) q ((loop fb s0).bind gk):=fun hF=>
  lp u0 ks el is0 is Ll enc kb ej ib Lj hs hF h0 (fun ro h1 s u o h2 h3=>k1 h1 s u h3 h2) fun b u h=>k2 b u h
theorem EB{ρ:Type}{id:Nat}{y:Code}{fb:Int→Option (Step Int ρ)}{s0:Int}{gk:ρ→Option β}(v:Nat)(ks:List Nat)(is:List Nat)(enc:Unit→ρ)(kb:List Nat)(ib:List Nat)
    (hs:iD T n K cf m e L=.loop id y K' m' e' L')
    (h0:IJ B0.length m' e' L' is m' ([(v,.i .i64 s0)]++kp e' ks) ([]++kl L' is)=some ([(v,.i .i64 s0)]++kp e' ks,[]++kl L' is))
    (k1:∀{ro o},gk ro=some q→∀s,(hr:∀p,o=.stop p→p=ro)→W (G (.mk P T hT n c B0 (NxP n c B0 o m' (fun s (_:Unit)=>[(v,.i .i64 s)]++kp e' ks) (fun _ _=>[]++kl L' is)) (BkR n c B0 hr enc m' (fun _ (_:Unit)=>[]++kp e' kb) (fun _ _=>[]++kl L' ib) id (XK (.mk P T hT n c B0 N X Q) K')) Q) [] m' ([(v,.i .i64 s)]++kp e' ks) ([]++kl L' is) (.c y)) o (fb s))
    (k2:W (G (.mk P T hT n c B0 N X Q) K' m' ([]++kp e' kb) ([]++kl L' ib) .n) q (gk (enc ()))):W (G (.mk P T hT n c B0 N X Q) K m e L cf) q ((loop fb s0).bind gk):=
  IK () ks (fun s (_:Unit)=>[(v,.i .i64 s)]) is is (fun _ _=>[]) enc kb (fun _ (_:Unit)=>[]) ib (fun _ _=>[]) hs h0 (fun h s _ hr=>k1 h s hr) fun _ _=>k2
theorem wI{β:Type}{kf:α→Option β}{q:β}[aI α](E:CO α)(j:Nat){t:TypeId}{s:AC}{i:Int}{ls:List α}(hs:iD T n K cf m e L=.idx o d t s ls.length i Lv cf1 cf2 K' m' e' L')(hj:L'[j]?=some (ow s ls))(hz:dW j cf1.tM=true)
    (k:∀x,idx ls i=some x→∀y:E.ex,Shp s ls.length→W (G (.mk P T hT n c B0 N X Q) K' (m'+1) e' (L'.set j .no++([.o (oN (s.v ls.length) ls i.toNat),.box m' (E.cs x y),WW α m' s ls.length i.toNat]++E.Lx x y)) (cf1.ext [WW α m' s ls.length i.toNat])) q (kf x)):W (G (.mk P T hT n c B0 N X Q) K m e L cf) q ((idx ls i).bind kf):=fun hF=>oe E j hs hj hz hF fun x h1 h2 y h3=>k x h1 y h3 h2
end
noncomputable section
variable {α β ex:Type} {fo:Option α} {kf:α→Option β} {q:β} {d:Option Nat} {f:FuncId} {xs xs0:List SV} {M:List Ch} {sv:α→ex→SV} {Lr:α→ex→List Ch}
theorem lH(is:List Nat)
    (hs:cpS (iD T n K cf m e L)=some (o,d,f,xs,cf1,cf2,K',m',e',L')) (hi:aU (fun i=>L'[i]?) is=some M) (hx:aU (rnP [] 0) xs=some xs0)
    (hk:(EO M && (b8 is && is.all fun j=>dW j cf1.tM))=true)
    (hc:∀{κ:Ctx},HG c κ L' is→VS P κ f fo xs0 [] M sv Lr)
    (k:∀x,∀y:ex,W (G (.mk P T hT n c B0 N X Q) K' m' (ZE d (sv x y) e') (EM L' is++Lr x y) cf2) q (kf x)) (hn:∀x y,(EO (Lr x y) && yF 0 (sv x y))=true:=by exact fun _ _=>rfl):W (G (.mk P T hT n c B0 N X Q) K m e L cf) q (fo.bind kf):=fun hF=>
  cw0 is hs hi hx hk hn (fun h _ hx=>hc h _ hx) hF fun x _ h y=>k x y h
theorem EC{c1:List SV}{a1:α→ex→List SV}(i1 n1 o1 k1:Nat)(is:List Nat)
    (hs:cpS (iD T n K cf m e L)=some (o,d,f,xs,cf1,cf2,K',m',e',L')) (hb:V6 L' [(i1,n1,o1,k1)]=some [c1]) (hi:aU (fun i=>L'[i]?) is=some M) (hx:aU (rnP [(i1,n1,o1,k1)] 0) xs=some xs0)
    (hk:(EO M && ([c1].all (yF.okC 0) && (b8 (i1 :: is) && (i1 :: is).all fun j=>dW j cf1.tM)))=true)
    (hc:∀{κ:Ctx},HG c κ L' (i1 :: is)→∀{b1:Nat×Nat},VS P κ f fo xs0 [b1] (.box 0 c1 :: M) sv (fun x y=>.box 0 (a1 x y) :: Lr x y))
    (k:∀x,∀y:ex,W (G (.mk P T hT n c B0 N X Q) K' m' (ZE d (sv x y) e') (CG L' (EM L' (i1 :: is)++Lr x y) [(i1,n1,o1,k1)] [a1 x y]) cf2) q (kf x)) (hn:∀x y,(OG [(i1,n1,o1,k1)] [a1 x y] && ([a1 x y].all (yF.okC 0) && (EO (Lr x y) && yF 0 (sv x y))))=true:=by exact fun _ _=>rfl):W (G (.mk P T hT n c B0 N X Q) K m e L cf) q (fo.bind kf):=fun hF=>
  cw1 i1 n1 o1 k1 is hs hb hi hx hk hn (fun h _ _ hx=>hc h _ hx) hF fun x _ h y=>k x y h
theorem XR{c1 c2:List SV}{a1 a2:α→ex→List SV}(i1 n1 o1 k1:Nat)(i2 n2 o2 k2:Nat)(is:List Nat)
    (hs:cpS (iD T n K cf m e L)=some (o,d,f,xs,cf1,cf2,K',m',e',L')) (hb:V6 L' [(i1,n1,o1,k1),(i2,n2,o2,k2)]=some [c1,c2]) (hi:aU (fun i=>L'[i]?) is=some M) (hx:aU (rnP [(i1,n1,o1,k1),(i2,n2,o2,k2)] 0) xs=some xs0)
    (hk:(EO M && ([c1,c2].all (yF.okC 0) && (b8 (i1 :: i2 :: is) && (i1 :: i2 :: is).all fun j=>dW j cf1.tM)))=true)
    (hc:∀{κ:Ctx},HG c κ L' (i1 :: i2 :: is)→∀{b1 b2:Nat×Nat},VS P κ f fo xs0 [b1,b2] (.box 0 c1 :: .box 1 c2 :: M) sv (fun x y=>.box 0 (a1 x y) :: .box 1 (a2 x y) :: Lr x y))
    (k:∀x,∀y:ex,W (G (.mk P T hT n c B0 N X Q) K' m' (ZE d (sv x y) e') (CG L' (EM L' (i1 :: i2 :: is)++Lr x y) [(i1,n1,o1,k1),(i2,n2,o2,k2)] [a1 x y,a2 x y]) cf2) q (kf x)) (hn:∀x y,(OG [(i1,n1,o1,k1),(i2,n2,o2,k2)] [a1 x y,a2 x y] && ([a1 x y,a2 x y].all (yF.okC 0) && (EO (Lr x y) && yF 0 (sv x y))))=true:=by exact fun _ _=>rfl):W (G (.mk P T hT n c B0 N X Q) K m e L cf) q (fo.bind kf):=fun hF=>
  cw2 i1 n1 o1 k1 i2 n2 o2 k2 is hs hb hi hx hk hn (fun h _ _ _ hx=>hc h _ hx) hF fun x _ h y=>k x y h
end
theorem aF3{α β:Type}{iR:aI α}{C:GR α}{sr:β→SV}{g:FuncId}{w:World}{p:α→Option β}(hc:∀args w,(callFunc g args).run P w=.ok (.enter g args) w)(hn:∀{κ:Ctx} {x y},C.sub κ.S0 κ.w0 x y→V0 P κ g (p x) [C.sv x y] sr):V1 P (bV w) C sr g [] p:=fu1 hc (by intro κ x y h q hq;exact hn h _ hq)
theorem XS{α β:Type}{iR:aI α}{C:GR α}{sr:β→SV}{g:FuncId}{w:World}{Bs:Bl}{cs:List (Nat×List SV)}{p:α→Option β}(hc:∀args w,(callFunc g args).run P w=.ok (.enter g args) w)(hB:∀w1,dI F0 w w1→iU (bV w1) w1 Bs (roL 0 cs))(hl:aU (dJ Bs) (aDA 0 cs)=some (OF Bs))(hn:∀{w1 x y},dI F0 w w1→C.sub (D8 w1) w1 x y→VS P (bV w1) g (p x) (C.sv x y :: aDA 0 cs) Bs (roL 0 cs) (fun r (_:Unit)=>sr r) (fun _ _=>[]))(hz:∀q,yF 0 (sr q)=true:=by exact fun _=>rfl):V1 P (bV w) C sr g (OF Bs) p:=fk1 hc hB hl hz (by intro w1 x y h h' q hq;exact hn h h' _ hq)
noncomputable section
variable {α β:Type} {fo:Option α} {kf:α→Option β} {q:β} {d:Nat} {f g:FuncId} {xs:List SV} {sv:α→SV}
theorem XT{n1:Nat}{c1:List SV}(is:List Nat)(hs:iD T n K cf m e L=.callp o (some d) f xs cf1 cf2 K' m' e' L')(hk:kl L' is=[.ro n1 c1])(ho:(V2 [(n1,c1)] && okA xs.dropLast)=true)(hx:xs=xs.dropLast ++ [.f g [n1]])
    (hc:∀{w},HS c w L'→∀{b1:Nat×Nat},(∀w1,dI F0 w w1→iU (bV w1) w1 [b1] [.ro 0 c1])→V0 P (bV w) f fo (xs.dropLast ++ [.k (.func (.func g) #[] (OF [b1]).toArray)]) sv)
    (k:∀x,W (G (.mk P T hT n c B0 N X Q) K' m' ((d,sv x) :: e') L' cf2) q (kf x)):W (G (.mk P T hT n c B0 N X Q) K m e L cf) q (fo.bind kf):=fun hF=>
  aKD is hs hk ho hx (fun h _ h2 _ hx=>hc h h2 _ hx) hF fun x _ h=>k x h
end
end
end Go.Gv
end
noncomputable section
namespace Go.Gv
structure aC where
  Bytes:List Int
  Class:List Int
  deriving DecidableEq,Inhabited
instance:aI aC:=aI.via (fun d=>(d.Bytes,d.Class))
instance:Fits aC:=Fits.via (fun d=>(d.Bytes,d.Class))
theorem aF4{S:bR}{w:World}{cs:List Value}{d:aC}(h:aI.rd S w cs d):∃v0 v1:Value,cs=[v0,v1]∧aI.rd S w [v0] d.Bytes∧aI.rd S w [v1] d.Class:=by
  obtain⟨c0,r0,e0,h0,n0⟩:=h
  obtain⟨u0,q0⟩:=gZ h0
  rw [q0] at h0
  obtain⟨u1,q1⟩:=gZ n0
  rw [q1] at n0
  exact⟨u0,u1,by rw [e0,q0,q1];rfl,h0,n0⟩
structure aE where
  aK:List Int
  deriving DecidableEq,Inhabited
instance:aI aE:=aI.via (fun d=>(d.aK))
instance:Fits aE:=Fits.via (fun d=>(d.aK))
theorem OL{S:bR}{w:World}{cs:List Value}{d:aE}(h:aI.rd S w cs d):∃v0:Value,cs=[v0]∧aI.rd S w [v0] d.aK:=by
  obtain⟨u0,q0⟩:=gZ h
  rw [q0] at h
  exact⟨u0,q0,h⟩
theorem I4(d:aE){v0:Value}:OP [v0] d [bU [v0] d.aK]:=(show OP (α:=(List Int)) _ (d.aK) _ from aBW)
theorem _root_.Go.Gv.St.aD0{c:Ctx}{L:List Chunk}{R:List Fact}{w:World}{s:Value}{l:List aE}{i:Nat}{x:aE}(h:St c w L R)(j:Nat)(hj:R[j]?=some (rJ [s] l))(hi:l[i]?=some x):∃v0:Value,bG w (DF s) (BK 1 i s) [v0]∧St c w L (R ++ [rJ [v0] x.aK]):=by
  obtain⟨S,hS,hk⟩:=h.aBM hj
  obtain⟨ec,h1,h2⟩:=S1 hS hi
  obtain⟨v0,q,q0⟩:=OL h2
  rw [q] at h1
  exact⟨v0,h1,hk _ (by intro f hf;simp only [List.mem_cons,List.not_mem_nil,or_false] at hf;subst hf;exact q0)⟩
structure aA where
  Global:List aE
  aV:List aE
  deriving DecidableEq,Inhabited
instance:aI aA:=aI.via (fun d=>(d.Global,d.aV))
instance:Fits aA:=Fits.via (fun d=>(d.Global,d.aV))
theorem aD1{S:bR}{w:World}{cs:List Value}{d:aA}(h:aI.rd S w cs d):∃v0 v1:Value,cs=[v0,v1]∧aI.rd S w [v0] d.Global∧aI.rd S w [v1] d.aV:=by
  obtain⟨c0,r0,e0,h0,n0⟩:=h
  obtain⟨u0,q0⟩:=gZ h0
  rw [q0] at h0
  obtain⟨u1,q1⟩:=gZ n0
  rw [q1] at n0
  exact⟨u0,u1,by rw [e0,q0,q1];rfl,h0,n0⟩
structure Mem where
  aC:aC
  aA:aA
  deriving DecidableEq,Inhabited
instance:aI Mem:=aI.via (fun d=>(d.aC,d.aA))
instance:Fits Mem:=Fits.via (fun d=>(d.aC,d.aA))
theorem aH7{S:bR}{w:World}{cs:List Value}{d:Mem}(h:aI.rd S w cs d):∃v0 v1 v2 v3:Value,cs=[v0,v1,v2,v3]∧aI.rd S w [v0] d.aC.Bytes∧aI.rd S w [v1] d.aC.Class∧aI.rd S w [v2] d.aA.Global∧aI.rd S w [v3] d.aA.aV:=by
  obtain⟨c0,r0,e0,h0,n0⟩:=h
  obtain⟨u0_0,u0_1,q0,hq0_0,hq0_1⟩:=aF4 h0
  obtain⟨u1_0,u1_1,q1,hq1_0,hq1_1⟩:=aD1 n0
  exact⟨u0_0,u0_1,u1_0,u1_1,by rw [e0,q0,q1];rfl,hq0_0,hq0_1,hq1_0,hq1_1⟩
structure cL where
  On:Bool
  aG:Int
  cH:Bool
  Seen:Int
  deriving DecidableEq,Inhabited
instance:aI cL:=aI.via (fun d=>(d.On,d.aG,d.cH,d.Seen))
instance:Fits cL:=Fits.via (fun d=>(d.On,d.aG,d.cH,d.Seen))
theorem aD2{S:bR}{w:World}{cs:List Value}{d:cL}(h:aI.rd S w cs d):cs=[.bool (d.On),.int .i64 (d.aG),.bool (d.cH),.int .i64 (d.Seen)]:=by
  obtain⟨c0,r0,e0,h0,n0⟩:=h
  have q0:c0=[_]:=h0
  obtain⟨c1,r1,e1,h1,n1⟩:=n0
  have q1:c1=[_]:=h1
  obtain⟨c2,r2,e2,h2,n2⟩:=n1
  have q2:c2=[_]:=h2
  have q3:r2=[_]:=n2
  exact by rw [e0,e1,e2,q0,q1,q2,q3];rfl
theorem OM{S:bR}{w:World}(d:cL):aI.rd S w [.bool (d.On),.int .i64 (d.aG),.bool (d.cH),.int .i64 (d.Seen)] d:=⟨[.bool (d.On)],[.int .i64 (d.aG),.bool (d.cH),.int .i64 (d.Seen)],rfl,rfl,⟨[.int .i64 (d.aG)],[.bool (d.cH),.int .i64 (d.Seen)],rfl,rfl,⟨[.bool (d.cH)],[.int .i64 (d.Seen)],rfl,rfl,rfl⟩⟩⟩
instance:Flat cL:=⟨fun h=>Flat.own_of (α:=Bool×Int×Bool×Int) h,fun h=>Flat.no (α:=Bool×Int×Bool×Int) h⟩
theorem aH8(d:cL):OP [.bool (d.On),.int .i64 (d.aG),.bool (d.cH),.int .i64 (d.Seen)] d []:=(show OP (α:=Bool×Int×Bool×Int) _ (d.On,d.aG,d.cH,d.Seen) _ from (NB (c1:=[.bool (d.On)]) (c2:=[.int .i64 (d.aG),.bool (d.cH),.int .i64 (d.Seen)]) (A:=[]) (B:=[]) (zT rfl) (NB (c1:=[.int .i64 (d.aG)]) (c2:=[.bool (d.cH),.int .i64 (d.Seen)]) (A:=[]) (B:=[]) (zT rfl) (NB (c1:=[.bool (d.cH)]) (c2:=[.int .i64 (d.Seen)]) (A:=[]) (B:=[]) (zT rfl) (zT rfl) rfl) rfl) rfl))
theorem UJ{S:bR}{w:World}{s:Value}{l:List cL}{i:Nat}{x:cL}(h:aI.rd S w [s] l)(hi:l[i]?=some x):bG w (DF s) (BK 4 i s) [.bool (x.On),.int .i64 (x.aG),.bool (x.cH),.int .i64 (x.Seen)]:=by
  obtain⟨ec,h1,h2⟩:=S1 h hi
  rw [aD2 h2] at h1;exact h1
structure aD where
  aG:Int
  aP:List cL
  deriving DecidableEq,Inhabited
instance:aI aD:=aI.via (fun d=>(d.aG,d.aP))
instance:Fits aD:=Fits.via (fun d=>(d.aG,d.aP))
theorem aD3{S:bR}{w:World}{cs:List Value}{d:aD}(h:aI.rd S w cs d):∃v0:Value,cs=[.int .i64 (d.aG),v0]∧aI.rd S w [v0] d.aP:=by
  obtain⟨c0,r0,e0,h0,n0⟩:=h
  have q0:c0=[_]:=h0
  obtain⟨u1,q1⟩:=gZ n0
  rw [q1] at n0
  exact⟨u1,by rw [e0,q0,q1];rfl,n0⟩
structure bC where
  Handle:Int
  aG:Int
  deriving DecidableEq,Inhabited
instance:aI bC:=aI.via (fun d=>(d.Handle,d.aG))
instance:Fits bC:=Fits.via (fun d=>(d.Handle,d.aG))
theorem ZP{S:bR}{w:World}{cs:List Value}{d:bC}(h:aI.rd S w cs d):cs=[.int .i64 (d.Handle),.int .i64 (d.aG)]:=by
  obtain⟨c0,r0,e0,h0,n0⟩:=h
  have q0:c0=[_]:=h0
  have q1:r0=[_]:=n0
  exact by rw [e0,q0,q1];rfl
theorem NR{S:bR}{w:World}(d:bC):aI.rd S w [.int .i64 (d.Handle),.int .i64 (d.aG)] d:=⟨[.int .i64 (d.Handle)],[.int .i64 (d.aG)],rfl,rfl,rfl⟩
instance:Flat bC:=⟨fun h=>Flat.own_of (α:=Int×Int) h,fun h=>Flat.no (α:=Int×Int) h⟩
theorem aF5(d:bC):OP [.int .i64 (d.Handle),.int .i64 (d.aG)] d []:=(show OP (α:=Int×Int) _ (d.Handle,d.aG) _ from (NB (c1:=[.int .i64 (d.Handle)]) (c2:=[.int .i64 (d.aG)]) (A:=[]) (B:=[]) (zT rfl) (zT rfl) rfl))
theorem UK{S:bR}{w:World}{s:Value}{l:List bC}{i:Nat}{x:bC}(h:aI.rd S w [s] l)(hi:l[i]?=some x):bG w (DF s) (BK 2 i s) [.int .i64 (x.Handle),.int .i64 (x.aG)]:=by
  obtain⟨ec,h1,h2⟩:=S1 h hi
  rw [ZP h2] at h1;exact h1
structure aJ where
  Rows:List bC
  deriving DecidableEq,Inhabited
instance:aI aJ:=aI.via (fun d=>(d.Rows))
instance:Fits aJ:=Fits.via (fun d=>(d.Rows))
theorem ON{S:bR}{w:World}{cs:List Value}{d:aJ}(h:aI.rd S w cs d):∃v0:Value,cs=[v0]∧aI.rd S w [v0] d.Rows:=by
  obtain⟨u0,q0⟩:=gZ h
  rw [q0] at h
  exact⟨u0,q0,h⟩
theorem I5(d:aJ){v0:Value}:OP [v0] d [bU [v0] d.Rows]:=(show OP (α:=(List bC)) _ (d.Rows) _ from aBW)
theorem _root_.Go.Gv.St.WD{c:Ctx}{L:List Chunk}{R:List Fact}{w:World}{s:Value}{l:List aJ}{i:Nat}{x:aJ}(h:St c w L R)(j:Nat)(hj:R[j]?=some (rJ [s] l))(hi:l[i]?=some x):∃v0:Value,bG w (DF s) (BK 1 i s) [v0]∧St c w L (R ++ [rJ [v0] x.Rows]):=by
  obtain⟨S,hS,hk⟩:=h.aBM hj
  obtain⟨ec,h1,h2⟩:=S1 hS hi
  obtain⟨v0,q,q0⟩:=ON h2
  rw [q] at h1
  exact⟨v0,h1,hk _ (by intro f hf;simp only [List.mem_cons,List.not_mem_nil,or_false] at hf;subst hf;exact q0)⟩
structure aM where
  Mem:Mem
  aD:aD
  aL:List aJ
  cB:List Int
  deriving DecidableEq,Inhabited
instance:aI aM:=aI.via (fun d=>(d.Mem,d.aD,d.aL,d.cB))
instance:Fits aM:=Fits.via (fun d=>(d.Mem,d.aD,d.aL,d.cB))
theorem aF6{S:bR}{w:World}{cs:List Value}{d:aM}(h:aI.rd S w cs d):∃v0 v1 v2 v3 v4 v5 v6:Value,cs=[v0,v1,v2,v3,.int .i64 (d.aD.aG),v4,v5,v6]∧aI.rd S w [v0] d.Mem.aC.Bytes∧aI.rd S w [v1] d.Mem.aC.Class∧aI.rd S w [v2] d.Mem.aA.Global∧aI.rd S w [v3] d.Mem.aA.aV∧aI.rd S w [v4] d.aD.aP∧aI.rd S w [v5] d.aL∧aI.rd S w [v6] d.cB:=by
  obtain⟨c0,r0,e0,h0,n0⟩:=h
  obtain⟨u0_0,u0_1,u0_2,u0_3,q0,hq0_0,hq0_1,hq0_2,hq0_3⟩:=aH7 h0
  obtain⟨c1,r1,e1,h1,n1⟩:=n0
  obtain⟨u1_0,q1,hq1_0⟩:=aD3 h1
  obtain⟨c2,r2,e2,h2,n2⟩:=n1
  obtain⟨u2,q2⟩:=gZ h2
  rw [q2] at h2
  obtain⟨u3,q3⟩:=gZ n2
  rw [q3] at n2
  exact⟨u0_0,u0_1,u0_2,u0_3,u1_0,u2,u3,by rw [e0,e1,e2,q0,q1,q2,q3];rfl,hq0_0,hq0_1,hq0_2,hq0_3,hq1_0,h2,n2⟩
structure Sub where
  Kind:Int
  A:Int
  Pc:Int
  E:Int
  Row:Int
  B:Int
  H:Int
  Out:Int
  Code:Int
  cD:Bool
  deriving DecidableEq,Inhabited
instance:aI Sub:=aI.via (fun d=>(d.Kind,d.A,d.Pc,d.E,d.Row,d.B,d.H,d.Out,d.Code,d.cD))
instance:Fits Sub:=Fits.via (fun d=>(d.Kind,d.A,d.Pc,d.E,d.Row,d.B,d.H,d.Out,d.Code,d.cD))
theorem aH9{S:bR}{w:World}{cs:List Value}{d:Sub}(h:aI.rd S w cs d):cs=[.int .i64 (d.Kind),.int .i64 (d.A),.int .i64 (d.Pc),.int .i64 (d.E),.int .i64 (d.Row),.int .i64 (d.B),.int .i64 (d.H),.int .i64 (d.Out),.int .i64 (d.Code),.bool (d.cD)]:=by
  obtain⟨c0,r0,e0,h0,n0⟩:=h
  have q0:c0=[_]:=h0
  obtain⟨c1,r1,e1,h1,n1⟩:=n0
  have q1:c1=[_]:=h1
  obtain⟨c2,r2,e2,h2,n2⟩:=n1
  have q2:c2=[_]:=h2
  obtain⟨c3,r3,e3,h3,n3⟩:=n2
  have q3:c3=[_]:=h3
  obtain⟨c4,r4,e4,h4,n4⟩:=n3
  have q4:c4=[_]:=h4
  obtain⟨c5,r5,e5,h5,n5⟩:=n4
  have q5:c5=[_]:=h5
  obtain⟨c6,r6,e6,h6,n6⟩:=n5
  have q6:c6=[_]:=h6
  obtain⟨c7,r7,e7,h7,n7⟩:=n6
  have q7:c7=[_]:=h7
  obtain⟨c8,r8,e8,h8,n8⟩:=n7
  have q8:c8=[_]:=h8
  have q9:r8=[_]:=n8
  exact by rw [e0,e1,e2,e3,e4,e5,e6,e7,e8,q0,q1,q2,q3,q4,q5,q6,q7,q8,q9];rfl
instance:Flat Sub:=⟨fun h=>Flat.own_of (α:=Int×Int×Int×Int×Int×Int×Int×Int×Int×Bool) h,fun h=>Flat.no (α:=Int×Int×Int×Int×Int×Int×Int×Int×Int×Bool) h⟩
end Go.Gv
end
noncomputable section
set_option linter.unusedVariables false
namespace Go.Gv
noncomputable section
def mR(a_:List Int)(left:Int):Option Int:=
  (if decide ((a8 (left - ((a_.length:Int)))) < 0) then some ((-1)) else some (a8 (left - ((a_.length:Int)))))
def zY(a_:aC)(left:Int):Option Int:=
  (mR a_.Bytes left).bind fun x1=>(if decide (x1 < 0) then some ((-1)) else (mR a_.Class x1).bind fun x2=>(if decide (x2 < 0) then some ((-1)) else some x2))
def w6(a_:aE)(left:Int):Option Int:=
  (mR a_.aK left).bind fun x1=>(if decide (x1 < 0) then some ((-1)) else some x1)
def KB(x5:Int):Option Int:=
  some x5
def nR(a_:List aE):(Int×Int)→Option (Step (Int×Int) (Out Int Int))
  | (x3,x4)=>(if decide (x4 < ((a_.length:Int))) then (idx a_ x4).bind fun x6=>(w6 x6 x3).bind fun x7=>(if decide (x7 < 0) then some (.stop (Out.ret ((-1)))) else some (.next ((x7,a8 (x4+1))))) else some (.stop (Out.brk x3)))
def KC:(Out Int Int)→Option Int
  | .brk x5=>KB x5
  | .ret r=>some r
def oW(a_:List aE)(left:Int):Option Int:=
  (if decide ((a8 (left - ((a_.length:Int)))) < 0) then some ((-1)) else (loop (nR a_) ((a8 (left - ((a_.length:Int))),0))).bind (KC))
def w7(a_:aA)(left:Int):Option Int:=
  (oW a_.Global left).bind fun x1=>(if decide (x1 < 0) then some ((-1)) else (oW a_.aV x1).bind fun x2=>(if decide (x2 < 0) then some ((-1)) else some x2))
def tV(a_:Mem)(left:Int):Option Int:=
  (zY a_.aC left).bind fun x1=>(if decide (x1 < 0) then some ((-1)) else (w7 a_.aA x1).bind fun x2=>(if decide (x2 < 0) then some ((-1)) else some x2))
def zZ(a_:List cL)(left:Int):Option Int:=
  (if decide ((a8 (left - ((a_.length:Int)))) < 0) then some ((-1)) else some (a8 (left - ((a_.length:Int)))))
def CH(a_:aD)(left:Int):Option Int:=
  (zZ a_.aP left).bind fun x1=>(if decide (x1 < 0) then some ((-1)) else some x1)
def w8(a_:List bC)(left:Int):Option Int:=
  (if decide ((a8 (left - ((a_.length:Int)))) < 0) then some ((-1)) else some (a8 (left - ((a_.length:Int)))))
def w9(a_:aJ)(left:Int):Option Int:=
  (w8 a_.Rows left).bind fun x1=>(if decide (x1 < 0) then some ((-1)) else some x1)
def KD(x5:Int):Option Int:=
  some x5
def nS(a_:List aJ):(Int×Int)→Option (Step (Int×Int) (Out Int Int))
  | (x3,x4)=>(if decide (x4 < ((a_.length:Int))) then (idx a_ x4).bind fun x6=>(w9 x6 x3).bind fun x7=>(if decide (x7 < 0) then some (.stop (Out.ret ((-1)))) else some (.next ((x7,a8 (x4+1))))) else some (.stop (Out.brk x3)))
def KE:(Out Int Int)→Option Int
  | .brk x5=>KD x5
  | .ret r=>some r
def uH(a_:List aJ)(left:Int):Option Int:=
  (if decide ((a8 (left - ((a_.length:Int)))) < 0) then some ((-1)) else (loop (nS a_) ((a8 (left - ((a_.length:Int))),0))).bind (KE))
def z0(a_:aM)(left:Int):Option Int:=
  (tV a_.Mem left).bind fun x1=>(if decide (x1 < 0) then some ((-1)) else (CH a_.aD x1).bind fun x2=>(if decide (x2 < 0) then some ((-1)) else (uH a_.aL x2).bind fun x3=>(if decide (x3 < 0) then some ((-1)) else (mR a_.cB x3).bind fun x4=>(if decide (x4 < 0) then some ((-1)) else some x4))))
def mS(b:List Int):Option ((List Int)):=
  need ((([]:List Int)).length+b.length≤1073741824) (some ((([]:List Int))++b))
def z4(h:aC):Option aC:=
  (mS h.Bytes).bind fun x1=>(mS h.Class).bind fun x2=>some ((⟨x1,x2⟩:aC))
def OO(x5:List aE):Option ((List aE)):=
  some x5
def yM(l:List aE):((List aE)×Int)→Option (Step ((List aE)×Int) ((List aE)))
  | (x3,x4)=>(if decide (x4 < ((l.length:Int))) then (idx l x4).bind fun x6=>(mS x6.aK).bind fun x7=>need (x3.length+([(⟨x7⟩:aE)]).length≤1073741824) (some (.next ((x3++([(⟨x7⟩:aE)]),a8 (x4+1))))) else some (.stop (x3)))
def OQ:((List aE))→Option ((List aE))
  | x5=>OO x5
def vV(l:List aE):Option ((List aE)):=
  (loop (yM l) ((([]:List aE),0))).bind (OQ)
def z5(l:aA):Option aA:=
  (vV l.Global).bind fun x1=>(vV l.aV).bind fun x2=>some ((⟨x1,x2⟩:aA))
def z6(m:Mem):Option Mem:=
  (z4 m.aC).bind fun x1=>(z5 m.aA).bind fun x2=>some ((⟨x1,x2⟩:Mem))
def kP(c:aD):Option aD:=
  need ((([]:List cL)).length+c.aP.length≤1073741824) (some ((⟨c.aG,(([]:List cL))++c.aP⟩:aD)))
def LM(x5:List aJ):Option ((List aJ)):=
  some x5
def wJ(l:List aJ):((List aJ)×Int)→Option (Step ((List aJ)×Int) ((List aJ)))
  | (x3,x4)=>(if decide (x4 < ((l.length:Int))) then (idx l x4).bind fun x6=>need ((([]:List bC)).length+x6.Rows.length≤1073741824) (need (x3.length+([(⟨(([]:List bC))++x6.Rows⟩:aJ)]).length≤1073741824) (some (.next ((x3++([(⟨(([]:List bC))++x6.Rows⟩:aJ)]),a8 (x4+1)))))) else some (.stop (x3)))
def LN:((List aJ))→Option ((List aJ))
  | x5=>LM x5
def xA(l:List aJ):Option ((List aJ)):=
  (loop (wJ l) ((([]:List aJ),0))).bind (LN)
def xB(b:aM):Option aM:=
  (z6 b.Mem).bind fun x1=>(kP b.aD).bind fun x2=>(xA b.aL).bind fun x3=>(mS b.cB).bind fun x4=>some ((⟨x1,x2,x3,x4⟩:aM))
def xC(x1:Bool):Option Bool:=
  some x1
def bS(x low high:Int):Option Bool:=
  (if decide (low≤x) then xC (decide (x≤high)) else xC false)
def DI(b:List Int):Option Bool:=
  some (decide (((b.length:Int))≤1000))
def iV(b:List Int):Int→Option (Step Int (Out Unit Bool))
  | x2=>(if decide (x2 < ((b.length:Int))) then (idx b x2).bind fun x3=>(bS x3 0 255).bind fun x4=>(if !x4 then some (.stop (Out.ret false)) else some (.next (a8 (x2+1)))) else some (.stop (Out.brk (()))))
def wK(b:List Int):(Out Unit Bool)→Option Bool
  | .brk (())=>DI b
  | .ret r=>some r
def xD(b:List Int):Option Bool:=
  (loop (iV b) 0).bind (wK b)
def LO:Option Bool:=
  some true
def iW(h:aC):Int→Option (Step Int (Out Unit Bool))
  | x3=>(if decide (x3 < 6) then (idx h.Class x3).bind fun x4=>(bS x4 ((-1)) 2).bind fun x5=>(if !x5 then some (.stop (Out.ret false)) else some (.next (a8 (x3+1)))) else some (.stop (Out.brk (()))))
def LP:(Out Unit Bool)→Option Bool
  | .brk (())=>LO
  | .ret r=>some r
def lI(h:aC)(x1:Bool):Option Bool:=
  (if x1 then some false else (loop (iW h) 0).bind (LP))
def xE(h:aC):Option Bool:=
  (if ((h.Bytes.length:Int)) != 384 then lI h true else (if ((h.Class.length:Int)) != 6 then lI h true else (xD h.Bytes).bind fun x6=>lI h (!x6)))
def OR(x5:Int):Option Int:=
  some x5
def mT(b:List Int)(at_ width:Int):(Int×Int)→Option (Step (Int×Int) Int)
  | (x3,x4)=>(if decide (x4 < width) then (idx b (a8 (at_+x4))).bind fun x6=>some (.next ((a8 ((a8 (x3 * 256))+x6),a8 (x4+1)))) else some (.stop (x3)))
def OS:Int→Option Int
  | x5=>OR x5
def vW(b:List Int)(at_ width:Int):Option Int:=
  (loop (mT b at_ width) ((0,0))).bind (OS)
def vX(c:Int):Option Int:=
  (if c == 0 then some 8 else (if c == 1 then some 16 else (if c == 2 then some 40 else some 0)))
def oX(c:Int):Option Int:=
  (bS c 0 2).bind fun x1=>(if !x1 then some 0 else (vX c).bind fun x2=>some (a8 (4+x2)))
def gR(c:Int):Option Int:=
  (bS c 0 2).bind fun x1=>(if !x1 then some 0 else (oX c).bind fun x2=>need (x2≠0) (some (a8 (Int.tdiv 56 x2))))
def rB(slot:Int):Option Int:=
  (bS slot 0 23).bind fun x1=>(if !x1 then some ((-1)) else some (a8 (Int.tdiv slot 4)))
def nT(slot:Int):Option Int:=
  (bS slot 0 23).bind fun x1=>(if !x1 then some ((-1)) else some (Int.tmod slot 4))
def uI(slot c:Int)(x1:Bool):Option Int:=
  (if x1 then some ((-1)) else (rB slot).bind fun x2=>(nT slot).bind fun x3=>(oX c).bind fun x4=>some (a8 ((a8 ((a8 (x2 * 64))+8))+(a8 (x3 * x4)))))
def qO(slot c:Int):Option Int:=
  (rB slot).bind fun x5=>(if decide (x5 < 0) then uI slot c true else (nT slot).bind fun x6=>(gR c).bind fun x7=>(bS x6 0 (a8 (x7 - 1))).bind fun x8=>uI slot c (!x8))
def mU(page index:Int)(x1:Bool):Option Int:=
  (if x1 then some ((-1)) else some (a8 ((a8 (page * 4))+index)))
def kM(page index:Int):Option Int:=
  (bS page 0 5).bind fun x2=>(if !x2 then mU page index true else (bS index 0 3).bind fun x3=>mU page index (!x3))
def OT:Option Bool:=
  some true
def jV(h:aC)(p:Int):Int→Option (Step Int (Out Unit Bool))
  | x3=>(if decide (x3 < (a8 ((a8 (p * 64))+64))) then (idx h.Bytes x3).bind fun x4=>(if x4 != 0 then some (.stop (Out.ret false)) else some (.next (a8 (x3+1)))) else some (.stop (Out.brk (()))))
def OU:(Out Unit Bool)→Option Bool
  | .brk (())=>OT
  | .ret r=>some r
def OV:Option Bool:=
  some true
def jW(h:aC)(p x1:Int):Int→Option (Step Int (Out Unit Bool))
  | x9=>(gR x1).bind fun x10=>(if decide (x9 < x10) then (kM p x9).bind fun x11=>(qO x11 x1).bind fun x12=>(vW h.Bytes x12 4).bind fun x13=>(bS x13 1 7).bind fun x14=>(if !x14 then some (.stop (Out.ret false)) else some (.next (a8 (x9+1)))) else some (.stop (Out.brk (()))))
def OW:(Out Unit Bool)→Option Bool
  | .brk (())=>OV
  | .ret r=>some r
def EP(h:aC)(p x1:Int):Option Bool:=
  (loop (jW h p x1) 0).bind (OW)
def jX(h:aC)(p:Int):Int→Option (Step Int (Out Unit Bool))
  | x7=>(if decide (x7 < (a8 ((a8 (p * 64))+8))) then (idx h.Bytes x7).bind fun x15=>(if x15 != 0 then some (.stop (Out.ret false)) else some (.next (a8 (x7+1)))) else some (.stop (Out.brk (()))))
def ER(h:aC)(p x1:Int):(Out Unit Bool)→Option Bool
  | .brk (())=>EP h p x1
  | .ret r=>some r
def fZ(h:aC)(p x1:Int)(x5:Bool):Option Bool:=
  (if x5 then some false else (loop (jX h p) (a8 ((a8 (p * 64))+3))).bind (ER h p x1))
def z7(h:aC)(p:Int):Option Bool:=
  (idx h.Class p).bind fun x1=>(if decide (x1 < 0) then (loop (jV h p) (a8 (p * 64))).bind (OU) else (idx h.Bytes (a8 (p * 64))).bind fun x16=>(if x16 != 171 then fZ h p x1 true else (idx h.Bytes (a8 ((a8 (p * 64))+1))).bind fun x17=>(if x17 != x1 then fZ h p x1 true else (idx h.Bytes (a8 ((a8 (p * 64))+2))).bind fun x18=>(gR x1).bind fun x19=>fZ h p x1 (x18 != x19))))
def OX:Option Bool:=
  some true
def mV(h:aC):Int→Option (Step Int (Out Unit Bool))
  | x3=>(if decide (x3 < 6) then (z7 h x3).bind fun x4=>(if !x4 then some (.stop (Out.ret false)) else some (.next (a8 (x3+1)))) else some (.stop (Out.brk (()))))
def OY:(Out Unit Bool)→Option Bool
  | .brk (())=>OX
  | .ret r=>some r
def z8(h:aC):Option Bool:=
  (xE h).bind fun x1=>(if !x1 then some false else (loop (mV h) 0).bind (OY))
def RF:Option Bool:=
  some false
def lW(l:List Int)(x:Int):Int→Option (Step Int (Out Unit Bool))
  | x2=>(if decide (x2 < ((l.length:Int))) then (idx l x2).bind fun x3=>(if x3 == x then some (.stop (Out.ret true)) else some (.next (a8 (x2+1)))) else some (.stop (Out.brk (()))))
def RG:(Out Unit Bool)→Option Bool
  | .brk (())=>RF
  | .ret r=>some r
def tW(l:List Int)(x:Int):Option Bool:=
  (loop (lW l x) 0).bind (RG)
def RH(x10:List Int):Option ((List Int)):=
  some x10
def oY(l:aA):((List Int)×Int)→Option (Step ((List Int)×Int) ((List Int)))
  | (x8,x9)=>(if decide (x9 < ((l.aV.length:Int))) then (idx l.aV x9).bind fun x11=>need (x8.length+x11.aK.length≤1073741824) (some (.next ((x8++x11.aK,a8 (x9+1))))) else some (.stop (x8)))
def RI:((List Int))→Option ((List Int))
  | x10=>RH x10
def GS(l:aA)(x5:List Int):Option ((List Int)):=
  (loop (oY l) ((x5,0))).bind (RI)
def oZ(l:aA):((List Int)×Int)→Option (Step ((List Int)×Int) ((List Int)))
  | (x3,x4)=>(if decide (x4 < ((l.Global.length:Int))) then (idx l.Global x4).bind fun x12=>need (x3.length+x12.aK.length≤1073741824) (some (.next ((x3++x12.aK,a8 (x4+1))))) else some (.stop (x3)))
def GU(l:aA):((List Int))→Option ((List Int))
  | x5=>GS l x5
def yN(l:aA):Option ((List Int)):=
  (loop (oZ l) ((([]:List Int),0))).bind (GU l)
def LQ:Option Bool:=
  some true
def pR(x6:Int)(x7:Bool):Option (Step Int (Out Unit Bool)):=
  (if x7 then some (.stop (Out.ret false)) else some (.next (a8 (x6+1))))
def iX(x4:(List Int)):Int→Option (Step Int (Out Unit Bool))
  | x6=>(if decide (x6 < ((x4.length:Int))) then (idx x4 x6).bind fun x8=>(bS x8 0 23).bind fun x9=>(if !x9 then pR x6 true else need (0≤(x6:Int)∧(x6:Int)≤(x4.length:Int)) ((idx x4 x6).bind fun x10=>(tW ((x4.take x6.toNat).drop 0) x10).bind fun x11=>pR x6 x11)) else some (.stop (Out.brk (()))))
def LR:(Out Unit Bool)→Option Bool
  | .brk (())=>LQ
  | .ret r=>some r
def DJ(l:aA):Option Bool:=
  (yN l).bind fun x4=>(loop (iX x4) 0).bind (LR)
def iY(l:aA):Int→Option (Step Int (Out Unit Bool))
  | x3=>(if decide (x3 < ((l.aV.length:Int))) then (idx l.aV x3).bind fun x12=>(if decide (2 < ((x12.aK.length:Int))) then some (.stop (Out.ret false)) else some (.next (a8 (x3+1)))) else some (.stop (Out.brk (()))))
def DK(l:aA):(Out Unit Bool)→Option Bool
  | .brk (())=>DJ l
  | .ret r=>some r
def pS(l:aA)(x1:Bool):Option Bool:=
  (if x1 then some false else (loop (iY l) 0).bind (DK l))
def xF(l:aA):Option Bool:=
  (if ((l.Global.length:Int)) != 3 then pS l true else pS l (((l.aV.length:Int)) != 9))
def lJ(h:aC)(x1:Int)(x2:Bool):Option Int:=
  (if x2 then some ((-1)) else (idx h.Class x1).bind fun x3=>some x3)
def kQ(h:aC)(slot:Int):Option Int:=
  (rB slot).bind fun x1=>(if decide (x1 < 0) then lJ h x1 true else (idx h.Class x1).bind fun x4=>(if decide (x4 < 0) then lJ h x1 true else (idx h.Class x1).bind fun x5=>(nT slot).bind fun x6=>(gR x5).bind fun x7=>lJ h x1 (decide (x7≤x6))))
def mW(h:aC)(slot:Int):Option Int:=
  (kQ h slot).bind fun x1=>(qO slot x1).bind fun x2=>(vW h.Bytes x2 4).bind fun x3=>some x3
def KF:Option Bool:=
  some true
def nU(x2:Int)(x3:Bool):Option (Step Int (Out Unit Bool)):=
  (if x3 then some (.stop (Out.ret false)) else some (.next (a8 (x2+1))))
def hC(h:aC)(l:List Int)(c:Int):Int→Option (Step Int (Out Unit Bool))
  | x2=>(if decide (x2 < ((l.length:Int))) then (idx l x2).bind fun x4=>(kQ h x4).bind fun x5=>(if x5 != c then nU x2 true else (idx l x2).bind fun x6=>(mW h x6).bind fun x7=>nU x2 (decide (6 < x7))) else some (.stop (Out.brk (()))))
def KG:(Out Unit Bool)→Option Bool
  | .brk (())=>KF
  | .ret r=>some r
def o4(h:aC)(l:List Int)(c:Int):Option Bool:=
  (loop (hC h l c) 0).bind (KG)
def o5(w_ c:Int)(x1:Bool):Option Int:=
  (if x1 then some ((-1)) else some (a8 ((a8 (w_ * 3))+c)))
def mX(w_ c:Int):Option Int:=
  (bS w_ 0 2).bind fun x2=>(if !x2 then o5 w_ c true else (bS c 0 2).bind fun x3=>o5 w_ c (!x3))
def RJ:Option Bool:=
  some true
def GV(x3:Int):Option (Step Int (Out Unit Bool)):=
  some (.next (a8 (x3+1)))
def o6(m:Mem)(x3:Int):Int→Option (Step Int (Out Unit Bool))
  | x7=>(if decide (x7 < 3) then (mX x7 x3).bind fun x8=>(idx m.aA.aV x8).bind fun x9=>(o4 m.aC x9.aK x3).bind fun x10=>(if !x10 then some (.stop (Out.ret false)) else some (.next (a8 (x7+1)))) else some (.stop (Out.brk (()))))
def GW(x3:Int):(Out Unit Bool)→Option (Step Int (Out Unit Bool))
  | .brk (())=>GV x3
  | .ret r=>some (.stop (Out.ret r))
def o7(m:Mem):Int→Option (Step Int (Out Unit Bool))
  | x3=>(if decide (x3 < 3) then (idx m.aA.Global x3).bind fun x4=>(o4 m.aC x4.aK x3).bind fun x5=>(if !x5 then some (.stop (Out.ret false)) else (loop (o6 m x3) 0).bind (GW x3)) else some (.stop (Out.brk (()))))
def RK:(Out Unit Bool)→Option Bool
  | .brk (())=>RJ
  | .ret r=>some r
def uJ(m:Mem)(x1:Bool):Option Bool:=
  (if x1 then some false else (loop (o7 m) 0).bind (RK))
def CI(m:Mem):Option Bool:=
  (z8 m.aC).bind fun x11=>(if !x11 then uJ m true else (xF m.aA).bind fun x12=>uJ m (!x12))
def DL:Option Bool:=
  some true
def gI(x3:Int)(x5:Bool):Option (Step Int (Out Unit Bool)):=
  (if x5 then some (.stop (Out.ret false)) else some (.next (a8 (x3+1))))
def lK(c:aD):Int→Option (Step Int (Out Unit Bool))
  | x3=>(if decide (x3 < 3) then (idx c.aP x3).bind fun x4=>(if !x4.On then (if !(decide (x4=(⟨false,0,false,0⟩:cL))) then gI x3 true else (bS x4.aG 0 c.aG).bind fun x6=>(if !x6 then gI x3 true else (bS x4.Seen 0 2).bind fun x7=>gI x3 (!x7))) else (bS x4.aG 0 c.aG).bind fun x8=>(if !x8 then gI x3 true else (bS x4.Seen 0 2).bind fun x9=>gI x3 (!x9))) else some (.stop (Out.brk (()))))
def wL:(Out Unit Bool)→Option Bool
  | .brk (())=>DL
  | .ret r=>some r
def iZ(c:aD)(x1:Bool):Option Bool:=
  (if x1 then some false else (loop (lK c) 0).bind (wL))
def kR(c:aD):Option Bool:=
  (bS c.aG 0 100000).bind fun x10=>(if !x10 then iZ c true else iZ c (((c.aP.length:Int)) != 3))
def OZ(x5:List bC):Option ((List bC)):=
  some x5
def mY(l:List aJ):((List bC)×Int)→Option (Step ((List bC)×Int) ((List bC)))
  | (x3,x4)=>(if decide (x4 < ((l.length:Int))) then (idx l x4).bind fun x6=>need (x3.length+x6.Rows.length≤1073741824) (some (.next ((x3++x6.Rows,a8 (x4+1))))) else some (.stop (x3)))
def O0:((List bC))→Option ((List bC))
  | x5=>OZ x5
def rC(l:List aJ):Option ((List bC)):=
  (loop (mY l) ((([]:List bC),0))).bind (O0)
def nV(x1:Bool):Option Bool:=
  some x1
def g7(h:Int):Option Bool:=
  (bS h 32 223).bind fun x2=>(if x2 then nV (decide ((Int.tmod h 32) < 24)) else nV false)
def eE(h:Int):Option Int:=
  (g7 h).bind fun x1=>(if !x1 then some ((-1)) else some (Int.tmod h 32))
def LS:Option Bool:=
  some true
def lL(x5:List Int)(x6 x8:Int)(x9:Bool):Option (Step ((List Int)×Int) (Out Unit Bool)):=
  (if x9 then some (.stop (Out.ret false)) else need (x5.length+([x8]).length≤1073741824) (some (.next ((x5++([x8]),a8 (x6+1))))))
def lM(x1:(List bC)):((List Int)×Int)→Option (Step ((List Int)×Int) (Out Unit Bool))
  | (x5,x6)=>(if decide (x6 < ((x1.length:Int))) then (idx x1 x6).bind fun x7=>(eE x7.Handle).bind fun x8=>(if decide (x8 < 0) then lL x5 x6 x8 true else (bS x7.aG 0 100000).bind fun x10=>(if !x10 then lL x5 x6 x8 true else (tW x5 x8).bind fun x11=>lL x5 x6 x8 x11)) else some (.stop (Out.brk (()))))
def LU:(Out Unit Bool)→Option Bool
  | .brk (())=>LS
  | .ret r=>some r
def pT(x1:(List bC))(x2:Bool):Option Bool:=
  (if x2 then some false else (loop (lM x1) ((([]:List Int),0))).bind (LU))
def xG(l:List aJ):Option Bool:=
  (rC l).bind fun x1=>(if ((l.length:Int)) != 3 then pT x1 true else pT x1 (decide (24 < ((x1.length:Int)))))
def GX(z:List Int):Option Bool:=
  some (((z.length:Int)) == 3)
def uK(x2:Int)(x3:Bool):Option (Step Int (Out Unit Bool)):=
  (if x3 then some (.stop (Out.ret false)) else some (.next (a8 (x2+1))))
def o8(z:List Int):Int→Option (Step Int (Out Unit Bool))
  | x2=>(if decide (x2 < ((z.length:Int))) then (idx z x2).bind fun x4=>(if x4 != 0 then (idx z x2).bind fun x5=>(g7 x5).bind fun x6=>uK x2 (!x6) else uK x2 false) else some (.stop (Out.brk (()))))
def GY(z:List Int):(Out Unit Bool)→Option Bool
  | .brk (())=>GX z
  | .ret r=>some r
def CJ(z:List Int):Option Bool:=
  (loop (o8 z) 0).bind (GY z)
def z9(l:aA)(slot:Int):Option Bool:=
  (yN l).bind fun x1=>(tW x1 slot).bind fun x2=>some x2
def xH(m:Mem)(slot:Int):Option Int:=
  (kQ m.aC slot).bind fun x1=>(if decide (x1 < 0) then some 0 else (z9 m.aA slot).bind fun x2=>(if x2 then some 1 else (mW m.aC slot).bind fun x3=>(if decide (6 < x3) then some 2 else some 3)))
def rL(h:Int):Option Int:=
  (g7 h).bind fun x1=>(if !x1 then some 0 else some (a8 (Int.tdiv h 32)))
def lN(x1:Bool):Option Bool:=
  some x1
def rM(m:Mem)(h:Int):Option Bool:=
  (g7 h).bind fun x2=>(if x2 then (eE h).bind fun x3=>(xH m x3).bind fun x4=>(if x4 == 3 then (eE h).bind fun x5=>(mW m.aC x5).bind fun x6=>(rL h).bind fun x7=>lN (x6 == x7) else lN false) else lN false)
def O1:Option Bool:=
  some true
def rN(x4:Int)(x5:Bool):Option (Step Int (Out Unit Bool)):=
  (if x5 then some (.stop (Out.ret false)) else some (.next (a8 (x4+1))))
def mZ(b:aM)(x2:(List bC)):Int→Option (Step Int (Out Unit Bool))
  | x4=>(if decide (x4 < ((x2.length:Int))) then (idx x2 x4).bind fun x6=>(rM b.Mem x6.Handle).bind fun x7=>(if !x7 then rN x4 true else rN x4 (decide (b.aD.aG < x6.aG))) else some (.stop (Out.brk (()))))
def O2:(Out Unit Bool)→Option Bool
  | .brk (())=>O1
  | .ret r=>some r
def jY(b:aM)(x1:Bool):Option Bool:=
  (if x1 then some false else (rC b.aL).bind fun x2=>(loop (mZ b x2) 0).bind (O2))
def AA(b:aM):Option Bool:=
  (CI b.Mem).bind fun x8=>(if !x8 then jY b true else (kR b.aD).bind fun x9=>(if !x9 then jY b true else (xG b.aL).bind fun x10=>(if !x10 then jY b true else (CJ b.cB).bind fun x11=>jY b (!x11))))
def bK(s:Sub)(code:Int):Option Sub:=
  some ((⟨s.Kind,s.A,s.Pc,s.E,s.Row,s.B,s.H,s.Out,code,true⟩:Sub))
def LV:Option Int:=
  some ((-1))
def eX(size:Int):Int→Option (Step Int (Out Unit Int))
  | x2=>(if decide (x2 < 3) then (vX x2).bind fun x3=>(bS size 1 x3).bind fun x4=>(if x4 then some (.stop (Out.ret x2)) else some (.next (a8 (x2+1)))) else some (.stop (Out.brk (()))))
def LW:(Out Unit Int)→Option Int
  | .brk (())=>LV
  | .ret r=>some r
def xI(size:Int):Option Int:=
  (loop (eX size) 0).bind (LW)
def A1(s:aE)(x1:Int):Option (aE×Int):=
  some (((⟨(s.aK.take ((a8 (((s.aK.length:Int)) - 1)).toNat)).drop 0⟩:aE),x1))
def qP(s:aE):Option (aE×Int):=
  (if ((s.aK.length:Int)) == 0 then some ((s,(-1))) else need (0≤(a8 (((s.aK.length:Int)) - 1):Int)∧(a8 (((s.aK.length:Int)) - 1):Int)≤(s.aK.length:Int)) ((idx s.aK (a8 (((s.aK.length:Int)) - 1))).bind fun x2=>A1 s x2))
def LX(x7:List Int):Option ((List Int)):=
  some x7
def pU(at_:Int):((List Int)×Int×Int)→Option (Step ((List Int)×Int×Int) ((List Int)))
  | (x4,x5,x6)=>(if decide (0≤x6) then (idx x4 (a8 (at_+x6))).bind fun x8=>some (.next ((x4.set ((a8 (at_+x6)).toNat) (Int.tmod x5 256),a8 (Int.tdiv x5 256),a8 (x6 - 1)))) else some (.stop (x4)))
def LY:((List Int))→Option ((List Int))
  | x7=>LX x7
def rO(b:List Int)(at_ width n:Int):Option ((List Int)):=
  (loop (pU at_) ((b,n,a8 (width - 1)))).bind (LY)
def LZ(h:aC):Option (aC×(List Int)):=
  some ((h,([]:List Int)))
def wM(x2:Int):Option (Step Int (Out Unit (aC×(List Int)))):=
  some (.next (a8 (x2+1)))
def L4(h:aC)(c x2:Int)(x14 x15:List Int):Option (Step Int (Out Unit (aC×(List Int)))):=
  some (.stop (Out.ret (((⟨x15,h.Class.set x2.toNat c⟩:aC),x14))))
def wN(x2:Int)(x11:List Int)(x12:Int)(x17:List Int):Option (Step ((List Int)×Int×(List Int)) ((List Int)×(List Int))):=
  (kM x2 x12).bind fun x18=>need (x11.length+([x18]).length≤1073741824) (some (.next ((x11++([x18]),a8 (x12+1),x17))))
def pV(c x2:Int):((List Int)×Int×(List Int))→Option (Step ((List Int)×Int×(List Int)) ((List Int)×(List Int)))
  | (x11,x12,x13)=>(gR c).bind fun x16=>(if decide (x12 < x16) then (kM x2 x12).bind fun x19=>(qO x19 c).bind fun x20=>(rO x13 x20 4 1).bind fun x21=>wN x2 x11 x12 x21 else some (.stop ((x11,x13))))
def L5(h:aC)(c x2:Int):((List Int)×(List Int))→Option (Step Int (Out Unit (aC×(List Int))))
  | (x14,x15)=>L4 h c x2 x14 x15
def gJ(h:aC)(c:Int):Int→Option (Step Int (Out Unit (aC×(List Int))))
  | x2=>(if decide (x2 < 6) then (idx h.Class x2).bind fun x3=>(if x3 != ((-1)) then wM x2 else (idx h.Bytes (a8 (x2 * 64))).bind fun x4=>(idx (h.Bytes.set ((a8 (x2 * 64)).toNat) 171) (a8 ((a8 (x2 * 64))+1))).bind fun x5=>(gR c).bind fun x6=>(idx ((h.Bytes.set ((a8 (x2 * 64)).toNat) 171).set ((a8 ((a8 (x2 * 64))+1)).toNat) c) (a8 ((a8 (x2 * 64))+2))).bind fun x7=>(loop (pV c x2) ((([]:List Int),0,((h.Bytes.set ((a8 (x2 * 64)).toNat) 171).set ((a8 ((a8 (x2 * 64))+1)).toNat) c).set ((a8 ((a8 (x2 * 64))+2)).toNat) x6))).bind (L5 h c x2)) else some (.stop (Out.brk (()))))
def L6(h:aC):(Out Unit (aC×(List Int)))→Option (aC×(List Int))
  | .brk (())=>LZ h
  | .ret r=>some r
def nW(h:aC)(c:Int):Option (aC×(List Int)):=
  (loop (gJ h c) 0).bind (L6 h)
def wO(m:Mem)(c:Int)(x1:aC×(List Int))(x2:aE)(x3:Int):Option (Mem×Int):=
  some (((⟨x1.1,(⟨m.aA.Global.set c.toNat ((⟨x2.aK++((x1.2.take x1.2.length).drop ((1:Int).toNat))⟩:aE)),m.aA.aV⟩:aA)⟩:Mem),x3))
def xJ(m:Mem)(c:Int):Option (Mem×Int):=
  (nW m.aC c).bind fun x1=>(if ((x1.2.length:Int)) == 0 then some (((⟨x1.1,m.aA⟩:Mem),(-1))) else (idx m.aA.Global c).bind fun x2=>need (0≤(1:Int)∧(1:Int)≤(x1.2.length:Int)) (need (x2.aK.length+((x1.2.take x1.2.length).drop ((1:Int).toNat)).length≤1073741824) ((idx x1.2 0).bind fun x4=>wO m c x1 x2 x4)))
def nX(slot gen:Int)(x1:Bool):Option Int:=
  (if x1 then some 0 else some (a8 ((a8 (gen * 32))+slot)))
def A2(slot gen:Int):Option Int:=
  (bS slot 0 23).bind fun x2=>(if !x2 then nX slot gen true else (bS gen 1 6).bind fun x3=>nX slot gen (!x3))
def uL(m:Mem)(slot:Int):Option Int:=
  (mW m.aC slot).bind fun x1=>(A2 slot x1).bind fun x2=>some x2
def CK(b:aM)(s:Sub)(slot pc:Int):Option Sub:=
  (if decide (0≤slot) then (uL b.Mem slot).bind fun x1=>(bK ((⟨s.Kind,s.A,s.Pc,s.E,s.Row,s.B,s.H,x1,s.Code,s.cD⟩:Sub)) 0).bind fun x2=>some x2 else some ((⟨s.Kind,s.A,pc,s.E,s.Row,s.B,s.H,s.Out,s.Code,s.cD⟩:Sub)))
def nY(s:Sub)(x3:Int)(x5:Bool)(x6:aM):Option (aM×Sub):=
  (if x5 then (bK s 3).bind fun x7=>some ((x6,x7)) else (CK x6 s x3 (a8 (s.Pc+1))).bind fun x8=>some ((x6,x8)))
def hJ(s:Sub)(x3:Int)(x4:aM):Option (aM×Sub):=
  (if decide (x3 < 0) then nY s x3 (s.Pc == 3) x4 else nY s x3 false x4)
def nZ(b:aM)(s:Sub)(x1:Int)(x12:Bool):Option (aM×Sub):=
  (if x12 then (idx b.Mem.aA.Global x1).bind fun x13=>(qP x13).bind fun x14=>hJ s x14.2 ((⟨(⟨b.Mem.aC,(⟨b.Mem.aA.Global.set x1.toNat x14.1,b.Mem.aA.aV⟩:aA)⟩:Mem),b.aD,b.aL,b.cB⟩:aM)) else (if s.Pc == 2 then (xJ b.Mem x1).bind fun x15=>hJ s x15.2 ((⟨x15.1,b.aD,b.aL,b.cB⟩:aM)) else (bK s 1).bind fun x16=>some ((b,x16))))
def uM(b:aM)(w_:Int)(s:Sub):Option (aM×Sub):=
  (xI s.A).bind fun x1=>(if decide (x1 < 0) then (bK s 2).bind fun x2=>some ((b,x2)) else (if s.Pc == 0 then (mX w_ x1).bind fun x9=>(idx b.Mem.aA.aV x9).bind fun x10=>(qP x10).bind fun x11=>hJ s x11.2 ((⟨(⟨b.Mem.aC,(⟨b.Mem.aA.Global,b.Mem.aA.aV.set x9.toNat x11.1⟩:aA)⟩:Mem),b.aD,b.aL,b.cB⟩:aM)) else (if s.Pc == 1 then nZ b s x1 true else nZ b s x1 (s.Pc == 3))))
def L7:Option Bool:=
  some false
def lO(x3:Int)(x4:Bool):Option (Step Int (Out Unit Bool)):=
  (if x4 then some (.stop (Out.ret true)) else some (.next (a8 (x3+1))))
def i3(slot:Int)(x1:(List bC)):Int→Option (Step Int (Out Unit Bool))
  | x3=>(if decide (x3 < ((x1.length:Int))) then (idx x1 x3).bind fun x5=>(g7 x5.Handle).bind fun x6=>(if x6 then (eE x5.Handle).bind fun x7=>lO x3 (x7 == slot) else lO x3 false) else some (.stop (Out.brk (()))))
def L8:(Out Unit Bool)→Option Bool
  | .brk (())=>L7
  | .ret r=>some r
def xK(l:List aJ)(slot:Int):Option Bool:=
  (rC l).bind fun x1=>(loop (i3 slot x1) 0).bind (L8)
def rP(b:aM)(s:Sub)(x5:List aJ):Option (aM×Sub):=
  (bK s 0).bind fun x6=>some (((⟨b.Mem,b.aD,x5,b.cB⟩:aM),x6))
def mI(b:aM)(w_:Int)(s:Sub)(x3:Bool):Option (aM×Sub):=
  (if x3 then (bK s 4).bind fun x4=>some ((b,x4)) else (idx b.aL w_).bind fun x7=>need (x7.Rows.length+([(⟨s.A,s.E⟩:bC)]).length≤1073741824)<|rP b s (b.aL.set w_.toNat ((⟨x7.Rows++([(⟨s.A,s.E⟩:bC)])⟩:aJ))))
def rQ(b:aM)(w_:Int)(s:Sub):Option (aM×Sub):=
  (if s.Pc == 0 then some ((b,(⟨s.Kind,s.A,1,b.aD.aG,s.Row,s.B,s.H,s.Out,s.Code,s.cD⟩:Sub))) else (if s.Pc == 1 then (bS s.E 0 b.aD.aG).bind fun x1=>(if !x1 then (bK s 1).bind fun x2=>some ((b,x2)) else (rM b.Mem s.A).bind fun x8=>(if !x8 then mI b w_ s true else (eE s.A).bind fun x9=>(xK b.aL x9).bind fun x10=>mI b w_ s x10)) else (bK s 1).bind fun x11=>some ((b,x11))))
def jZ(w_:Int)(x1:aD)(x3:cL)(x4:Bool):Option (aD×Bool):=
  (if x4 then some ((x1,true)) else (if x3.Seen == 2 then (idx x1.aP w_).bind fun x5=>some (((⟨x1.aG,x1.aP.set w_.toNat ((⟨x5.On,x5.aG,true,0⟩:cL))⟩:aD),true)) else (idx x1.aP w_).bind fun x6=>some (((⟨x1.aG,x1.aP.set w_.toNat ((⟨x6.On,x6.aG,x6.cH,a8 (x3.Seen+1)⟩:cL))⟩:aD),false))))
def rR(c:aD)(w_ e_:Int)(x1:aD)(x2:Bool):Option (aD×Bool):=
  (if x2 then some ((x1,false)) else (idx c.aP w_).bind fun x3=>(if !x3.On then jZ w_ x1 x3 true else (if x3.cH then jZ w_ x1 x3 true else jZ w_ x1 x3 (x3.aG == e_))))
def AB(c:aD)(w_ e_:Int):Option (aD×Bool):=
  (kP c).bind fun x1=>(kR c).bind fun x7=>(if !x7 then rR c w_ e_ x1 true else (bS w_ 0 2).bind fun x8=>rR c w_ e_ x1 (!x8))
def rS(e_:Int)(x1:aD)(x2:Bool):Option (aD×Bool):=
  (if x2 then some ((x1,false)) else some (((⟨a8 (e_+1),x1.aP⟩:aD),true)))
def GF(c:aD)(e_:Int):Option (aD×Bool):=
  (kP c).bind fun x1=>(kR c).bind fun x3=>(if !x3 then rS e_ x1 true else (if c.aG != e_ then rS e_ x1 true else rS e_ x1 (e_ == 100000)))
def kS(b:aM)(s:Sub)(x3:aD×Bool)(x5:Int):Option (aM×Sub):=
  some (((⟨b.Mem,x3.1,b.aL,b.cB⟩:aM),(⟨s.Kind,s.A,x5,s.E,s.Row,a8 (s.B+1),s.H,s.Out,s.Code,s.cD⟩:Sub)))
def kT(b:aM)(s:Sub)(x6:aD×Bool)(x7:Int):Option (aM×Sub):=
  (bK ((⟨s.Kind,s.A,s.Pc,s.E,s.Row,s.B,s.H,x7,s.Code,s.cD⟩:Sub)) 0).bind fun x8=>some (((⟨b.Mem,x6.1,b.aL,b.cB⟩:aM),x8))
def pW(b:aM)(s:Sub):Option (aM×Sub):=
  (if s.Pc == 0 then some ((b,(⟨s.Kind,s.A,1,b.aD.aG,s.Row,0,s.H,s.Out,s.Code,s.cD⟩:Sub))) else (if s.Pc == 1 then (bS s.B 0 2).bind fun x1=>(if !x1 then (bK s 1).bind fun x2=>some ((b,x2)) else (AB b.aD s.B s.E).bind fun x3=>(if !x3.2 then (bK s 8).bind fun x4=>some (((⟨b.Mem,x3.1,b.aL,b.cB⟩:aM),x4)) else (if (a8 (s.B+1)) == 3 then kS b s x3 2 else kS b s x3 s.Pc))) else (if s.Pc == 2 then (GF b.aD s.E).bind fun x6=>(if x6.2 then kT b s x6 1 else kT b s x6 s.Out) else (bK s 1).bind fun x9=>some ((b,x9)))))
def xL(x1:Bool):Option Bool:=
  some x1
def BQ(r_:bC)(e_:Int):Option Bool:=
  (if decide (2≤e_) then xL (decide (r_.aG≤(a8 (e_ - 2)))) else xL false)
def L9:Option Int:=
  some ((-1))
def eF(l:List bC)(e_:Int):Int→Option (Step Int (Out Unit Int))
  | x2=>(if decide (x2 < ((l.length:Int))) then (idx l x2).bind fun x3=>(BQ x3 e_).bind fun x4=>(if x4 then some (.stop (Out.ret x2)) else some (.next (a8 (x2+1)))) else some (.stop (Out.brk (()))))
def MA:(Out Unit Int)→Option Int
  | .brk (())=>L9
  | .ret r=>some r
def rT(l:List bC)(from_ e_:Int):Option Int:=
  (loop (eF l e_) (if 0 < from_ then from_ else 0)).bind (MA)
def yO(x2 x3:List aE):Option aA:=
  some ((⟨x2,x3⟩:aA))
def ES(x:aA)(slot x1:Int)(x4:aE):Option aA:=
  yO x.Global (x.aV.set x1.toNat ((⟨x4.aK++([slot])⟩:aE)))
def ET(x:aA)(x5:List aE):Option aA:=
  yO x5 x.aV
def EU(x:aA)(w_ c slot:Int):Option aA:=
  (mX w_ c).bind fun x1=>(idx x.aV x1).bind fun x4=>(if decide (((x4.aK.length:Int)) < 2) then need (x4.aK.length+([slot]).length≤1073741824)<|ES x slot x1 x4 else (idx x.Global c).bind fun x6=>need (x6.aK.length+([slot]).length≤1073741824)<|ET x (x.Global.set c.toNat ((⟨x6.aK++([slot])⟩:aE))))
def yP(x:Mem)(x3:List Int)(x4 x5:List aE):Option Mem:=
  some ((⟨(⟨x3,x.aC.Class⟩:aC),(⟨x4,x5⟩:aA)⟩:Mem))
def yQ(x:Mem)(w_ slot x1 x2:Int)(x3:List Int):Option Mem:=
  (if decide ((a8 (x2+1))≤6) then (EU x.aA w_ x1 slot).bind fun x6=>yP x x3 x6.Global x6.aV else yP x x3 x.aA.Global x.aA.aV)
def AD(x:Mem)(w_ slot:Int):Option Mem:=
  (kQ x.aC slot).bind fun x1=>(mW x.aC slot).bind fun x2=>(qO slot x1).bind fun x7=>(rO x.aC.Bytes x7 4 (a8 (x2+1))).bind fun x8=>yQ x w_ slot x1 x2 x8
def kU(b:aM)(s:Sub)(x8:Int):Option (aM×Sub):=
  some ((b,(⟨s.Kind,s.A,x8,s.E,s.Row,a8 (s.B+1),s.H,s.Out,s.Code,s.cD⟩:Sub)))
def cS(b:aM)(s:Sub)(x5:Bool):Option (aM×Sub):=
  (if x5 then (bK s 1).bind fun x6=>some ((b,x6)) else (idx b.cB s.B).bind fun x7=>(if x7 == s.H then some ((b,(⟨s.Kind,s.A,1,s.E,a8 (s.Row+1),s.B,s.H,s.Out,s.Code,s.cD⟩:Sub))) else (if (a8 (s.B+1)) == 3 then kU b s 3 else kU b s s.Pc)))
def qQ(s:Sub)(x14:aM):Option (aM×Sub):=
  some ((x14,(⟨s.Kind,s.A,1,s.E,s.Row,s.B,s.H,a8 (s.Out+1),s.Code,s.cD⟩:Sub)))
def cT(b:aM)(w_:Int)(s:Sub)(x1:aJ)(x12:Bool):Option (aM×Sub):=
  (if x12 then (bK s 1).bind fun x13=>some ((b,x13)) else need (0≤(s.Row:Int)∧(s.Row:Int)≤(x1.Rows.length:Int)) (need (0≤(a8 (s.Row+1):Int)∧(a8 (s.Row+1):Int)≤(x1.Rows.length:Int)) (need (s.Row.toNat≤(a8 (s.Row+1)).toNat) ((eE s.H).bind fun x15=>(AD b.Mem w_ x15).bind fun x16=>qQ s ((⟨x16,b.aD,b.aL.set w_.toNat ((⟨((cK x1.Rows s.Row.toNat (x1.Rows.drop ((a8 (s.Row+1)).toNat))).take (s.Row.toNat+(x1.Rows.length - ((a8 (s.Row+1)).toNat)))).drop 0⟩:aJ)),b.cB⟩:aM))))))
def pX(b:aM)(w_:Int)(s:Sub):Option (aM×Sub):=
  (idx b.aL w_).bind fun x1=>(if s.Pc == 0 then some ((b,(⟨s.Kind,s.A,1,b.aD.aG,0,s.B,s.H,s.Out,s.Code,s.cD⟩:Sub))) else (if s.Pc == 1 then (rT x1.Rows s.Row s.E).bind fun x2=>(if decide (x2 < 0) then (bK s 0).bind fun x3=>some ((b,x3)) else (idx x1.Rows x2).bind fun x4=>some ((b,(⟨s.Kind,s.A,2,s.E,x2,0,x4.Handle,s.Out,s.Code,s.cD⟩:Sub)))) else (if s.Pc == 2 then (bS s.B 0 2).bind fun x9=>(if !x9 then cS b s true else (bS s.Row 0 (a8 (((x1.Rows.length:Int)) - 1))).bind fun x10=>(if !x10 then cS b s true else (idx x1.Rows s.Row).bind fun x11=>cS b s (x11.Handle != s.H))) else (if s.Pc == 3 then (bS s.Row 0 (a8 (((x1.Rows.length:Int)) - 1))).bind fun x17=>(if !x17 then cT b w_ s x1 true else (idx x1.Rows s.Row).bind fun x18=>(if x18.Handle != s.H then cT b w_ s x1 true else (BQ x18 s.E).bind fun x19=>cT b w_ s x1 (!x19))) else (bK s 1).bind fun x20=>some ((b,x20))))))
def o9(w_ e_:Int)(x1:aD)(x2:Bool):Option (aD×Bool):=
  (if x2 then some ((x1,false)) else (idx x1.aP w_).bind fun x3=>some (((⟨x1.aG,x1.aP.set w_.toNat ((⟨true,e_,false,0⟩:cL))⟩:aD),true)))
def CL(c:aD)(w_ e_:Int):Option (aD×Bool):=
  (kP c).bind fun x1=>(kR c).bind fun x4=>(if !x4 then o9 w_ e_ x1 true else (bS w_ 0 2).bind fun x5=>(if !x5 then o9 w_ e_ x1 true else (bS e_ 0 c.aG).bind fun x6=>o9 w_ e_ x1 (!x6)))
def AE(b:aM)(w_:Int)(s:Sub):Option (aM×Sub):=
  (if s.Pc == 0 then some ((b,(⟨s.Kind,s.A,1,b.aD.aG,s.Row,s.B,s.H,s.Out,s.Code,s.cD⟩:Sub))) else (if s.Pc == 1 then (CL b.aD w_ s.E).bind fun x1=>(if !x1.2 then (bK s 1).bind fun x2=>some (((⟨b.Mem,x1.1,b.aL,b.cB⟩:aM),x2)) else some (((⟨b.Mem,x1.1,b.aL,b.cB⟩:aM),(⟨s.Kind,s.A,2,s.E,s.Row,s.B,s.H,s.Out,s.Code,s.cD⟩:Sub)))) else (if s.Pc == 2 then (if b.aD.aG == s.E then (bK s 0).bind fun x3=>some ((b,x3)) else some ((b,(⟨s.Kind,s.A,0,s.E,s.Row,s.B,s.H,s.Out,s.Code,s.cD⟩:Sub)))) else (bK s 1).bind fun x4=>some ((b,x4)))))
def CM(b:aM)(w_:Int)(s:Sub):Option (aM×Sub):=
  (if s.cD then some ((b,s)) else (if s.Kind == 1 then (uM b w_ s).bind fun x1=>some ((x1.1,x1.2)) else (if s.Kind == 2 then (rQ b w_ s).bind fun x2=>some ((x2.1,x2.2)) else (if s.Kind == 3 then (pW b s).bind fun x3=>some ((x3.1,x3.2)) else (if s.Kind == 4 then (pX b w_ s).bind fun x4=>some ((x4.1,x4.2)) else (if s.Kind == 5 then (AE b w_ s).bind fun x5=>some ((x5.1,x5.2)) else (bK s 1).bind fun x6=>some ((b,x6))))))))
def O3(x10:Sub)(x11:aM):Option (aM×Sub):=
  some ((x11,x10))
def j3(w_ x7:Int)(x8:Sub)(x12:Bool)(x13:aM):Option (Step (Int×Sub×aM) (Sub×aM)):=
  (if x12 then (CM x13 w_ x8).bind fun x14=>some (.next ((a8 (x7+1),x14.2,x14.1))) else some (.stop ((x8,x13))))
def m0(w_:Int):(Int×Sub×aM)→Option (Step (Int×Sub×aM) (Sub×aM))
  | (x7,x8,x9)=>(if decide (x7 < 200) then j3 w_ x7 x8 (!x8.cD) x9 else j3 w_ x7 x8 false x9)
def O4:(Sub×aM)→Option (aM×Sub)
  | (x10,x11)=>O3 x10 x11
def rU(w_:Int)(s:Sub)(x2:Bool)(x3:aM):Option (aM×Sub):=
  (if x2 then some ((x3,s)) else (loop (m0 w_) ((0,s,x3))).bind (O4))
def AF(b:aM)(w_:Int)(s:Sub):Option (aM×Sub):=
  (xB b).bind fun x1=>(AA b).bind fun x15=>(if !x15 then rU w_ s true x1 else (bS w_ 0 2).bind fun x16=>rU w_ s (!x16) x1)
def EV(x5:List Int):Option ((List Int)):=
  some x5
def yR(a_:List Int):((List Int)×Int)→Option (Step ((List Int)×Int) ((List Int)))
  | (x3,x4)=>(if decide (x4 < ((a_.length:Int))) then (idx a_ x4).bind fun x6=>(idx x3 x4).bind fun x7=>some (.next ((x3.set x4.toNat x6,a8 (x4+1)))) else some (.stop (x3)))
def EW:((List Int))→Option ((List Int))
  | x5=>EV x5
def m3(a_:List Int):Option ((List Int)):=
  need (0≤((a_.length:Int):Int)∧((a_.length:Int):Int)≤4294967296) ((loop (yR a_) ((List.replicate (((a_.length:Int)).toNat) 0,0))).bind (EW))
def EX(a_:aC):Option aC:=
  (m3 a_.Bytes).bind fun x1=>(m3 a_.Class).bind fun x2=>some ((⟨x1,x2⟩:aC))
def CN(a_:aE):Option aE:=
  (m3 a_.aK).bind fun x1=>some ((⟨x1⟩:aE))
def BR(x5:List aE):Option ((List aE)):=
  some x5
def tX(a_:List aE):((List aE)×Int)→Option (Step ((List aE)×Int) ((List aE)))
  | (x3,x4)=>(if decide (x4 < ((a_.length:Int))) then (idx a_ x4).bind fun x6=>(CN x6).bind fun x7=>(idx x3 x4).bind fun x8=>some (.next ((x3.set x4.toNat x7,a8 (x4+1)))) else some (.stop (x3)))
def BS:((List aE))→Option ((List aE))
  | x5=>BR x5
def pA(a_:List aE):Option ((List aE)):=
  need (0≤((a_.length:Int):Int)∧((a_.length:Int):Int)≤4294967296) ((loop (tX a_) ((List.replicate (((a_.length:Int)).toNat) ((⟨[]⟩:aE)),0))).bind (BS))
def CP(a_:aA):Option aA:=
  (pA a_.Global).bind fun x1=>(pA a_.aV).bind fun x2=>some ((⟨x1,x2⟩:aA))
def CQ(a_:Mem):Option Mem:=
  (EX a_.aC).bind fun x1=>(CP a_.aA).bind fun x2=>some ((⟨x1,x2⟩:Mem))
def H3(a_:cL):Option cL:=
  some a_
def EY(x5:List cL):Option ((List cL)):=
  some x5
def yS(a_:List cL):((List cL)×Int)→Option (Step ((List cL)×Int) ((List cL)))
  | (x3,x4)=>(if decide (x4 < ((a_.length:Int))) then (idx a_ x4).bind fun x6=>(H3 x6).bind fun x7=>(idx x3 x4).bind fun x8=>some (.next ((x3.set x4.toNat x7,a8 (x4+1)))) else some (.stop (x3)))
def EZ:((List cL))→Option ((List cL))
  | x5=>EY x5
def AG(a_:List cL):Option ((List cL)):=
  need (0≤((a_.length:Int):Int)∧((a_.length:Int):Int)≤4294967296) ((loop (yS a_) ((List.replicate (((a_.length:Int)).toNat) ((⟨false,0,false,0⟩:cL)),0))).bind (EZ))
def xM(a_:aD):Option aD:=
  (AG a_.aP).bind fun x1=>some ((⟨a_.aG,x1⟩:aD))
def E0(a_:bC):Option bC:=
  some a_
def DM(x5:List bC):Option ((List bC)):=
  some x5
def wP(a_:List bC):((List bC)×Int)→Option (Step ((List bC)×Int) ((List bC)))
  | (x3,x4)=>(if decide (x4 < ((a_.length:Int))) then (idx a_ x4).bind fun x6=>(E0 x6).bind fun x7=>(idx x3 x4).bind fun x8=>some (.next ((x3.set x4.toNat x7,a8 (x4+1)))) else some (.stop (x3)))
def DN:((List bC))→Option ((List bC))
  | x5=>DM x5
def xN(a_:List bC):Option ((List bC)):=
  need (0≤((a_.length:Int):Int)∧((a_.length:Int):Int)≤4294967296) ((loop (wP a_) ((List.replicate (((a_.length:Int)).toNat) ((⟨0,0⟩:bC)),0))).bind (DN))
def CR(a_:aJ):Option aJ:=
  (xN a_.Rows).bind fun x1=>some ((⟨x1⟩:aJ))
def BT(x5:List aJ):Option ((List aJ)):=
  some x5
def tY(a_:List aJ):((List aJ)×Int)→Option (Step ((List aJ)×Int) ((List aJ)))
  | (x3,x4)=>(if decide (x4 < ((a_.length:Int))) then (idx a_ x4).bind fun x6=>(CR x6).bind fun x7=>(idx x3 x4).bind fun x8=>some (.next ((x3.set x4.toNat x7,a8 (x4+1)))) else some (.stop (x3)))
def BU:((List aJ))→Option ((List aJ))
  | x5=>BT x5
def uN(a_:List aJ):Option ((List aJ)):=
  need (0≤((a_.length:Int):Int)∧((a_.length:Int):Int)≤4294967296) ((loop (tY a_) ((List.replicate (((a_.length:Int)).toNat) ((⟨[]⟩:aJ)),0))).bind (BU))
def m4(a_:aM):Option aM:=
  (CQ a_.Mem).bind fun x1=>(xM a_.aD).bind fun x2=>(uN a_.aL).bind fun x3=>(m3 a_.cB).bind fun x4=>some ((⟨x1,x2,x3,x4⟩:aM))
def yT(a_:Sub):Option Sub:=
  some a_
def eM(s:List Int):Option ((List Int)):=
  need ((([]:List Int)).length+s.length≤1073741824) (some ((([]:List Int))++s))
def lX(h:aC):Option aC:=
  (eM h.Bytes).bind fun x1=>(eM h.Class).bind fun x2=>some ((⟨x1,x2⟩:aC))
def I6(x5 x10:List aE):Option aA:=
  some ((⟨x5,x10⟩:aA))
def rV(x8:Int)(x12:List aE):Option (Step (Int×(List aE)) ((List aE))):=
  some (.next ((a8 (x8+1),x12)))
def rW(l:aA):(Int×(List aE))→Option (Step (Int×(List aE)) ((List aE)))
  | (x8,x9)=>(if decide (x8 < ((l.aV.length:Int))) then (idx l.aV x8).bind fun x11=>(eM x11.aK).bind fun x13=>need (x9.length+([(⟨x13⟩:aE)]).length≤1073741824)<|rV x8 (x9++([(⟨x13⟩:aE)])) else some (.stop (x9)))
def I7(x5:List aE):((List aE))→Option aA
  | x10=>I6 x5 x10
def AH(l:aA)(x5:List aE):Option aA:=
  (loop (rW l) ((0,[]))).bind (I7 x5)
def rX(x3:Int)(x15:List aE):Option (Step (Int×(List aE)) ((List aE))):=
  some (.next ((a8 (x3+1),x15)))
def rY(l:aA):(Int×(List aE))→Option (Step (Int×(List aE)) ((List aE)))
  | (x3,x4)=>(if decide (x3 < ((l.Global.length:Int))) then (idx l.Global x3).bind fun x14=>(eM x14.aK).bind fun x16=>need (x4.length+([(⟨x16⟩:aE)]).length≤1073741824)<|rX x3 (x4++([(⟨x16⟩:aE)])) else some (.stop (x4)))
def AI(l:aA):((List aE))→Option aA
  | x5=>AH l x5
def d8(l:aA):Option aA:=
  (loop (rY l) ((0,[]))).bind (AI l)
def xO(m:Mem):Option Mem:=
  (lX m.aC).bind fun x1=>(d8 m.aA).bind fun x2=>some ((⟨x1,x2⟩:Mem))
def n9(s:List cL):Option ((List cL)):=
  need ((([]:List cL)).length+s.length≤1073741824) (some ((([]:List cL))++s))
def iF(c:aD):Option aD:=
  (n9 c.aP).bind fun x1=>some ((⟨c.aG,x1⟩:aD))
def mJ(s:List bC):Option ((List bC)):=
  need ((([]:List bC)).length+s.length≤1073741824) (some ((([]:List bC))++s))
def I8(x5:List aJ):Option ((List aJ)):=
  some x5
def rZ(l:List aJ):((List aJ)×Int)→Option (Step ((List aJ)×Int) ((List aJ)))
  | (x3,x4)=>(if decide (x4 < ((l.length:Int))) then (idx l x4).bind fun x6=>(mJ x6.Rows).bind fun x7=>need (x3.length+([(⟨x7⟩:aJ)]).length≤1073741824) (some (.next ((x3++([(⟨x7⟩:aJ)]),a8 (x4+1))))) else some (.stop (x3)))
def I9:((List aJ))→Option ((List aJ))
  | x5=>I8 x5
def f7(l:List aJ):Option ((List aJ)):=
  (loop (rZ l) ((([]:List aJ),0))).bind (I9)
def uO(b:aM):Option aM:=
  (xO b.Mem).bind fun x1=>(iF b.aD).bind fun x2=>(f7 b.aL).bind fun x3=>(eM b.cB).bind fun x4=>some ((⟨x1,x2,x3,x4⟩:aM))
def rD:Option Int:=
  some ((-1))
def eN(s:List Int)(f:(Int→Option Bool)):Int→Option (Step Int (Out Unit Int))
  | x2=>(if decide (x2 < ((s.length:Int))) then (idx s x2).bind fun x3=>(f x3).bind fun x4=>(if x4 then some (.stop (Out.ret x2)) else some (.next (a8 (x2+1)))) else some (.stop (Out.brk (()))))
def j4:(Out Unit Int)→Option Int
  | .brk (())=>rD
  | .ret r=>some r
def m5(s:List Int)(f:(Int→Option Bool)):Option Int:=
  (loop (eN s f) 0).bind (j4)
def dA(s:List Int)(f:(Int→Option Bool)):Option Bool:=
  (m5 s f).bind fun x1=>some (decide (0≤x1))
def j5(x1:Bool):Option Bool:=
  some x1
def b7(n low high:Int):Option Bool:=
  (if decide (low≤n) then j5 (decide (n≤high)) else j5 false)
def E1(x:Int):Option Bool:=
  (b7 x 0 255).bind fun x1=>some x1
def r9(x:Int):Option Bool:=
  (E1 x).bind fun x1=>some (!x1)
def pY(x1:Bool):Option Bool:=
  some x1
def xP(b:List Int):Option Bool:=
  (if decide (((b.length:Int))≤1000) then (dA b ((fun y0=>r9 y0))).bind fun x2=>pY (!x2) else pY false)
def uP(c:Int):Option Bool:=
  (b7 c ((-1)) 2).bind fun x1=>some (!x1)
def j6(x1:Bool):Option Bool:=
  some x1
def vY(h:aC):Option Bool:=
  (if ((h.Bytes.length:Int)) == 384 then (xP h.Bytes).bind fun x2=>(if x2 then (if ((h.Class.length:Int)) == 6 then (dA h.Class ((fun y0=>uP y0))).bind fun x3=>j6 (!x3) else j6 false) else j6 false) else j6 false)
def MB(x5:Int):Option Int:=
  some x5
def lP(b:List Int)(at_ width:Int):(Int×Int)→Option (Step (Int×Int) Int)
  | (x3,x4)=>(if decide (x4 < ((((b.take ((a8 (at_+width)).toNat)).drop at_.toNat).length:Int))) then (idx ((b.take ((a8 (at_+width)).toNat)).drop at_.toNat) x4).bind fun x6=>some (.next ((a8 ((a8 (256 * x3))+x6),a8 (x4+1)))) else some (.stop (x3)))
def MC:Int→Option Int
  | x5=>MB x5
def sA(b:List Int)(at_ width:Int):Option Int:=
  need (0≤(at_:Int)∧(at_:Int)≤(a8 (at_+width):Int)∧(a8 (at_+width):Int)≤(b.length:Int)) ((loop (lP b at_ width) ((0,0))).bind (MC))
def uQ(x:Int):Option Bool:=
  some (x != 0)
def vZ(b:List Int):Option Bool:=
  (dA b ((fun y0=>uQ y0))).bind fun x1=>some (!x1)
def fS(c:Int):Option Bool:=
  (b7 c 0 2).bind fun x1=>some x1
def v7(c:Int):Option Int:=
  (fS c).bind fun x1=>(if !x1 then some 0 else (idx ([8,16,40]:List Int) c).bind fun x2=>some x2)
def lY(c:Int):Option Int:=
  (fS c).bind fun x1=>(if !x1 then some 0 else (v7 c).bind fun x2=>some (a8 (4+x2)))
def jA(c:Int):Option Int:=
  (fS c).bind fun x1=>(if !x1 then some 0 else (lY c).bind fun x2=>need (x2≠0) (some (a8 (Int.tdiv 56 x2))))
def O5:Option Bool:=
  some true
def j7(h:aC)(page x1 x4:Int):Int→Option (Step Int (Out Unit Bool))
  | x6=>(if decide (x6 < x4) then (lY x1).bind fun x7=>(sA ((h.Bytes.take ((a8 ((a8 (page+1)) * 64)).toNat)).drop ((a8 (page * 64)).toNat)) (a8 (8+(a8 (x6 * x7)))) 4).bind fun x8=>(b7 x8 1 7).bind fun x9=>(if !x9 then some (.stop (Out.ret false)) else some (.next (a8 (x6+1)))) else some (.stop (Out.brk (()))))
def O6:(Out Unit Bool)→Option Bool
  | .brk (())=>O5
  | .ret r=>some r
def eS(h:aC)(page x1:Int)(x3:Bool):Option Bool:=
  (if x3 then some false else (jA x1).bind fun x4=>(loop (j7 h page x1 x4) 0).bind (O6))
def AJ(h:aC)(page:Int):Option Bool:=
  (idx h.Class page).bind fun x1=>need (0≤(a8 (page * 64):Int)∧(a8 (page * 64):Int)≤(a8 ((a8 (page+1)) * 64):Int)∧(a8 ((a8 (page+1)) * 64):Int)≤(h.Bytes.length:Int)) ((if decide (x1 < 0) then (vZ ((h.Bytes.take ((a8 ((a8 (page+1)) * 64)).toNat)).drop ((a8 (page * 64)).toNat))).bind fun x2=>some x2 else (idx ((h.Bytes.take ((a8 ((a8 (page+1)) * 64)).toNat)).drop ((a8 (page * 64)).toNat)) 0).bind fun x10=>(if x10 != 171 then eS h page x1 true else (idx ((h.Bytes.take ((a8 ((a8 (page+1)) * 64)).toNat)).drop ((a8 (page * 64)).toNat)) 1).bind fun x11=>(if x11 != x1 then eS h page x1 true else (idx ((h.Bytes.take ((a8 ((a8 (page+1)) * 64)).toNat)).drop ((a8 (page * 64)).toNat)) 2).bind fun x12=>(jA x1).bind fun x13=>(if x12 != x13 then eS h page x1 true else need (0≤(3:Int)∧(3:Int)≤(8:Int)∧(8:Int)≤(((h.Bytes.take ((a8 ((a8 (page+1)) * 64)).toNat)).drop ((a8 (page * 64)).toNat)).length:Int)) ((vZ ((((h.Bytes.take ((a8 ((a8 (page+1)) * 64)).toNat)).drop ((a8 (page * 64)).toNat)).take ((8:Int).toNat)).drop ((3:Int).toNat))).bind fun x14=>eS h page x1 (!x14)))))))
def O7:Option Bool:=
  some true
def m6(h:aC):Int→Option (Step Int (Out Unit Bool))
  | x3=>(if decide (x3 < 6) then (AJ h x3).bind fun x4=>(if !x4 then some (.stop (Out.ret false)) else some (.next (a8 (x3+1)))) else some (.stop (Out.brk (()))))
def O8:(Out Unit Bool)→Option Bool
  | .brk (())=>O7
  | .ret r=>some r
def v8(h:aC):Option Bool:=
  (vY h).bind fun x1=>(if !x1 then some false else (loop (m6 h) 0).bind (O8))
def g8(slot:Int):Option Bool:=
  (b7 slot 0 23).bind fun x1=>some x1
def kV(x10:List Raw):Option ((List Raw)):=
  some x10
def dR(slices:List (List Raw)):((List Raw)×Int)→Option (Step ((List Raw)×Int) ((List Raw)))
  | (x8,x9)=>(if decide (x9 < ((slices.length:Int))) then (idx slices x9).bind fun x11=>need (x8.length+x11.length≤1073741824) (some (.next ((x8++x11,a8 (x9+1))))) else some (.stop (x8)))
def CS:((List Raw))→Option ((List Raw))
  | x10=>kV x10
def gT(slices:List (List Raw))(x5:Int):Option ((List Raw)):=
  need (0≤x5∧x5≤1073741824) ((loop (dR slices) (([],0))).bind (CS))
def dF(slices:List (List Raw)):(Int×Int)→Option (Step (Int×Int) Int)
  | (x3,x4)=>(if decide (x4 < ((slices.length:Int))) then (idx slices x4).bind fun x12=>(if decide ((a8 (x3+((x12.length:Int)))) < 0) then none else some (.next ((a8 (x3+((x12.length:Int))),a8 (x4+1))))) else some (.stop (x3)))
def sB(slices:List (List Raw)):Int→Option ((List Raw))
  | x5=>gT slices x5
def jN(slices:List (List Raw)):Option ((List Raw)):=
  (loop (dF slices) ((0,0))).bind (sB slices)
theorem zN{u1 u2:List Raw}(h:u1.length+u2.length≤1073741824):loop (dF [u1,u2]) (0,0)=some ((u1.length+u2.length:Nat):Int):=by
  have e1:a8 (u1.length:Int)=u1.length:=AY (by omega)
  have e2:a8 ((u1.length:Int)+(u2.length:Int))=((u1.length+u2.length:Nat):Int):=by rw [AY (by omega)];rfl
  have e3:a8 (0+1)=1:=AY (by omega)
  have e4:a8 2=2:=AY (by omega)
  have n1:¬(u1.length:Int) < 0:=by omega
  have n2:¬((u1.length+u2.length:Nat):Int) < 0:=by omega
  rw [bW (s':=((u1.length:Int),1)) ?_,bW (s':=(((u1.length+u2.length:Nat):Int),2)) ?_,bP (r:=((u1.length+u2.length:Nat):Int)) ?_]
  · simp [dF]
  · simp [dF,idx,e2,e4]
    omega
  · simp [dF,idx,e1,n1]
    exact e3
theorem BV{u1 u2:List Raw}{n1 n2:Nat}(hl:u1.length=n1∧u2.length=n2)(h:n1+n2≤1073741824):jN [u1,u2]=some (u1++u2):=by
  obtain⟨rfl,rfl⟩:=hl
  have e3:a8 (0+1)=1:=AY (by omega)
  have e4:a8 2=2:=AY (by omega)
  unfold jN
  rw [zN h]
  simp only [Option.bind_some,sB,gT]
  rw [bE (by omega),bW (s':=(u1,1)) ?_,bW (s':=(u1++u2,2)) ?_,bP (r:=u1++u2) ?_]
  · rfl
  · simp [dR]
  · simp [dR,idx,e4,bE h]
  · have h1:u1.length≤1073741824:=by omega
    simp [dR,idx,bE h1]
    exact e3
def wQ:Option Bool:=
  some true
def pZ(x4:Int)(x12:List Bool):Option (Step (Int×(List Bool)) (Out Unit Bool)):=
  some (.next ((a8 (x4+1),x12)))
def i4(x10:Int)(x11:List Bool)(x13:Int)(x14:Bool):Option (Step (Int×(List Bool)) (Out ((List Bool)) Bool)):=
  (if x14 then some (.stop (Out.ret false)) else need (0≤(x13:Int)∧(x13:Int) < 24) ((idx (x11:List Bool) x13).bind fun x15=>some (.next ((a8 (x10+1),x11.set (x13.toNat) true)))))
def gK(x6:aE):(Int×(List Bool))→Option (Step (Int×(List Bool)) (Out ((List Bool)) Bool))
  | (x10,x11)=>(if decide (x10 < ((x6.aK.length:Int))) then (idx x6.aK x10).bind fun x13=>(g8 x13).bind fun x16=>(if !x16 then i4 x10 x11 x13 true else need (0≤(x13:Int)∧(x13:Int) < 24) ((idx (x11:List Bool) x13).bind fun x17=>i4 x10 x11 x13 x17)) else some (.stop (Out.brk x11)))
def DO(x4:Int):(Out ((List Bool)) Bool)→Option (Step (Int×(List Bool)) (Out Unit Bool))
  | .brk x12=>pZ x4 x12
  | .ret r=>some (.stop (Out.ret r))
def gL(x4:Int)(x5:List Bool)(x6:aE)(x7:Bool):Option (Step (Int×(List Bool)) (Out Unit Bool)):=
  (if x7 then some (.stop (Out.ret false)) else (loop (gK x6) ((0,x5))).bind (DO x4))
def gM(l:aA):(Int×(List Bool))→Option (Step (Int×(List Bool)) (Out Unit Bool))
  | (x4,x5)=>(if decide (x4 < (((l.aV++l.Global).length:Int))) then (idx (l.aV++l.Global) x4).bind fun x6=>(if decide (x4 < ((l.aV.length:Int))) then gL x4 x5 x6 (decide (2 < ((x6.aK.length:Int)))) else gL x4 x5 x6 false) else some (.stop (Out.brk (()))))
def MD:(Out Unit Bool)→Option Bool
  | .brk (())=>wQ
  | .ret r=>some r
def lQ(l:aA)(x1:Bool):Option Bool:=
  (if x1 then some false else need (l.aV.length+l.Global.length≤1073741824) ((loop (gM l) ((0,[false,false,false,false,false,false,false,false,false,false,false,false,false,false,false,false,false,false,false,false,false,false,false,false]))).bind (MD)))
def fT(l:aA):Option Bool:=
  (if ((l.Global.length:Int)) != 3 then lQ l true else lQ l (((l.aV.length:Int)) != 9))
def pB(slot c:Int)(x1:Bool):Option Int:=
  (if x1 then some ((-1)) else (lY c).bind fun x2=>some (a8 ((a8 ((a8 ((a8 (Int.tdiv slot 4)) * 64))+8))+(a8 ((Int.tmod slot 4) * x2)))))
def qR(slot c:Int):Option Int:=
  (g8 slot).bind fun x3=>(if !x3 then pB slot c true else (fS c).bind fun x4=>(if !x4 then pB slot c true else (jA c).bind fun x5=>pB slot c (decide (x5≤(Int.tmod slot 4)))))
def p5(h:aC)(slot:Int)(x1:Bool):Option Int:=
  (if x1 then some ((-1)) else (idx h.Class (a8 (Int.tdiv slot 4))).bind fun x2=>some x2)
def kW(h:aC)(slot:Int):Option Int:=
  (g8 slot).bind fun x3=>(if !x3 then p5 h slot true else (idx h.Class (a8 (Int.tdiv slot 4))).bind fun x4=>(qR slot x4).bind fun x5=>p5 h slot (decide (x5 < 0)))
def sC(h:aC)(slot:Int):Option Int:=
  (vY h).bind fun x1=>(if !x1 then some ((-1)) else (kW h slot).bind fun x2=>some x2)
def qS(h:aC)(slot:Int):Option Int:=
  (sC h slot).bind fun x1=>(if decide (x1 < 0) then some 0 else (qR slot x1).bind fun x2=>(sA h.Bytes x2 4).bind fun x3=>some x3)
def KH:Option Bool:=
  some true
def oA(x2:Int)(x4:Bool):Option (Step Int (Out Unit Bool)):=
  (if x4 then some (.stop (Out.ret false)) else some (.next (a8 (x2+1))))
def hO(h:aC)(s:aE)(c:Int):Int→Option (Step Int (Out Unit Bool))
  | x2=>(if decide (x2 < ((s.aK.length:Int))) then (idx s.aK x2).bind fun x3=>(kW h x3).bind fun x5=>(if x5 != c then oA x2 true else (qS h x3).bind fun x6=>oA x2 (decide (6 < x6))) else some (.stop (Out.brk (()))))
def KI:(Out Unit Bool)→Option Bool
  | .brk (())=>KH
  | .ret r=>some r
def pC(h:aC)(s:aE)(c:Int):Option Bool:=
  (loop (hO h s c) 0).bind (KI)
def RL:Option Bool:=
  some true
def lZ(m:Mem):Int→Option (Step Int (Out Unit Bool))
  | x5=>(if decide (x5 < ((m.aA.aV.length:Int))) then (idx m.aA.aV x5).bind fun x6=>(pC m.aC x6 (Int.tmod x5 3)).bind fun x7=>(if !x7 then some (.stop (Out.ret false)) else some (.next (a8 (x5+1)))) else some (.stop (Out.brk (()))))
def RM:(Out Unit Bool)→Option Bool
  | .brk (())=>RL
  | .ret r=>some r
def GZ(m:Mem):Option Bool:=
  (loop (lZ m) 0).bind (RM)
def l4(m:Mem):Int→Option (Step Int (Out Unit Bool))
  | x3=>(if decide (x3 < ((m.aA.Global.length:Int))) then (idx m.aA.Global x3).bind fun x8=>(pC m.aC x8 x3).bind fun x9=>(if !x9 then some (.stop (Out.ret false)) else some (.next (a8 (x3+1)))) else some (.stop (Out.brk (()))))
def G0(m:Mem):(Out Unit Bool)→Option Bool
  | .brk (())=>GZ m
  | .ret r=>some r
def uR(m:Mem)(x1:Bool):Option Bool:=
  (if x1 then some false else (loop (l4 m) 0).bind (G0 m))
def CT(m:Mem):Option Bool:=
  (v8 m.aC).bind fun x10=>(if !x10 then uR m true else (fT m.aA).bind fun x11=>uR m (!x11))
def rE:Option Int:=
  some ((-1))
def eO(s:List cL)(f:(cL→Option Bool)):Int→Option (Step Int (Out Unit Int))
  | x2=>(if decide (x2 < ((s.length:Int))) then (idx s x2).bind fun x3=>(f x3).bind fun x4=>(if x4 then some (.stop (Out.ret x2)) else some (.next (a8 (x2+1)))) else some (.stop (Out.brk (()))))
def j8:(Out Unit Int)→Option Int
  | .brk (())=>rE
  | .ret r=>some r
def m7(s:List cL)(f:(cL→Option Bool)):Option Int:=
  (loop (eO s f) 0).bind (j8)
def gC(s:List cL)(f:(cL→Option Bool)):Option Bool:=
  (m7 s f).bind fun x1=>some (decide (0≤x1))
def gD(x1:Bool):Option Bool:=
  some x1
def m8(p:cL)(k0:aD):Option Bool:=
  (b7 p.aG 0 k0.aG).bind fun x2=>(if !x2 then gD true else (b7 p.Seen 0 2).bind fun x3=>(if !x3 then gD true else (if !p.On then gD (!(decide (p=(⟨false,0,false,0⟩:cL)))) else gD false)))
def lR(x1:Bool):Option Bool:=
  some x1
def kX(c:aD):Option Bool:=
  (b7 c.aG 0 100000).bind fun x2=>(if x2 then (if ((c.aP.length:Int)) == 3 then (gC c.aP ((fun y0=>m8 y0 c))).bind fun x3=>lR (!x3) else lR false) else lR false)
def hQ(x1:Bool):Option Bool:=
  some x1
def fU(h:Int):Option Bool:=
  (b7 h 32 223).bind fun x2=>(if x2 then hQ (decide ((Int.tmod h 32) < 24)) else hQ false)
def sD(x5:Int):Option Int:=
  some x5
def eT(l:List aJ):(Int×Int)→Option (Step (Int×Int) Int)
  | (x3,x4)=>(if decide (x4 < ((l.length:Int))) then (idx l x4).bind fun x6=>some (.next ((a8 (x3+((x6.Rows.length:Int))),a8 (x4+1)))) else some (.stop (x3)))
def JA:Int→Option Int
  | x5=>sD x5
def m9(l:List aJ):Option Int:=
  (loop (eT l) ((0,0))).bind (JA)
def p7(l:List aJ):Option Bool:=
  (m9 l).bind fun x5=>some (decide (x5≤24))
def p8(x3:Int)(x11:List Bool):Option (Step (Int×(List Bool)) (Out Unit Bool)):=
  some (.next ((a8 (x3+1),x11)))
def eY(x9:Int)(x10:List Bool)(x12:bC)(x13:Bool):Option (Step (Int×(List Bool)) (Out ((List Bool)) Bool)):=
  (if x13 then some (.stop (Out.ret false)) else need (0≤(Int.tmod x12.Handle 32:Int)∧(Int.tmod x12.Handle 32:Int) < 24) ((idx (x10:List Bool) (Int.tmod x12.Handle 32)).bind fun x14=>some (.next ((a8 (x9+1),x10.set ((Int.tmod x12.Handle 32).toNat) true)))))
def gN(x6:aJ):(Int×(List Bool))→Option (Step (Int×(List Bool)) (Out ((List Bool)) Bool))
  | (x9,x10)=>(if decide (x9 < ((x6.Rows.length:Int))) then (idx x6.Rows x9).bind fun x12=>(fU x12.Handle).bind fun x15=>(if !x15 then eY x9 x10 x12 true else (b7 x12.aG 0 100000).bind fun x16=>(if !x16 then eY x9 x10 x12 true else need (0≤(Int.tmod x12.Handle 32:Int)∧(Int.tmod x12.Handle 32:Int) < 24) ((idx (x10:List Bool) (Int.tmod x12.Handle 32)).bind fun x17=>eY x9 x10 x12 x17))) else some (.stop (Out.brk x10)))
def DP(x3:Int):(Out ((List Bool)) Bool)→Option (Step (Int×(List Bool)) (Out Unit Bool))
  | .brk x11=>p8 x3 x11
  | .ret r=>some (.stop (Out.ret r))
def gO(l:List aJ):(Int×(List Bool))→Option (Step (Int×(List Bool)) (Out Unit Bool))
  | (x3,x4)=>(if decide (x3 < ((l.length:Int))) then (idx l x3).bind fun x6=>(loop (gN x6) ((0,x4))).bind (DP x3) else some (.stop (Out.brk (()))))
def DQ(l:List aJ):(Out Unit Bool)→Option Bool
  | .brk (())=>p7 l
  | .ret r=>some r
def gU(l:List aJ):Option Bool:=
  (if ((l.length:Int)) != 3 then some false else (loop (gO l) ((0,[false,false,false,false,false,false,false,false,false,false,false,false,false,false,false,false,false,false,false,false,false,false,false,false]))).bind (DQ l))
def sE(x1:Bool):Option Bool:=
  some x1
def E2(h:Int):Option Bool:=
  (if h == 0 then sE true else (fU h).bind fun x2=>sE x2)
def xQ(h:Int):Option Bool:=
  (E2 h).bind fun x1=>some (!x1)
def uS(x1:Bool):Option Bool:=
  some x1
def CU(z:List Int):Option Bool:=
  (if ((z.length:Int)) == 3 then (dA z ((fun y0=>xQ y0))).bind fun x2=>uS (!x2) else uS false)
def oO:Option Int:=
  some ((-1))
def fF(s:List aJ)(f:(aJ→Option Bool)):Int→Option (Step Int (Out Unit Int))
  | x2=>(if decide (x2 < ((s.length:Int))) then (idx s x2).bind fun x3=>(f x3).bind fun x4=>(if x4 then some (.stop (Out.ret x2)) else some (.next (a8 (x2+1)))) else some (.stop (Out.brk (()))))
def iS:(Out Unit Int)→Option Int
  | .brk (())=>oO
  | .ret r=>some r
def kY(s:List aJ)(f:(aJ→Option Bool)):Option Int:=
  (loop (fF s f) 0).bind (iS)
def dT(s:List aJ)(f:(aJ→Option Bool)):Option Bool:=
  (kY s f).bind fun x1=>some (decide (0≤x1))
def pD:Option Int:=
  some ((-1))
def fV(s:List bC)(f:(bC→Option Bool)):Int→Option (Step Int (Out Unit Int))
  | x2=>(if decide (x2 < ((s.length:Int))) then (idx s x2).bind fun x3=>(f x3).bind fun x4=>(if x4 then some (.stop (Out.ret x2)) else some (.next (a8 (x2+1)))) else some (.stop (Out.brk (()))))
def jI:(Out Unit Int)→Option Int
  | .brk (())=>pD
  | .ret r=>some r
def mA(s:List bC)(f:(bC→Option Bool)):Option Int:=
  (loop (fV s f) 0).bind (jI)
def d9(s:List bC)(f:(bC→Option Bool)):Option Bool:=
  (mA s f).bind fun x1=>some (decide (0≤x1))
def wX:Option Int:=
  some ((-1))
def cP(s:List Int)(v:Int):Int→Option (Step Int (Out Unit Int))
  | x2=>(if decide (x2 < ((s.length:Int))) then (idx s x2).bind fun x3=>(if v == x3 then some (.stop (Out.ret x2)) else some (.next (a8 (x2+1)))) else some (.stop (Out.brk (()))))
def jO:(Out Unit Int)→Option Int
  | .brk (())=>wX
  | .ret r=>some r
def hU(s:List Int)(v:Int):Option Int:=
  (loop (cP s v) 0).bind (jO)
def jP(s:List Int)(v:Int):Option Bool:=
  (hU s v).bind fun x1=>some (decide (0≤x1))
def jJ(s:aE)(k0:Int):Option Bool:=
  (jP s.aK k0).bind fun x1=>some x1
def oP:Option Int:=
  some ((-1))
def fH(s:List aE)(f:(aE→Option Bool)):Int→Option (Step Int (Out Unit Int))
  | x2=>(if decide (x2 < ((s.length:Int))) then (idx s x2).bind fun x3=>(f x3).bind fun x4=>(if x4 then some (.stop (Out.ret x2)) else some (.next (a8 (x2+1)))) else some (.stop (Out.brk (()))))
def iT:(Out Unit Int)→Option Int
  | .brk (())=>oP
  | .ret r=>some r
def kZ(s:List aE)(f:(aE→Option Bool)):Option Int:=
  (loop (fH s f) 0).bind (iT)
def dU(s:List aE)(f:(aE→Option Bool)):Option Bool:=
  (kZ s f).bind fun x1=>some (decide (0≤x1))
def sG(x1:Bool):Option Bool:=
  some x1
def v9(l:aA)(slot:Int):Option Bool:=
  (dU l.Global ((fun y0=>jJ y0 slot))).bind fun x2=>(if x2 then sG true else (dU l.aV ((fun y0=>jJ y0 slot))).bind fun x3=>sG x3)
def xR(m:Mem)(slot:Int):Option Int:=
  (kW m.aC slot).bind fun x1=>(if decide (x1 < 0) then some 0 else (v9 m.aA slot).bind fun x2=>(if x2 then some 1 else (qS m.aC slot).bind fun x3=>(if decide (6 < x3) then some 2 else some 3)))
def nA(x1:Bool):Option Bool:=
  some x1
def wA(m:Mem)(h:Int):Option Bool:=
  (fU h).bind fun x2=>(if x2 then (xR m (Int.tmod h 32)).bind fun x3=>(if x3 == 3 then (qS m.aC (Int.tmod h 32)).bind fun x4=>nA (x4 == (a8 (Int.tdiv h 32))) else nA false) else nA false)
def k9(x1:Bool):Option Bool:=
  some x1
def p9(r_:bC)(k0:aM):Option Bool:=
  (wA k0.Mem r_.Handle).bind fun x2=>(if !x2 then k9 true else k9 (decide (k0.aD.aG < r_.aG)))
def uT(l:aJ)(k0:aM):Option Bool:=
  (d9 l.Rows ((fun y0=>p9 y0 k0))).bind fun x1=>some x1
def j9(b:aM)(x1:Bool):Option Bool:=
  (if x1 then some false else (dT b.aL ((fun y0=>uT y0 b))).bind fun x2=>some (!x2))
def AK(b:aM):Option Bool:=
  (CT b.Mem).bind fun x3=>(if !x3 then j9 b true else (kX b.aD).bind fun x4=>(if !x4 then j9 b true else (gU b.aL).bind fun x5=>(if !x5 then j9 b true else (CU b.cB).bind fun x6=>j9 b (!x6))))
def eA(w_:Int):Option Bool:=
  (b7 w_ 0 2).bind fun x1=>some x1
def aZ(s:Sub)(code:Int):Option Sub:=
  some ((⟨s.Kind,s.A,s.Pc,s.E,s.Row,s.B,s.H,s.Out,code,true⟩:Sub))
def ME:Option Int:=
  some ((-1))
def qA(x2:Int)(x3:Bool):Option (Step Int (Out Unit Int)):=
  (if x3 then some (.stop (Out.ret x2)) else some (.next (a8 (x2+1))))
def eZ(size:Int):Int→Option (Step Int (Out Unit Int))
  | x2=>(if decide (x2 < 3) then (if decide (1≤size) then (v7 x2).bind fun x4=>qA x2 (decide (size≤x4)) else qA x2 false) else some (.stop (Out.brk (()))))
def MF:(Out Unit Int)→Option Int
  | .brk (())=>ME
  | .ret r=>some r
def xS(size:Int):Option Int:=
  (loop (eZ size) 0).bind (MF)
def uU(w_ c:Int)(x1:Bool):Option Int:=
  (if x1 then some ((-1)) else some (a8 ((a8 (w_ * 3))+c)))
def yU(w_ c:Int):Option Int:=
  (eA w_).bind fun x2=>(if !x2 then uU w_ c true else (fS c).bind fun x3=>uU w_ c (!x3))
def nB(s:aE):Option (Int×aE):=
  (if decide ((a8 (((s.aK.length:Int)) - 1)) < 0) then some (((-1),s)) else (idx s.aK (a8 (((s.aK.length:Int)) - 1))).bind fun x1=>need (0≤(a8 (((s.aK.length:Int)) - 1):Int)∧(a8 (((s.aK.length:Int)) - 1):Int)≤(a8 (((s.aK.length:Int)) - 1):Int)∧(a8 (((s.aK.length:Int)) - 1):Int)≤(s.aK.length:Int)) (some ((x1,(⟨(s.aK.take ((a8 (((s.aK.length:Int)) - 1)).toNat)).drop 0⟩:aE)))))
def qB(x1:aA)(x2:Int)(x3:Bool):Option (aA×Int):=
  (if x3 then some ((x1,(-1))) else (idx x1.aV x2).bind fun x4=>(nB x4).bind fun x5=>some (((⟨x1.Global,x1.aV.set x2.toNat x5.2⟩:aA),x5.1)))
def xT(l:aA)(w_ c:Int):Option (aA×Int):=
  (d8 l).bind fun x1=>(yU w_ c).bind fun x2=>(fT l).bind fun x6=>(if !x6 then qB x1 x2 true else qB x1 x2 (decide (x2 < 0)))
def lA(c:Int)(x1:aA)(x2:Bool):Option (aA×Int):=
  (if x2 then some ((x1,(-1))) else (idx x1.Global c).bind fun x3=>(nB x3).bind fun x4=>some (((⟨x1.Global.set c.toNat x4.2,x1.aV⟩:aA),x4.1)))
def qC(l:aA)(c:Int):Option (aA×Int):=
  (d8 l).bind fun x1=>(fT l).bind fun x5=>(if !x5 then lA c x1 true else (fS c).bind fun x6=>lA c x1 (!x6))
def sH(page index:Int)(x1:Bool):Option Int:=
  (if x1 then some ((-1)) else some (a8 ((a8 (page * 4))+index)))
def AL(page index:Int):Option Int:=
  (b7 page 0 5).bind fun x2=>(if !x2 then sH page index true else (b7 index 0 3).bind fun x3=>sH page index (!x3))
def yV(x5:List Int):Option ((List Int)):=
  some x5
def kA(at_:Int)(text:List UInt8):((List Int)×Int)→Option (Step ((List Int)×Int) ((List Int)))
  | (x3,x4)=>(if decide (x4 < ((text.length:Int))) then (idx text x4).bind fun x6=>(idx x3 (a8 (at_+x4))).bind fun x7=>some (.next ((x3.set ((a8 (at_+x4)).toNat) ((x6.toNat:Int)),a8 (x4+1)))) else some (.stop (x3)))
def O9:((List Int))→Option ((List Int))
  | x5=>yV x5
def nC(b:List Int)(at_:Int)(text:List UInt8):Option ((List Int)):=
  (loop (kA at_ text) ((b,0))).bind (O9)
def CV(width:Int):Option Bool:=
  (b7 width 1 7).bind fun x1=>some x1
def RN(x8:List UInt8):Option ((List UInt8)):=
  some x8
def uV:(Int×(List UInt8)×Int)→Option (Step (Int×(List UInt8)×Int) ((List UInt8)))
  | (x5,x6,x7)=>(if decide (0≤x7) then (idx x6 x7).bind fun x9=>some (.next ((NW .i64 x5 8,x6.set x7.toNat (u8 x5),a8 (x7 - 1)))) else some (.stop (x6)))
def RO:((List UInt8))→Option ((List UInt8))
  | x8=>RN x8
def pE(n width:Int)(x1:Bool):Option ((List UInt8)):=
  (if x1 then some ([]) else need (0≤(width:Int)∧(width:Int)≤4294967296) ((loop (uV) ((n,List.replicate (width.toNat) 0,a8 (width - 1)))).bind (RO)))
def yW(n width:Int):Option ((List UInt8)):=
  (CV width).bind fun x10=>(if !x10 then pE n width true else (if decide (n < 0) then pE n width true else need (0≤(IntKind.u64.wrap (a8 (8 * width)):Int)) (pE n width (decide ((SZ .i64 1 (IntKind.u64.wrap (a8 (8 * width))))≤n)))))
def RP(c:Int)(x1:aC)(x2:Int)(x13 x14:List Int):Option (aC×(List Int)):=
  some (((⟨x14,x1.Class.set x2.toNat c⟩:aC),x13))
def A3(x10:List Int)(x11 x15:Int)(x16:List Int):Option (Step ((List Int)×Int×(List Int)) ((List Int)×(List Int))):=
  need (x10.length+([x15]).length≤1073741824) (some (.next ((x10++([x15]),a8 (x11+1),x16))))
def uW(c x2 x6:Int):((List Int)×Int×(List Int))→Option (Step ((List Int)×Int×(List Int)) ((List Int)×(List Int)))
  | (x10,x11,x12)=>(if decide (x11 < x6) then (AL x2 x11).bind fun x15=>(qR x15 c).bind fun x17=>(yW 1 4).bind fun x18=>(nC x12 x17 x18).bind fun x19=>A3 x10 x11 x15 x19 else some (.stop ((x10,x12))))
def RQ(c:Int)(x1:aC)(x2:Int):((List Int)×(List Int))→Option (aC×(List Int))
  | (x13,x14)=>RP c x1 x2 x13 x14
def A4(c:Int)(x1:aC)(x2:Int)(x5:List Int):Option (aC×(List Int)):=
  (jA c).bind fun x6=>(loop (uW c x2 x6) ((([]:List Int),0,x5))).bind (RQ c x1 x2)
def pG(c:Int)(x1:aC)(x2:Int)(x3:Bool):Option (aC×(List Int)):=
  (if x3 then some ((x1,([]:List Int))) else (idx x1.Class x2).bind fun x4=>need (0≤(a8 (x2 * 64):Int)∧(a8 (x2 * 64):Int)≤(x1.Bytes.length:Int))<|(jA c).bind fun x20=>A4 c x1 x2 (cK x1.Bytes ((a8 (x2 * 64)).toNat) (([171,c,x20]:List Int))))
def tZ(h:aC)(c:Int):Option (aC×(List Int)):=
  (lX h).bind fun x1=>(hU h.Class ((-1))).bind fun x2=>(v8 h).bind fun x21=>(if !x21 then pG c x1 x2 true else (fS c).bind fun x22=>(if !x22 then pG c x1 x2 true else pG c x1 x2 (decide (x2 < 0))))
def wR(x4:Int)(x5:Mem):Option (Mem×Int):=
  some ((x5,x4))
def wS(c:Int)(x1:aC×(List Int))(x2:Mem):Option (Mem×Int):=
  (if ((x1.2.length:Int)) == 0 then some ((x2,(-1))) else (idx x2.aA.Global c).bind fun x3=>need (0≤(1:Int)∧(1:Int)≤(x1.2.length:Int)) (need (x3.aK.length+((x1.2.take x1.2.length).drop ((1:Int).toNat)).length≤1073741824) ((idx x1.2 0).bind fun x6=>wR x6 ((⟨x2.aC,(⟨x2.aA.Global.set c.toNat ((⟨x3.aK++((x1.2.take x1.2.length).drop ((1:Int).toNat))⟩:aE)),x2.aA.aV⟩:aA)⟩:Mem)))))
def xU(m:Mem)(c:Int):Option (Mem×Int):=
  (tZ m.aC c).bind fun x1=>(d8 m.aA).bind fun x7=>wS c x1 ((⟨x1.1,x7⟩:Mem))
def oB(slot gen:Int)(x1:Bool):Option Int:=
  (if x1 then some 0 else some (a8 ((a8 (gen * 32))+slot)))
def A5(slot gen:Int):Option Int:=
  (g8 slot).bind fun x2=>(if !x2 then oB slot gen true else (b7 gen 1 6).bind fun x3=>oB slot gen (!x3))
def uX(m:Mem)(slot:Int):Option Int:=
  (qS m.aC slot).bind fun x1=>(A5 slot x1).bind fun x2=>some x2
def d4(s:Sub)(x3:Int)(x4:aM):Option (Sub×aM):=
  (if decide (0≤x3) then (uX x4.Mem x3).bind fun x5=>(aZ ((⟨s.Kind,s.A,s.Pc,s.E,s.Row,s.B,s.H,x5,s.Code,s.cD⟩:Sub)) 0).bind fun x6=>some ((x6,x4)) else (if s.Pc == 3 then (aZ s 3).bind fun x7=>some ((x7,x4)) else some (((⟨s.Kind,s.A,a8 (s.Pc+1),s.E,s.Row,s.B,s.H,s.Out,s.Code,s.cD⟩:Sub),x4))))
def iO(s:Sub)(b:aM)(x1:Int)(x9:Bool):Option (Sub×aM):=
  (if x9 then (qC b.Mem.aA x1).bind fun x10=>d4 s x10.2 ((⟨(⟨b.Mem.aC,x10.1⟩:Mem),b.aD,b.aL,b.cB⟩:aM)) else (if s.Pc == 2 then (xU b.Mem x1).bind fun x11=>d4 s x11.2 ((⟨x11.1,b.aD,b.aL,b.cB⟩:aM)) else (aZ s 1).bind fun x12=>some ((x12,b))))
def lB(s:Sub)(b:aM)(w_:Int):Option (Sub×aM):=
  (xS s.A).bind fun x1=>(if decide (x1 < 0) then (aZ s 2).bind fun x2=>some ((x2,b)) else (if s.Pc == 0 then (xT b.Mem.aA w_ x1).bind fun x8=>d4 s x8.2 ((⟨(⟨b.Mem.aC,x8.1⟩:Mem),b.aD,b.aL,b.cB⟩:aM)) else (if s.Pc == 1 then iO s b x1 true else iO s b x1 (s.Pc == 3))))
def jQ(x1:Bool):Option Bool:=
  some x1
def kB(r_:bC)(k0:Int):Option Bool:=
  (fU r_.Handle).bind fun x2=>(if x2 then jQ ((Int.tmod r_.Handle 32) == k0) else jQ false)
def sI(own:aJ)(k0:Int):Option Bool:=
  (d9 own.Rows ((fun y0=>kB y0 k0))).bind fun x1=>some x1
def xV(l:List aJ)(slot:Int):Option Bool:=
  (dT l ((fun y0=>sI y0 slot))).bind fun x1=>some x1
def oC(l:List aJ)(w_ h e_:Int)(x1:Bool):Option ((List aJ)×Bool):=
  (if x1 then (f7 l).bind fun x2=>some ((x2,false)) else (f7 l).bind fun x3=>(idx x3 w_).bind fun x4=>need (x4.Rows.length+([(⟨h,e_⟩:bC)]).length≤1073741824) ((gU (x3.set w_.toNat ((⟨x4.Rows++([(⟨h,e_⟩:bC)])⟩:aJ)))).bind fun x5=>(if !x5 then (f7 l).bind fun x6=>some ((x6,false)) else some ((x3.set w_.toNat ((⟨x4.Rows++([(⟨h,e_⟩:bC)])⟩:aJ)),true)))))
def uY(l:List aJ)(w_ h e_:Int):Option ((List aJ)×Bool):=
  (gU l).bind fun x7=>(if !x7 then oC l w_ h e_ true else (eA w_).bind fun x8=>oC l w_ h e_ (!x8))
def gW(s:Sub)(b:aM)(w_:Int)(x3:Bool):Option (Sub×aM):=
  (if x3 then (aZ s 4).bind fun x4=>some ((x4,b)) else (uY b.aL w_ s.A s.E).bind fun x5=>(aZ s 0).bind fun x6=>some ((x6,(⟨b.Mem,b.aD,x5.1,b.cB⟩:aM))))
def gX(s:Sub)(b:aM)(w_:Int)(x1:Bool):Option (Sub×aM):=
  (if x1 then (aZ s 1).bind fun x2=>some ((x2,b)) else (wA b.Mem s.A).bind fun x7=>(if !x7 then gW s b w_ true else (xV b.aL (Int.tmod s.A 32)).bind fun x8=>gW s b w_ x8))
def jR(s:Sub)(b:aM)(w_:Int):Option (Sub×aM):=
  (if s.Pc == 0 then some (((⟨s.Kind,s.A,1,b.aD.aG,s.Row,s.B,s.H,s.Out,s.Code,s.cD⟩:Sub),b)) else (if s.Pc != 1 then gX s b w_ true else (b7 s.E 0 b.aD.aG).bind fun x9=>gX s b w_ (!x9)))
def kC(w_:Int)(x1:aD)(x4:Bool):Option (aD×Bool):=
  (if x4 then some ((x1,true)) else (idx x1.aP w_).bind fun x5=>(if decide (x5.Seen < 2) then some (((⟨x1.aG,x1.aP.set w_.toNat ((⟨x5.On,x5.aG,x5.cH,a8 (x5.Seen+1)⟩:cL))⟩:aD),false)) else some (((⟨x1.aG,x1.aP.set w_.toNat ((⟨x5.On,x5.aG,true,0⟩:cL))⟩:aD),true))))
def sJ(w_ e_:Int)(x1:aD)(x2:Bool):Option (aD×Bool):=
  (if x2 then some ((x1,false)) else (idx x1.aP w_).bind fun x3=>(if !x3.On then kC w_ x1 true else (if x3.cH then kC w_ x1 true else kC w_ x1 (x3.aG == e_))))
def AM(c:aD)(w_ e_:Int):Option (aD×Bool):=
  (iF c).bind fun x1=>(kX c).bind fun x6=>(if !x6 then sJ w_ e_ x1 true else (eA w_).bind fun x7=>sJ w_ e_ x1 (!x7))
def sK(x1:aD)(x2:Bool):Option (aD×Bool):=
  (if x2 then some ((x1,false)) else some (((⟨a8 (x1.aG+1),x1.aP⟩:aD),true)))
def GG(c:aD)(e_:Int):Option (aD×Bool):=
  (iF c).bind fun x1=>(kX c).bind fun x3=>(if !x3 then sK x1 true else (if c.aG != e_ then sK x1 true else sK x1 (c.aG == 100000)))
def gE(s:Sub)(b:aM)(x4:aD×Bool)(x5:Int):Option (Sub×aM):=
  (aZ ((⟨s.Kind,s.A,s.Pc,s.E,s.Row,s.B,s.H,x5,s.Code,s.cD⟩:Sub)) 0).bind fun x6=>some ((x6,(⟨b.Mem,x4.1,b.aL,b.cB⟩:aM)))
def gG(s:Sub)(b:aM)(x1:Bool):Option (Sub×aM):=
  (if x1 then (AM b.aD s.B s.E).bind fun x2=>(if !x2.2 then (aZ s 8).bind fun x3=>some ((x3,(⟨b.Mem,x2.1,b.aL,b.cB⟩:aM))) else (if (a8 (s.B+1)) == 3 then some (((⟨s.Kind,s.A,2,s.E,s.Row,a8 (s.B+1),s.H,s.Out,s.Code,s.cD⟩:Sub),(⟨b.Mem,x2.1,b.aL,b.cB⟩:aM))) else some (((⟨s.Kind,s.A,s.Pc,s.E,s.Row,a8 (s.B+1),s.H,s.Out,s.Code,s.cD⟩:Sub),(⟨b.Mem,x2.1,b.aL,b.cB⟩:aM))))) else (if s.Pc == 2 then (GG b.aD s.E).bind fun x4=>(if x4.2 then gE s b x4 1 else gE s b x4 s.Out) else (aZ s 1).bind fun x7=>some ((x7,b))))
def jB(s:Sub)(b:aM):Option (Sub×aM):=
  (if s.Pc == 0 then some (((⟨s.Kind,s.A,1,b.aD.aG,s.Row,0,s.H,s.Out,s.Code,s.cD⟩:Sub),b)) else (if s.Pc == 1 then (eA s.B).bind fun x8=>gG s b x8 else gG s b false))
def sL(x1:Bool):Option Bool:=
  some x1
def wB(l:List aJ)(w_ i:Int):Option Bool:=
  (eA w_).bind fun x2=>(if x2 then (idx l w_).bind fun x3=>(b7 i 0 (a8 (((x3.Rows.length:Int)) - 1))).bind fun x4=>sL x4 else sL false)
def xW(x1:Bool):Option Bool:=
  some x1
def BW(r_:bC)(e_:Int):Option Bool:=
  (if decide (2≤e_) then xW (decide (r_.aG≤(a8 (e_ - 2)))) else xW false)
def wC(s:Sub)(b:aM):Option (Sub×aM):=
  (aZ s 0).bind fun x3=>some ((x3,b))
def cQ(s:Sub)(b:aM)(w_:Int):Int→Option (Step Int (Out Unit (Sub×aM)))
  | x2=>(idx b.aL w_).bind fun x4=>(if decide (x2 < ((x4.Rows.length:Int))) then (idx x4.Rows x2).bind fun x5=>(BW x5 s.E).bind fun x6=>(if x6 then some (.stop (Out.ret (((⟨s.Kind,s.A,2,s.E,x2,0,x5.Handle,s.Out,s.Code,s.cD⟩:Sub),b)))) else some (.next (a8 (x2+1)))) else some (.stop (Out.brk (()))))
def E3(s:Sub)(b:aM):(Out Unit (Sub×aM))→Option (Sub×aM)
  | .brk (())=>wC s b
  | .ret r=>some r
def jC(s:Sub)(b:aM)(w_:Int):Option (Sub×aM):=
  (loop (cQ s b w_) (if s.Row < 0 then 0 else s.Row)).bind (E3 s b)
def qT(s:List bC)(i j:Int):Option ((List bC)):=
  need (0≤(i:Int)∧(i:Int)≤(j:Int)∧(j:Int)≤((s.length:Int):Int)∧((s.length:Int):Int)≤(s.length:Int)) ((if i == j then some s else need (0≤(i:Int)∧(i:Int)≤(s.length:Int)) (need (0≤(j:Int)∧(j:Int)≤(s.length:Int)) (need (i.toNat≤j.toNat) (need (0≤(((((cK s i.toNat (s.drop j.toNat)).take (i.toNat+(s.length - j.toNat))).drop 0).length:Int):Int)∧(((((cK s i.toNat (s.drop j.toNat)).take (i.toNat+(s.length - j.toNat))).drop 0).length:Int):Int)≤((s.length:Int):Int)∧((s.length:Int):Int)≤((cK s i.toNat (s.drop j.toNat)).length:Int)) (some (((cK s i.toNat (s.drop j.toNat)).take (i.toNat+(s.length - j.toNat))).drop 0)))))))
def qD(w_ i:Int)(x1:(List aJ))(x2:Bool):Option ((List aJ)×Bool):=
  (if x2 then some ((x1,false)) else (idx x1 w_).bind fun x3=>(qT x3.Rows i (a8 (i+1))).bind fun x4=>some ((x1.set w_.toNat ((⟨x4⟩:aJ)),true)))
def xX(l:List aJ)(w_ i:Int):Option ((List aJ)×Bool):=
  (f7 l).bind fun x1=>(gU l).bind fun x5=>(if !x5 then qD w_ i x1 true else (wB l w_ i).bind fun x6=>qD w_ i x1 (!x6))
def yX(x3 x5:List Int):Option (aC×Bool):=
  some (((⟨x5,x3⟩:aC),true))
def sM(slot gen x1:Int)(x2 x3:List Int)(x4:Bool):Option (aC×Bool):=
  (if x4 then some (((⟨x2,x3⟩:aC),false)) else (qR slot x1).bind fun x6=>(yW gen 4).bind fun x7=>(nC x2 x6 x7).bind fun x8=>yX x3 x8)
def yY(slot gen x1:Int)(x2 x3:List Int):Option (aC×Bool):=
  (if decide (x1 < 0) then sM slot gen x1 x2 x3 true else (b7 gen 1 7).bind fun x9=>sM slot gen x1 x2 x3 (!x9))
def E4(h:aC)(slot gen:Int):Option (aC×Bool):=
  (lX h).bind fun x10=>(sC h slot).bind fun x11=>yY slot gen x11 x10.Bytes x10.Class
def oD(c slot:Int)(x1:aA)(x2:Int)(x3:Bool):Option (aA×Bool):=
  (if x3 then some ((x1,false)) else (idx x1.aV x2).bind fun x4=>(if decide (2≤((x4.aK.length:Int))) then (idx x1.Global c).bind fun x5=>need (x5.aK.length+([slot]).length≤1073741824) (some (((⟨x1.Global.set c.toNat ((⟨x5.aK++([slot])⟩:aE)),x1.aV⟩:aA),true))) else need (x4.aK.length+([slot]).length≤1073741824) (some (((⟨x1.Global,x1.aV.set x2.toNat ((⟨x4.aK++([slot])⟩:aE))⟩:aA),true)))))
def KJ(l:aA)(w_ c slot:Int):Option (aA×Bool):=
  (d8 l).bind fun x1=>(yU w_ c).bind fun x2=>(fT l).bind fun x6=>(if !x6 then oD c slot x1 x2 true else (if decide (x2 < 0) then oD c slot x1 x2 true else (g8 slot).bind fun x7=>(if !x7 then oD c slot x1 x2 true else (v9 l slot).bind fun x8=>oD c slot x1 x2 x8)))
def A6(x3:Mem):Option Mem:=
  some x3
def A7(m:Mem)(w_ h:Int)(x2:Mem):Option Mem:=
  (if decide ((a8 ((a8 (Int.tdiv h 32))+1))≤6) then (kW m.aC (Int.tmod h 32)).bind fun x4=>(KJ m.aA w_ x4 (Int.tmod h 32)).bind fun x5=>A6 ((⟨x2.aC,x5.1⟩:Mem)) else A6 x2)
def CX(m:Mem)(w_ h:Int):Option Mem:=
  (E4 m.aC (Int.tmod h 32) (a8 ((a8 (Int.tdiv h 32))+1))).bind fun x1=>(d8 m.aA).bind fun x6=>A7 m w_ h ((⟨x1.1,x6⟩:Mem))
def bY(s:Sub)(b:aM)(w_:Int)(x5:Bool):Option (Sub×aM):=
  (if x5 then (xX b.aL w_ s.Row).bind fun x6=>(CX b.Mem w_ s.H).bind fun x7=>some (((⟨s.Kind,s.A,1,s.E,s.Row,s.B,s.H,a8 (s.Out+1),s.Code,s.cD⟩:Sub),(⟨x7,b.aD,x6.1,b.cB⟩:aM))) else (aZ s 1).bind fun x8=>some ((x8,b)))
def cN(s:Sub)(b:aM)(w_:Int)(x1 x3:Bool):Option (Sub×aM):=
  (if x3 then (idx b.cB s.B).bind fun x4=>(if x4 == s.H then some (((⟨s.Kind,s.A,1,s.E,a8 (s.Row+1),s.B,s.H,s.Out,s.Code,s.cD⟩:Sub),b)) else (if (a8 (s.B+1)) == 3 then some (((⟨s.Kind,s.A,3,s.E,s.Row,a8 (s.B+1),s.H,s.Out,s.Code,s.cD⟩:Sub),b)) else some (((⟨s.Kind,s.A,s.Pc,s.E,s.Row,a8 (s.B+1),s.H,s.Out,s.Code,s.cD⟩:Sub),b)))) else (if s.Pc == 3 then (if x1 then (idx b.aL w_).bind fun x9=>(idx x9.Rows s.Row).bind fun x10=>(BW x10 s.E).bind fun x11=>bY s b w_ x11 else bY s b w_ false) else bY s b w_ false))
def dB(s:Sub)(b:aM)(w_:Int)(x1:Bool):Option (Sub×aM):=
  (if s.Pc == 0 then some (((⟨s.Kind,s.A,1,b.aD.aG,0,s.B,s.H,s.Out,s.Code,s.cD⟩:Sub),b)) else (if s.Pc == 1 then (jC s b w_).bind fun x2=>some ((x2.1,x2.2)) else (if s.Pc == 2 then (eA s.B).bind fun x12=>(if x12 then cN s b w_ x1 x1 else cN s b w_ x1 false) else cN s b w_ x1 false)))
def jD(s:Sub)(b:aM)(w_:Int):Option (Sub×aM):=
  (wB b.aL w_ s.Row).bind fun x13=>(if x13 then (idx b.aL w_).bind fun x14=>(idx x14.Rows s.Row).bind fun x15=>dB s b w_ (x15.Handle == s.H) else dB s b w_ false)
def pH(w_ e_:Int)(x1:aD)(x2:Bool):Option (aD×Bool):=
  (if x2 then some ((x1,false)) else (idx x1.aP w_).bind fun x3=>some (((⟨x1.aG,x1.aP.set w_.toNat ((⟨true,e_,false,0⟩:cL))⟩:aD),true)))
def CY(c:aD)(w_ e_:Int):Option (aD×Bool):=
  (iF c).bind fun x1=>(kX c).bind fun x4=>(if !x4 then pH w_ e_ x1 true else (eA w_).bind fun x5=>(if !x5 then pH w_ e_ x1 true else (b7 e_ 0 c.aG).bind fun x6=>pH w_ e_ x1 (!x6)))
def oS(s:Sub)(b:aM)(x1:Bool)(x2:Int)(x3:List cL):Option (Sub×aM):=
  (if !x1 then (aZ s 1).bind fun x4=>some ((x4,b)) else some (((⟨s.Kind,s.A,2,s.E,s.Row,s.B,s.H,s.Out,s.Code,s.cD⟩:Sub),(⟨b.Mem,(⟨x2,x3⟩:aD),b.aL,b.cB⟩:aM))))
def oE(s:Sub)(b:aM)(w_:Int):Option (Sub×aM):=
  (if s.Pc == 0 then some (((⟨s.Kind,s.A,1,b.aD.aG,s.Row,s.B,s.H,s.Out,s.Code,s.cD⟩:Sub),b)) else (if s.Pc == 1 then (CY b.aD w_ s.E).bind fun x5=>oS s b x5.2 x5.1.aG x5.1.aP else (if s.Pc == 2 then (if b.aD.aG == s.E then (aZ s 0).bind fun x6=>some ((x6,b)) else some (((⟨s.Kind,s.A,0,s.E,s.Row,s.B,s.H,s.Out,s.Code,s.cD⟩:Sub),b))) else (aZ s 1).bind fun x7=>some ((x7,b)))))
def l5(s:Sub)(b:aM)(w_:Int):Option (Sub×aM):=
  (if s.cD then some ((s,b)) else (if s.Kind == 1 then (lB s b w_).bind fun x1=>some ((x1.1,x1.2)) else (if s.Kind == 2 then (jR s b w_).bind fun x2=>some ((x2.1,x2.2)) else (if s.Kind == 3 then (jB s b).bind fun x3=>some ((x3.1,x3.2)) else (if s.Kind == 4 then (jD s b w_).bind fun x4=>some ((x4.1,x4.2)) else (if s.Kind == 5 then (oE s b w_).bind fun x5=>some ((x5.1,x5.2)) else (aZ s 1).bind fun x6=>some ((x6,b))))))))
def PA(x10:Sub)(x11:aM):Option (aM×Sub):=
  some ((x11,x10))
def iG(w_:Int):(Int×Sub×aM)→Option (Step (Int×Sub×aM) (Sub×aM))
  | (x7,x8,x9)=>(if decide (x7 < 200) then (l5 x8 x9 w_).bind fun x12=>some (.next ((a8 (x7+1),x12.1,x12.2))) else some (.stop ((x8,x9))))
def PB:(Sub×aM)→Option (aM×Sub)
  | (x10,x11)=>PA x10 x11
def sN(w_:Int)(s:Sub)(x2:Bool)(x3:aM):Option (aM×Sub):=
  (if x2 then some ((x3,s)) else (loop (iG w_) ((0,s,x3))).bind (PB))
def wD(b:aM)(w_:Int)(s:Sub):Option (aM×Sub):=
  (uO b).bind fun x1=>(AK b).bind fun x13=>(if !x13 then sN w_ s true x1 else (eA w_).bind fun x14=>sN w_ s (!x14) x1)
def E5:Option Bool:=
  some true
def nD(a_ b:List Int):Int→Option (Step Int (Out Unit Bool))
  | x2=>(if decide (x2 < ((a_.length:Int))) then (idx a_ x2).bind fun x3=>(idx b x2).bind fun x4=>(if x3 != x4 then some (.stop (Out.ret false)) else some (.next (a8 (x2+1)))) else some (.stop (Out.brk (()))))
def E6:(Out Unit Bool)→Option Bool
  | .brk (())=>E5
  | .ret r=>some r
def nE(a_ b:List Int):Option Bool:=
  (if ((a_.length:Int)) != ((b.length:Int)) then some false else (loop (nD a_ b) 0).bind (E6))
def E7(a_ b:aC):Option Bool:=
  (nE a_.Bytes b.Bytes).bind fun x1=>(if !x1 then some false else (nE a_.Class b.Class).bind fun x2=>(if !x2 then some false else some true))
def CZ(a_ b:aE):Option Bool:=
  (nE a_.aK b.aK).bind fun x1=>(if !x1 then some false else some true)
def BX:Option Bool:=
  some true
def kD(a_ b:List aE):Int→Option (Step Int (Out Unit Bool))
  | x2=>(if decide (x2 < ((a_.length:Int))) then (idx a_ x2).bind fun x3=>(idx b x2).bind fun x4=>(CZ x3 x4).bind fun x5=>(if !x5 then some (.stop (Out.ret false)) else some (.next (a8 (x2+1)))) else some (.stop (Out.brk (()))))
def BY:(Out Unit Bool)→Option Bool
  | .brk (())=>BX
  | .ret r=>some r
def pI(a_ b:List aE):Option Bool:=
  (if ((a_.length:Int)) != ((b.length:Int)) then some false else (loop (kD a_ b) 0).bind (BY))
def C0(a_ b:aA):Option Bool:=
  (pI a_.Global b.Global).bind fun x1=>(if !x1 then some false else (pI a_.aV b.aV).bind fun x2=>(if !x2 then some false else some true))
def C1(a_ b:Mem):Option Bool:=
  (E7 a_.aC b.aC).bind fun x1=>(if !x1 then some false else (C0 a_.aA b.aA).bind fun x2=>(if !x2 then some false else some true))
def C2(a_ b:cL):Option Bool:=
  (if !(a_.On == b.On) then some false else (if a_.aG != b.aG then some false else (if !(a_.cH == b.cH) then some false else (if a_.Seen != b.Seen then some false else some true))))
def E8:Option Bool:=
  some true
def nF(a_ b:List cL):Int→Option (Step Int (Out Unit Bool))
  | x2=>(if decide (x2 < ((a_.length:Int))) then (idx a_ x2).bind fun x3=>(idx b x2).bind fun x4=>(C2 x3 x4).bind fun x5=>(if !x5 then some (.stop (Out.ret false)) else some (.next (a8 (x2+1)))) else some (.stop (Out.brk (()))))
def E9:(Out Unit Bool)→Option Bool
  | .brk (())=>E8
  | .ret r=>some r
def AN(a_ b:List cL):Option Bool:=
  (if ((a_.length:Int)) != ((b.length:Int)) then some false else (loop (nF a_ b) 0).bind (E9))
def xY(a_ b:aD):Option Bool:=
  (if a_.aG != b.aG then some false else (AN a_.aP b.aP).bind fun x1=>(if !x1 then some false else some true))
def FA(a_ b:bC):Option Bool:=
  (if a_.Handle != b.Handle then some false else (if a_.aG != b.aG then some false else some true))
def DR:Option Bool:=
  some true
def lS(a_ b:List bC):Int→Option (Step Int (Out Unit Bool))
  | x2=>(if decide (x2 < ((a_.length:Int))) then (idx a_ x2).bind fun x3=>(idx b x2).bind fun x4=>(FA x3 x4).bind fun x5=>(if !x5 then some (.stop (Out.ret false)) else some (.next (a8 (x2+1)))) else some (.stop (Out.brk (()))))
def DS:(Out Unit Bool)→Option Bool
  | .brk (())=>DR
  | .ret r=>some r
def xZ(a_ b:List bC):Option Bool:=
  (if ((a_.length:Int)) != ((b.length:Int)) then some false else (loop (lS a_ b) 0).bind (DS))
def C3(a_ b:aJ):Option Bool:=
  (xZ a_.Rows b.Rows).bind fun x1=>(if !x1 then some false else some true)
def BZ:Option Bool:=
  some true
def kE(a_ b:List aJ):Int→Option (Step Int (Out Unit Bool))
  | x2=>(if decide (x2 < ((a_.length:Int))) then (idx a_ x2).bind fun x3=>(idx b x2).bind fun x4=>(C3 x3 x4).bind fun x5=>(if !x5 then some (.stop (Out.ret false)) else some (.next (a8 (x2+1)))) else some (.stop (Out.brk (()))))
def B3:(Out Unit Bool)→Option Bool
  | .brk (())=>BZ
  | .ret r=>some r
def uZ(a_ b:List aJ):Option Bool:=
  (if ((a_.length:Int)) != ((b.length:Int)) then some false else (loop (kE a_ b) 0).bind (B3))
def nG(a_ b:aM):Option Bool:=
  (C1 a_.Mem b.Mem).bind fun x1=>(if !x1 then some false else (xY a_.aD b.aD).bind fun x2=>(if !x2 then some false else (uZ a_.aL b.aL).bind fun x3=>(if !x3 then some false else (nE a_.cB b.cB).bind fun x4=>(if !x4 then some false else some true))))
def t7(a_ b:Sub):Option Bool:=
  (if a_.Kind != b.Kind then some false else (if a_.A != b.A then some false else (if a_.Pc != b.Pc then some false else (if a_.E != b.E then some false else (if a_.Row != b.Row then some false else (if a_.B != b.B then some false else (if a_.H != b.H then some false else (if a_.Out != b.Out then some false else (if a_.Code != b.Code then some false else (if !(a_.cD == b.cD) then some false else some true))))))))))
def t9(x7:List Int)(x8:Int):Option (Int×(List Int)):=
  some ((x8,x7))
def fL:((List Int)×Int×Int)→Option (Step ((List Int)×Int×Int) ((List Int)×Int))
  | (x4,x5,x6)=>(if decide (x6 < ((x4.length:Int))) then (idx x4 x6).bind fun x9=>some (.next ((x4.set (x6.toNat) x5,a8 (x5+1),a8 (x6+1)))) else some (.stop ((x4,x5))))
def KK:((List Int)×Int)→Option (Int×(List Int))
  | (x7,x8)=>t9 x7 x8
def fW(a_:List Int)(k:Int):Option (Int×(List Int)):=
  (loop (fL) ((a_,k,0))).bind (KK)
def vA(a_:aC)(k:Int):Option (Int×(List Int)×(List Int)):=
  (fW a_.Bytes k).bind fun x1=>(fW a_.Class x1.1).bind fun x2=>some ((x2.1,x1.2,x2.2))
def qU(x7:List aE)(x8:Int):Option (Int×(List aE)):=
  some ((x8,x7))
def eI:((List aE)×Int×Int)→Option (Step ((List aE)×Int×Int) ((List aE)×Int))
  | (x4,x5,x6)=>(if decide (x6 < ((x4.length:Int))) then (idx x4 x6).bind fun x9=>(fW x9.aK x5).bind fun x10=>some (.next ((x4.set x6.toNat ((⟨x10.2⟩:aE)),x10.1,a8 (x6+1)))) else some (.stop ((x4,x5))))
def H4:((List aE)×Int)→Option (Int×(List aE))
  | (x7,x8)=>qU x7 x8
def gP(a_:List aE)(k:Int):Option (Int×(List aE)):=
  (loop (eI) ((a_,k,0))).bind (H4)
def sO(a_:aA)(k:Int):Option (Int×(List aE)×(List aE)):=
  (gP a_.Global k).bind fun x1=>(gP a_.aV x1.1).bind fun x2=>some ((x2.1,x1.2,x2.2))
def oF(a_:Mem)(k:Int):Option (Int×(List Int)×(List Int)×(List aE)×(List aE)):=
  (vA a_.aC k).bind fun x1=>(sO a_.aA x1.1).bind fun x2=>some ((x2.1,x1.2.1,x1.2.2,x2.2.1,x2.2.2))
def uA(x7:List cL)(x8:Int):Option (Int×(List cL)):=
  some ((x8,x7))
def kG:((List cL)×Int×Int)→Option (Step ((List cL)×Int×Int) ((List cL)×Int))
  | (x4,x5,x6)=>(if decide (x6 < ((x4.length:Int))) then (idx x4 x6).bind fun x9=>(idx (x4.set (x6.toNat) ((⟨(Int.tmod x5 3) == 0,x9.aG,x9.cH,x9.Seen⟩:cL))) x6).bind fun x10=>(idx ((x4.set (x6.toNat) ((⟨(Int.tmod x5 3) == 0,x9.aG,x9.cH,x9.Seen⟩:cL))).set (x6.toNat) ((⟨x10.On,a8 (x5+1),x10.cH,x10.Seen⟩:cL))) x6).bind fun x11=>(idx (((x4.set (x6.toNat) ((⟨(Int.tmod x5 3) == 0,x9.aG,x9.cH,x9.Seen⟩:cL))).set (x6.toNat) ((⟨x10.On,a8 (x5+1),x10.cH,x10.Seen⟩:cL))).set (x6.toNat) ((⟨x11.On,x11.aG,(Int.tmod (a8 ((a8 (x5+1))+1)) 3) == 0,x11.Seen⟩:cL))) x6).bind fun x12=>some (.next (((((x4.set (x6.toNat) ((⟨(Int.tmod x5 3) == 0,x9.aG,x9.cH,x9.Seen⟩:cL))).set (x6.toNat) ((⟨x10.On,a8 (x5+1),x10.cH,x10.Seen⟩:cL))).set (x6.toNat) ((⟨x11.On,x11.aG,(Int.tmod (a8 ((a8 (x5+1))+1)) 3) == 0,x11.Seen⟩:cL))).set (x6.toNat) ((⟨x12.On,x12.aG,x12.cH,a8 ((a8 ((a8 (x5+1))+1))+1)⟩:cL)),a8 ((a8 ((a8 ((a8 (x5+1))+1))+1))+1),a8 (x6+1)))) else some (.stop ((x4,x5))))
def KL:((List cL)×Int)→Option (Int×(List cL))
  | (x7,x8)=>uA x7 x8
def l6(a_:List cL)(k:Int):Option (Int×(List cL)):=
  (loop (kG) ((a_,k,0))).bind (KL)
def yZ(a_:aD)(k:Int):Option (Int×(List cL)):=
  (l6 a_.aP k).bind fun x1=>some ((x1.1,x1.2))
def sP(x7:List bC)(x8:Int):Option (Int×(List bC)):=
  some ((x8,x7))
def jE:((List bC)×Int×Int)→Option (Step ((List bC)×Int×Int) ((List bC)×Int))
  | (x4,x5,x6)=>(if decide (x6 < ((x4.length:Int))) then (idx x4 x6).bind fun x9=>(idx (x4.set (x6.toNat) ((⟨x5,x9.aG⟩:bC))) x6).bind fun x10=>some (.next (((x4.set (x6.toNat) ((⟨x5,x9.aG⟩:bC))).set (x6.toNat) ((⟨x10.Handle,a8 (x5+1)⟩:bC)),a8 ((a8 (x5+1))+1),a8 (x6+1)))) else some (.stop ((x4,x5))))
def JB:((List bC)×Int)→Option (Int×(List bC))
  | (x7,x8)=>sP x7 x8
def nH(a_:List bC)(k:Int):Option (Int×(List bC)):=
  (loop (jE) ((a_,k,0))).bind (JB)
def qV(x7:List aJ)(x8:Int):Option (Int×(List aJ)):=
  some ((x8,x7))
def eJ:((List aJ)×Int×Int)→Option (Step ((List aJ)×Int×Int) ((List aJ)×Int))
  | (x4,x5,x6)=>(if decide (x6 < ((x4.length:Int))) then (idx x4 x6).bind fun x9=>(nH x9.Rows x5).bind fun x10=>some (.next ((x4.set x6.toNat ((⟨x10.2⟩:aJ)),x10.1,a8 (x6+1)))) else some (.stop ((x4,x5))))
def H5:((List aJ)×Int)→Option (Int×(List aJ))
  | (x7,x8)=>qV x7 x8
def i5(a_:List aJ)(k:Int):Option (Int×(List aJ)):=
  (loop (eJ) ((a_,k,0))).bind (H5)
def pJ(a_:aM)(k:Int):Option (Int×(List Int)×(List Int)×(List aE)×(List aE)×(List cL)×(List aJ)×(List Int)):=
  (oF a_.Mem k).bind fun x1=>(yZ a_.aD x1.1).bind fun x2=>(i5 a_.aL x2.1).bind fun x3=>(fW a_.cB x3.1).bind fun x4=>some ((x4.1,x1.2.1,x1.2.2.1,x1.2.2.2.1,x1.2.2.2.2,x2.2,x3.2,x4.2))
def KM(x5:Int):Option Int:=
  some x5
def kH(a_:List Int):(Int×Int)→Option (Step (Int×Int) (Out Int Int))
  | (x3,x4)=>(if decide (x4 < ((a_.length:Int))) then (idx a_ x4).bind fun x6=>(if x6 != x3 then some (.stop (Out.ret ((-1)))) else some (.next ((a8 (x3+1),a8 (x4+1))))) else some (.stop (Out.brk x3)))
def KN:(Out Int Int)→Option Int
  | .brk x5=>KM x5
  | .ret r=>some r
def jK(a_:List Int)(k:Int):Option Int:=
  (loop (kH a_) ((k,0))).bind (KN)
def A8(a_:aC)(k:Int):Option Int:=
  (jK a_.Bytes k).bind fun x1=>(if decide (x1 < 0) then some ((-1)) else (jK a_.Class x1).bind fun x2=>(if decide (x2 < 0) then some ((-1)) else some x2))
def H6(x5:Int):Option Int:=
  some x5
def iH(a_:List aE):(Int×Int)→Option (Step (Int×Int) (Out Int Int))
  | (x3,x4)=>(if decide (x4 < ((a_.length:Int))) then (idx a_ x4).bind fun x6=>(jK x6.aK x3).bind fun x7=>(if decide (x7 < 0) then some (.stop (Out.ret ((-1)))) else some (.next ((x7,a8 (x4+1))))) else some (.stop (Out.brk x3)))
def H7:(Out Int Int)→Option Int
  | .brk x5=>H6 x5
  | .ret r=>some r
def lT(a_:List aE)(k:Int):Option Int:=
  (loop (iH a_) ((k,0))).bind (H7)
def y4(a_:aA)(k:Int):Option Int:=
  (lT a_.Global k).bind fun x1=>(if decide (x1 < 0) then some ((-1)) else (lT a_.aV x1).bind fun x2=>(if decide (x2 < 0) then some ((-1)) else some x2))
def sQ(a_:Mem)(k:Int):Option Int:=
  (A8 a_.aC k).bind fun x1=>(if decide (x1 < 0) then some ((-1)) else (y4 a_.aA x1).bind fun x2=>(if decide (x2 < 0) then some ((-1)) else some x2))
def KO(x5:Int):Option Int:=
  some x5
def uB(a_:List cL):(Int×Int)→Option (Step (Int×Int) (Out Int Int))
  | (x3,x4)=>(if decide (x4 < ((a_.length:Int))) then (idx a_ x4).bind fun x6=>(if !(x6.On == ((Int.tmod x3 3) == 0)) then some (.stop (Out.ret ((-1)))) else (idx a_ x4).bind fun x7=>(if x7.aG != (a8 (x3+1)) then some (.stop (Out.ret ((-1)))) else (idx a_ x4).bind fun x8=>(if !(x8.cH == ((Int.tmod (a8 ((a8 (x3+1))+1)) 3) == 0)) then some (.stop (Out.ret ((-1)))) else (idx a_ x4).bind fun x9=>(if x9.Seen != (a8 ((a8 ((a8 (x3+1))+1))+1)) then some (.stop (Out.ret ((-1)))) else some (.next ((a8 ((a8 ((a8 ((a8 (x3+1))+1))+1))+1),a8 (x4+1)))))))) else some (.stop (Out.brk x3)))
def KP:(Out Int Int)→Option Int
  | .brk x5=>KO x5
  | .ret r=>some r
def vB(a_:List cL)(k:Int):Option Int:=
  (loop (uB a_) ((k,0))).bind (KP)
def y5(a_:aD)(k:Int):Option Int:=
  (vB a_.aP k).bind fun x1=>(if decide (x1 < 0) then some ((-1)) else some x1)
def JC(x5:Int):Option Int:=
  some x5
def sS(a_:List bC):(Int×Int)→Option (Step (Int×Int) (Out Int Int))
  | (x3,x4)=>(if decide (x4 < ((a_.length:Int))) then (idx a_ x4).bind fun x6=>(if x6.Handle != x3 then some (.stop (Out.ret ((-1)))) else (idx a_ x4).bind fun x7=>(if x7.aG != (a8 (x3+1)) then some (.stop (Out.ret ((-1)))) else some (.next ((a8 ((a8 (x3+1))+1),a8 (x4+1)))))) else some (.stop (Out.brk x3)))
def JD:(Out Int Int)→Option Int
  | .brk x5=>JC x5
  | .ret r=>some r
def sT(a_:List bC)(k:Int):Option Int:=
  (loop (sS a_) ((k,0))).bind (JD)
def H8(x5:Int):Option Int:=
  some x5
def iI(a_:List aJ):(Int×Int)→Option (Step (Int×Int) (Out Int Int))
  | (x3,x4)=>(if decide (x4 < ((a_.length:Int))) then (idx a_ x4).bind fun x6=>(sT x6.Rows x3).bind fun x7=>(if decide (x7 < 0) then some (.stop (Out.ret ((-1)))) else some (.next ((x7,a8 (x4+1))))) else some (.stop (Out.brk x3)))
def H9:(Out Int Int)→Option Int
  | .brk x5=>H8 x5
  | .ret r=>some r
def qE(a_:List aJ)(k:Int):Option Int:=
  (loop (iI a_) ((k,0))).bind (H9)
def pK(a_:aM)(k:Int):Option Int:=
  (sQ a_.Mem k).bind fun x1=>(if decide (x1 < 0) then some ((-1)) else (y5 a_.aD x1).bind fun x2=>(if decide (x2 < 0) then some ((-1)) else (qE a_.aL x2).bind fun x3=>(if decide (x3 < 0) then some ((-1)) else (jK a_.cB x3).bind fun x4=>(if decide (x4 < 0) then some ((-1)) else some x4))))
def iP(x19:Int×(List Int)×(List Int)×(List aE)×(List aE)×(List cL)×(List aJ)×(List Int))(x25:Bool)(x26:aM):Option Bool:=
  (if x25 then some false else (pK x26 1).bind fun x27=>(if decide (x27 < 0) then some false else (if x27 != x19.1 then some false else some true)))
def mB(x3:Sub)(x19:Int×(List Int)×(List Int)×(List aE)×(List aE)×(List cL)×(List aJ)×(List Int))(x21 x22 x23:aM)(x24:Sub):Option Bool:=
  (nG x23 x21).bind fun x28=>(if !x28 then iP x19 true x22 else (t7 x24 x3).bind fun x29=>iP x19 (!x29) x22)
def fJ(aB:aM)(aW:Int)(aS x3:Sub)(x16:Bool)(x17 x18:aM):Option Bool:=
  (if x16 then some false else (pJ x18 1).bind fun x19=>(pK ((⟨(⟨(⟨x19.2.1,x19.2.2.1⟩:aC),(⟨x19.2.2.2.1,x19.2.2.2.2.1⟩:aA)⟩:Mem),(⟨x18.aD.aG,x19.2.2.2.2.2.1⟩:aD),x19.2.2.2.2.2.2.1,x19.2.2.2.2.2.2.2⟩:aM)) 1).bind fun x20=>(if decide (x20 < 0) then some false else (if x20 != x19.1 then some false else (m4 aB).bind fun x30=>(yT aS).bind fun x31=>(wD x30 aW x31).bind fun x32=>mB x3 x19 x17 ((⟨(⟨(⟨x19.2.1,x19.2.2.1⟩:aC),(⟨x19.2.2.2.1,x19.2.2.2.2.1⟩:aA)⟩:Mem),(⟨x18.aD.aG,x19.2.2.2.2.2.1⟩:aD),x19.2.2.2.2.2.2.1,x19.2.2.2.2.2.2.2⟩:aM)) x32.1 x32.2)))
def iQ(aB:aM)(aW:Int)(aS x3 x8:Sub)(x9:Bool)(x10 x11 x12:aM):Option Bool:=
  (if x9 then some false else (m4 aB).bind fun x13=>(nG x11 x13).bind fun x14=>(if !x14 then some false else (pJ x11 1).bind fun x15=>(if decide (x15.1 < 0) then fJ aB aW aS x3 true x10 x12 else (nG x12 x10).bind fun x33=>(if !x33 then fJ aB aW aS x3 true x10 x12 else (t7 x8 x3).bind fun x34=>fJ aB aW aS x3 (!x34) x10 x12))))
def mC(aB:aM)(aW:Int)(aS x3:Sub)(x5 x6 x7:aM)(x8:Sub):Option Bool:=
  (nG x7 x5).bind fun x35=>(if !x35 then iQ aB aW aS x3 x8 true x5 x6 x7 else (t7 x8 x3).bind fun x36=>iQ aB aW aS x3 x8 (!x36) x5 x6 x7)
def mD(aB:aM)(aW:Int)(aS:Sub)(x2:aM)(x3:Sub):Option Bool:=
  (m4 aB).bind fun x4=>(yT aS).bind fun x37=>(wD x4 aW x37).bind fun x38=>mC aB aW aS x3 x2 x4 x38.1 x38.2
def qW(aB:aM)(aW:Int)(aS:Sub):Option Bool:=
  (z0 aB 1048576).bind fun x1=>(if decide (x1 < 0) then some true else (m4 aB).bind fun x39=>(yT aS).bind fun x40=>(AF x39 aW x40).bind fun x41=>mD aB aW aS x41.1 x41.2)
end
end Go.Gv
end
noncomputable section
set_option linter.unusedVariables false
set_option maxHeartbeats 4000000
set_option maxRecDepth 100000
namespace Go.Proofs.YtgjpcfdgefopgaaGreat
open Go.Gv
theorem bT:K7 Tryz.prog 3 1 (.int .i64 0):=HP (b:=8) (by kernel_rfl) rfl
theorem cZ:K7 Tryz.prog 131 1 (.agg #[.slice none 0 0]):=HP (b:=24) (by kernel_rfl) rfl
theorem wE:K7 Tryz.prog 134 4 (.agg #[.bool false,.int .i64 0,.bool false,.int .i64 0]):=HP (b:=32) (by kernel_rfl) rfl
theorem nI:K7 Tryz.prog 106 1 (.agg #[.slice none 0 0]):=HP (b:=24) (by kernel_rfl) rfl
theorem eU:K7 Tryz.prog 99 2 (.agg #[.int .i64 0,.int .i64 0]):=HP (b:=16) (by kernel_rfl) rfl
theorem XU:K7 Tryz.prog 40 1 (.slice none 0 0):=HP (b:=24) (by kernel_rfl) rfl
theorem aAD:K7 Tryz.prog 5 1 (.int .u8 0):=HP (b:=1) (by kernel_rfl) rfl
theorem aH:Tryz.prog.follows .mixedOrders=true:=by kernel_rfl
theorem LD(D:Nat)(d d':cL)(w:World):(Op.eqFields (D+2) #[.bool (d.On),.int .i64 (d.aG),.bool (d.cH),.int .i64 (d.Seen)] #[.bool (d'.On),.int .i64 (d'.aG),.bool (d'.cH),.int .i64 (d'.Seen)] (match Tryz.prog.underlying 134 with | some (.struct fs)=>fs | _=>#[]).toList).run Tryz.prog w=.ok (decide (d=d')) w:=by
  rw [Tryz.underlying134]
  have h:(d.On == d'.On && (d.aG == d'.aG && (d.cH == d'.cH && (d.Seen == d'.Seen && true))))=decide (d=d'):=by
    cases d;cases d';rw [Bool.eq_iff_iff];simp
  rw [←h]
  exact IN _ _ _ _ _ rfl (K6 Tryz.isAgg4 rfl) (K6 Tryz.isAgg4 rfl) (YJ Tryz.underlying4)<|
    IN _ _ _ _ _ rfl (K6 Tryz.isAgg3 rfl) (K6 Tryz.isAgg3 rfl) (aBO Tryz.underlying3)<|
    IN _ _ _ _ _ rfl (K6 Tryz.isAgg4 rfl) (K6 Tryz.isAgg4 rfl) (YJ Tryz.underlying4)<|
    IN _ _ _ _ _ rfl (K6 Tryz.isAgg3 rfl) (K6 Tryz.isAgg3 rfl) (aBO Tryz.underlying3)<|
    aEU _ _ _
set_option maxRecDepth 100000 in
theorem B4{w0:World}{n:Int}(hn:0≤n∧n≤1073741824) :
    Calls Tryz.prog 215 #[.slice none 0 0,.int .i64 n] w0 (Q9 fun v w'=>∃s0_0:Value,v=s0_0∧St (bV w0) w' [bU [s0_0] ([]:List Raw)] []):=by
  have hS:St (bV w0) w0 [] []:=St.enter (by intro f hf;cases hf)
  have hw:a8 (n - a8 (0 - 0))=n:=by
    rw [AY (x:=0 - 0) (by omega),AY (by omega)];omega
  refine aBI (args:=[_,_]) Tryz.func215 rfl Tryz.ntmps215 rfl ?_
  intro a hA
  refine aO ?_
  refine aT hA ?_
  clear hA
  refine c9 (tR rfl rfl) (a9 rfl) rfl rfl ?_
  refine aN ?_
  intro a hA
  refine aO ?_
  refine aO ?_
  refine aT hA ?_
  clear hA
  refine c9 (i9 rfl rfl) (a9 rfl) rfl rfl ?_
  refine c9 (l8 rfl rfl rfl) (a9 rfl) rfl rfl ?_
  refine aN ?_
  intro a hA
  refine eB hA rfl (fun hc=>?_) (fun hc=>?_)
  · exfalso;simp at hc;omega
  refine fC ?_
  refine aO ?_
  refine aO ?_
  refine aT hA ?_
  clear hA
  refine c9 (i9 rfl rfl) (a9 rfl) rfl rfl ?_
  refine c9 (i9 rfl rfl) (a9 rfl) rfl rfl ?_
  refine c9 (S5 Tryz.underlying40 rfl rfl) (a9 rfl) rfl rfl ?_
  refine c9 (i9 rfl rfl) (a9 rfl) rfl rfl ?_
  refine c9 (fP (aBL (α:=Raw) (S:=F0)) Tryz.underlying40 rfl rfl) (a9 rfl) rfl rfl ?_
  refine c9 (WY rfl rfl rfl) (a9 rfl) rfl rfl ?_
  refine c9 (WY rfl rfl rfl) (a9 rfl) rfl rfl ?_
  refine c9 (tR rfl rfl) (a9 rfl) rfl rfl ?_
  refine aN ?_
  intro a hA
  refine aO ?_
  refine aT hA ?_
  clear hA
  refine c9 (i9 rfl rfl) (a9 rfl) rfl rfl ?_
  refine c9 (W1 rfl rfl rfl) (a9 rfl) rfl rfl ?_
  refine aN ?_
  intro a hA
  refine eB hA rfl (fun hc=>?_) (fun hc=>?_)
  · have hn1:0 < n:=by
      have h2:decide (0 < a8 (n - a8 (0 - 0)))=true:=hc
      rw [hw] at h2;simpa using h2
    refine aT hA ?_
    clear hA
    refine c9 (i9 rfl rfl) (a9 rfl) rfl rfl ?_
    refine c9 (i9 rfl rfl) (a9 rfl) rfl rfl ?_
    refine c9 (S5 Tryz.underlying40 rfl rfl) (a9 rfl) rfl rfl ?_
    refine c9 (YR (s:=.slice none 0 0) ⟨_,_,_,rfl⟩ Tryz.underlying40 Tryz.sizeOf131 rfl rfl rfl) (a9 rfl) rfl rfl ?_
    refine c9 (i9 rfl rfl) (a9 rfl) rfl rfl ?_
    refine AW (aE5 (i:=a8 (n - a8 (0 - 0))) hS Tryz.underlying40 Tryz.underlying3 cZ rfl rfl (by rw [hw];omega) rfl rfl rfl) (a9 rfl) rfl rfl ?_
    clear hS
    intro s w hS
    refine c9 (i9 rfl rfl) (a9 rfl) rfl rfl ?_
    refine c9 (fP (aBL (α:=Raw) (S:=F0)) Tryz.underlying40 rfl rfl) (a9 rfl) rfl rfl ?_
    refine c9 (YR (hS.aB7 0 rfl) Tryz.underlying40 Tryz.sizeOf131 rfl rfl rfl) (a9 rfl) rfl rfl ?_
    refine c9 (tR rfl rfl) (a9 rfl) rfl rfl ?_
    refine aN ?_
    intro a hA
    replace hS:=hS.aHI (α:=Raw) 0 rfl rfl
    refine aO ?_
    refine aT hA ?_
    clear hA
    refine c9 (i9 rfl rfl) (a9 rfl) rfl rfl ?_
    refine c9 (tR rfl rfl) (a9 rfl) rfl rfl ?_
    refine aN ?_
    intro a hA
    refine jS ?_
    exact TX Tryz.results215 hA (wY rfl) ⟨_,rfl,(hS.pQ [0] rfl).weaken (R':=[]) (fun _ h=>nomatch h)⟩
  · refine fC ?_
    replace hS:=hS.aHC (α:=Raw)
    refine aO ?_
    refine aT hA ?_
    clear hA
    refine c9 (i9 rfl rfl) (a9 rfl) rfl rfl ?_
    refine c9 (tR rfl rfl) (a9 rfl) rfl rfl ?_
    refine aN ?_
    intro a hA
    refine jS ?_
    exact TX Tryz.results215 hA (wY rfl) ⟨_,rfl,(hS.pQ [0] rfl).weaken (R':=[]) (fun _ h=>nomatch h)⟩
theorem ED{w0:World}{slices:List (List Raw)}{s1:Value}{r:(List Raw)}(h1:aI.rd (D8 w0) w0 [s1] (slices:List (List Raw)))(hF:jN slices=some r) :
    Calls Tryz.prog 181 #[s1] w0 (Q9 fun v w'=>∃(s0_0:Value),v=s0_0∧St (bV w0) w' [bU [s0_0] (r:List Raw)] []):=by
 have hS:St (bV w0) w0 [] [rJ [s1] (slices:List (List Raw))]:=St.enter (by
   intro f hf
   simp only [List.mem_cons,List.not_mem_nil,or_false] at hf
   subst hf;exact h1)
 refine f9 (args:=[_]) Tryz.func181 rfl Tryz.ntmps181 rfl ?_
 unfold jN at hF
 intro a hA
 refine aO<|aT hA ?_
 clear hA
 refine oa rfl rfl<|aN fun a hA=>aO<|aT hA ?_
 clear hA
 refine oa rfl rfl<|aN fun a hA=>aO<|aO<|aT hA ?_
 clear hA
 refine om rfl rfl<|oy (fP (hS.rd 0 rfl) Tryz.underlying200 rfl rfl) rfl<|om rfl rfl<|aN fun a hA=>?_
 obtain⟨o1,hl1,hF⟩:=d6 hF
 refine kO (J:=fun a' w'=>∃(x5:Int),o1=x5∧eH 36 [(0,s1),(3,.int .i64 (x5))] a'∧St (bV w0) w' [] [rJ [s1] (slices:List (List Raw))]) ?_ ?_
 ·refine cW ?_
  refine mH (body:=dF slices) (r:=o1) (fun sg a' w'=>eH 36 [(0,s1),(3,.int .i64 (sg.1)),(9,s1),(10,.int .i64 ((slices.length:Int))),(11,.int .i64 (sg.2))] a'∧St (bV w0) w' [] [rJ [s1] (slices:List (List Raw))]) ?_ hl1 ⟨hA.part ⟨rfl,rfl,rfl,rfl,rfl,trivial⟩,((hS).pQ [] rfl).f8 [0] rfl⟩
  clear hA hS hl1
  rintro⟨x3,x4⟩ a w q1 ⟨hA,hS⟩ hG1 hr1
  try dsimp only at hA hS
  unfold dF at hG1
  refine aO<|aT hA ?_
  clear hA
  refine oy (l8 rfl rfl rfl) rfl<|aN fun a hA=>aO<|eB hA rfl (fun hc2=>?_) (fun hc2=>?_)
  ·replace hG1:=vR hc2 hG1
   refine fC<|aO<|cW<|aO<|aT hA ?_
   clear hA
   obtain⟨x12,hx12,hG1⟩:=d6 hG1
   refine oy (l9 (m:=1) (hS.rd 0 rfl) rfl hx12 Tryz.underlying200 Tryz.sizeOf40 rfl rfl rfl) rfl ?_
   obtain⟨s8,hel,hS⟩:=hS.VK 0 rfl (cX hx12).2.2
   refine oy (d5 rfl rfl Tryz.isAgg40 (aBK hel)) rfl<|oa rfl rfl<|aN fun a hA=>aO<|aT hA ?_
   clear hA
   refine om rfl rfl<|om rfl rfl<|oy (fP (hS.rd 1 rfl) Tryz.underlying40 rfl rfl) rfl<|oy (gQ rfl rfl rfl) rfl<|oa rfl rfl<|aN fun a hA=>aO<|aT hA ?_
   clear hA
   refine om rfl rfl<|oy (l8 rfl rfl rfl) rfl<|aN fun a hA=>eB hA rfl (fun hc3=>?_) (fun hc3=>?_)
   ·replace hG1:=vR hc3 hG1
    refine aT hA ?_
    clear hA
    cases hG1
   ·replace hG1:=vS hc3 hG1
    refine fC<|aT hA ?_
    clear hA
    refine oy (gQ rfl rfl rfl) rfl<|om rfl rfl<|aN fun a hA=>?_
    cases hG1
    exact⟨_,rfl,⟨hA.part ⟨rfl,rfl,rfl,rfl,rfl,trivial⟩,((hS).pQ [] rfl).f8 [0] rfl⟩⟩
  ·replace hG1:=vS hc2 hG1
   refine mG<|g9 ?_
   cases hG1
   have ho:=hr1 _ rfl;subst ho
   exact⟨x3,rfl,hA.part ⟨rfl,rfl,trivial⟩,((hS).pQ [] rfl).f8 [0] rfl⟩
 ·skip
  clear hA hS hl1
  rintro a w ⟨x5,heq,hA,hS⟩
  replace hF:gT slices x5=some r:=by rw [heq] at hF;exact hF
  clear heq
  unfold gT at hF
  refine aO<|aT hA ?_
  clear hA
  refine om rfl rfl ?_
  obtain⟨hn1,hF⟩:=iB hF
  refine GQ (uE Tryz.call215 rfl rfl) (a9 rfl) rfl rfl (B4 hn1) ?_
  rintro s2 w ⟨_,rfl,hk⟩
  replace hS:=hS.after hk;clear hk
  refine oa rfl rfl<|aN fun a hA=>aO<|aO<|aT hA ?_
  clear hA
  refine om rfl rfl<|oy (fP (hS.rd 0 rfl) Tryz.underlying200 rfl rfl) rfl<|om rfl rfl<|aN fun a hA=>?_
  obtain⟨o2,hl2,hF⟩:=d6 hF
  refine kO (J:=fun a' w'=>∃(x10:List Raw) (s5:Value),o2=x10∧eH 36 [(6,s5)] a'∧St (bV w0) w' [bU [s5] (x10:List Raw)] []) ?_ ?_
  ·refine cW ?_
   refine mH (body:=dR slices) (r:=o2) (fun sg a' w'=>∃(s4:Value),eH 36 [(6,s4),(25,s1),(26,.int .i64 ((slices.length:Int))),(27,.int .i64 (sg.2))] a'∧St (bV w0) w' [bU [s4] (sg.1:List Raw)] [rJ [s1] (slices:List (List Raw))]) ?_ hl2 ⟨s2,hA.part ⟨rfl,rfl,rfl,rfl,trivial⟩,((hS).pQ [0] rfl).f8 [0] rfl⟩
   clear hA hS hl2
   rintro⟨x8,x9⟩ a w q2 ⟨s4,hA,hS⟩ hG2 hr2
   try dsimp only at hA hS
   unfold dR at hG2
   refine aO<|aT hA ?_
   clear hA
   refine oy (l8 rfl rfl rfl) rfl<|aN fun a hA=>aO<|eB hA rfl (fun hc1=>?_) (fun hc1=>?_)
   ·replace hG2:=vR hc1 hG2
    refine fC<|aO<|cW<|aO<|aT hA ?_
    clear hA
    obtain⟨x11,hx11,hG2⟩:=d6 hG2
    refine oy (l9 (m:=1) (hS.rd 0 rfl) rfl hx11 Tryz.underlying200 Tryz.sizeOf40 rfl rfl rfl) rfl ?_
    obtain⟨s6,hel,hS⟩:=hS.VK 0 rfl (cX hx11).2.2
    refine oy (d5 rfl rfl Tryz.isAgg40 (aBK hel)) rfl<|oa rfl rfl<|aN fun a hA=>aT hA ?_
    clear hA
    refine om rfl rfl<|om rfl rfl ?_
    obtain⟨hn2,hG2⟩:=iB hG2
    refine AW (S2 (α:=Raw) 0 hS rfl (hS.rd 1 rfl) rfl Tryz.underlying40 cZ rfl hn2 rfl rfl rfl) (a9 rfl) rfl rfl ?_
    clear hS
    rintro s7 w hS
    refine oa rfl rfl<|aN fun a hA=>aT hA ?_
    clear hA
    refine oy (gQ rfl rfl rfl) rfl<|om rfl rfl<|aN fun a hA=>?_
    cases hG2
    exact⟨_,rfl,⟨s7,hA.part ⟨rfl,rfl,rfl,rfl,trivial⟩,((hS).pQ [0] rfl).f8 [0] rfl⟩⟩
   ·replace hG2:=vS hc1 hG2
    refine mG<|g9 ?_
    cases hG2
    have ho:=hr2 _ rfl;subst ho
    exact⟨x8,s4,rfl,hA.part ⟨rfl,trivial⟩,((hS).pQ [0] rfl).f8 [] rfl⟩
  ·skip
   clear hA hS hl2
   rintro a w ⟨x10,s5,heq,hA,hS⟩
   replace hF:kV x10=some r:=by rw [heq] at hF;exact hF
   clear heq
   unfold kV at hF
   refine aO<|aT hA ?_
   clear hA
   refine om rfl rfl<|oa rfl rfl<|aN fun a hA=>jS ?_
   cases hF
   exact TX Tryz.results181 hA (wY rfl) ⟨s5,rfl,(hS.pQ [0] rfl).weaken (R':=[]) (fun _ h=>nomatch h)⟩
theorem A9{w0:World}{n:Int}{low:Int}{high:Int}{r:Bool}(hF:b7 n low high=some r) :
    Calls Tryz.prog 78 #[.int .i64 (n),.int .i64 (low),.int .i64 (high)] w0 (Q9 fun v w'=>v=.bool (r)∧St (bV w0) w' [] []):=by
 have hS:St (bV w0) w0 [] []:=St.enter (by
   intro f hf;cases hf)
 refine f9 (args:=[_,_,_]) Tryz.func78 rfl Tryz.ntmps78 rfl ?_
 unfold b7 at hF
 intro a hA
 refine aO<|aT hA ?_
 clear hA
 refine oa rfl rfl<|aN fun a hA=>aO<|kO (J:=fun a' w'=>∃(x1:Bool),j5 x1=some r∧eH 15 [(6,.bool (x1))] a'∧St (bV w0) w' [] []) ?_ ?_
 ·skip
  refine aT hA ?_
  clear hA
  refine om rfl rfl<|om rfl rfl<|oy (aBE rfl rfl rfl) rfl<|om rfl rfl<|yJ (s:=10) rfl (fun hc1=>?_) (fun hc1=>?_)
  ·replace hF:=vR hc1 hF
   refine c9 (i9 rfl rfl) (bL rfl rfl rfl (by rw [hc1];rfl)) rfl rfl ?_
   refine c9 (i9 rfl rfl) (bL rfl rfl rfl (by rw [hc1];rfl)) rfl rfl ?_
   refine c9 (W0 rfl rfl rfl) (bL rfl rfl rfl (by rw [hc1];rfl)) rfl rfl ?_
   refine oy (nP rfl rfl hc1 rfl) rfl<|oa rfl rfl<|aN fun a hA=>?_
   exact⟨decide (n≤high),hF,hA.part ⟨rfl,trivial⟩,((hS).pQ [] rfl).f8 [] rfl⟩
  ·replace hF:=vS hc1 hF
   refine dD (bL rfl rfl rfl (by rw [hc1];rfl)) rfl rfl ?_
   refine dD (bL rfl rfl rfl (by rw [hc1];rfl)) rfl rfl ?_
   refine dD (bL rfl rfl rfl (by rw [hc1];rfl)) rfl rfl ?_
   refine oy (qZ rfl rfl hc1 rfl) rfl<|oa rfl rfl<|aN fun a hA=>?_
   exact⟨false,hF,hA.part ⟨rfl,trivial⟩,((hS).pQ [] rfl).f8 [] rfl⟩
 ·skip
  clear hA hS hF
  rintro a w ⟨x1,hF,hA,hS⟩
  unfold j5 at hF
  refine jS ?_
  cases hF
  exact fy Tryz.results78 hA rfl hS
theorem RR{w0:World}{slot:Int}{r:Bool}(hF:g8 slot=some r) :
    Calls Tryz.prog 182 #[.int .i64 (slot)] w0 (Q9 fun v w'=>v=.bool (r)∧St (bV w0) w' [] []):=by
 have hS:St (bV w0) w0 [] []:=St.enter (by
   intro f hf;cases hf)
 refine f9 (args:=[_]) Tryz.func182 rfl Tryz.ntmps182 rfl ?_
 unfold g8 at hF
 intro a hA
 refine aO<|aT hA ?_
 clear hA
 refine oa rfl rfl<|aN fun a hA=>aO<|aT hA ?_
 clear hA
 refine om rfl rfl ?_
 obtain⟨x1,hx1,hF⟩:=d6 hF
 refine GQ (uE Tryz.call78 rfl rfl) (a9 rfl) rfl rfl (A9 (n:=slot) (low:=0) (high:=23) hx1) ?_
 rintro _ w ⟨rfl,hk⟩
 replace hS:=hS.after hk;clear hk
 refine oa rfl rfl<|aN fun a hA=>jS ?_
 cases hF
 exact fy Tryz.results182 hA rfl hS
theorem PC{w0:World}{l:aA}{s1:Value}{s2:Value}{r:Bool}(h1:aI.rd (D8 w0) w0 [s1] (l.Global:List aE))(h2:aI.rd (D8 w0) w0 [s2] (l.aV:List aE))(hF:fT l=some r) :
    Calls Tryz.prog 130 #[.agg #[s1,s2]] w0 (Q9 fun v w'=>v=.bool (r)∧St (bV w0) w' [] []):=by
 have hS:St (bV w0) w0 [] [rJ [s1] (l.Global:List aE),rJ [s2] (l.aV:List aE)]:=St.enter (by
   intro f hf
   simp only [List.mem_cons,List.not_mem_nil,or_false] at hf
   rcases hf with rfl | rfl
   · exact h1
   · exact h2)
 refine f9 (args:=[_]) Tryz.func130 rfl Tryz.ntmps130 rfl ?_
 unfold fT at hF
 intro a hA
 refine aO<|aT hA ?_
 clear hA
 refine AW (aHA (cs:=[s1,s2]) hS rfl rfl rfl) (a9 rfl) rfl rfl ?_
 clear hS
 rintro _ w ⟨b1,rfl,hS⟩
 refine oa rfl rfl<|aN fun a hA=>aO<|aO<|kO (J:=fun a' w'=>∃(x1:Bool),lQ l x1=some r∧eH 61 [(1,.pointer (some ⟨b1,0,none⟩)),(17,.bool (x1))] a'∧St (bV w0) w' [tL b1 [s1,s2]] [rJ [s1] (l.Global:List aE),rJ [s2] (l.aV:List aE)]) ?_ ?_
 ·skip
  refine aT hA ?_
  clear hA
  refine oy (iA (m:=0) Tryz.underlying42 rfl rfl Tryz.sizeOf40 rfl rfl) rfl<|oy (d5 rfl rfl Tryz.isAgg40 (hS.cell 0 rfl rfl)) rfl<|oy (fP (hS.rd 0 rfl) Tryz.underlying40 rfl rfl) rfl<|oy (TV rfl rfl rfl) rfl<|om rfl rfl<|yJ (s:=12) rfl (fun hc8=>?_) (fun hc8=>?_)
  ·replace hF:=vR hc8 hF
   refine dD (bL rfl rfl rfl (by rw [hc8];rfl)) rfl rfl ?_
   refine dD (bL rfl rfl rfl (by rw [hc8];rfl)) rfl rfl ?_
   refine dD (bL rfl rfl rfl (by rw [hc8];rfl)) rfl rfl ?_
   refine dD (bL rfl rfl rfl (by rw [hc8];rfl)) rfl rfl ?_
   refine oy (nP rfl rfl hc8 rfl) rfl<|aN fun a hA=>?_
   exact⟨true,hF,hA.part ⟨rfl,rfl,trivial⟩,((hS).pQ [0] rfl).f8 [0,1] rfl⟩
  ·replace hF:=vS hc8 hF
   refine c9 (iA (m:=0) Tryz.underlying42 rfl rfl Tryz.sizeOf40 rfl rfl) (bL rfl rfl rfl (by rw [hc8];rfl)) rfl rfl ?_
   refine c9 (d5 rfl rfl Tryz.isAgg40 (hS.cell 0 rfl rfl)) (bL rfl rfl rfl (by rw [hc8];rfl)) rfl rfl ?_
   refine c9 (fP (hS.rd 1 rfl) Tryz.underlying40 rfl rfl) (bL rfl rfl rfl (by rw [hc8];rfl)) rfl rfl ?_
   refine c9 (TV rfl rfl rfl) (bL rfl rfl rfl (by rw [hc8];rfl)) rfl rfl ?_
   refine oy (qZ rfl rfl hc8 rfl) rfl<|aN fun a hA=>?_
   exact⟨((l.aV.length:Int)) != 9,hF,hA.part ⟨rfl,rfl,trivial⟩,((hS).pQ [0] rfl).f8 [0,1] rfl⟩
 ·skip
  clear hA hS hF
  rintro a w ⟨x1,hF,hA,hS⟩
  unfold lQ at hF
  refine eB hA rfl (fun hc1=>?_) (fun hc1=>?_)
  ·replace hF:=vR hc1 hF
   refine aO<|aT hA ?_
   clear hA
   refine oa rfl rfl<|aN fun a hA=>jS ?_
   cases hF
   exact fy Tryz.results130 hA rfl hS
  ·replace hF:=vS hc1 hF
   refine fC<|aO<|aT hA ?_
   clear hA
   refine oy (J4 (cells:=#[.bool (false),.bool (false),.bool (false),.bool (false),.bool (false),.bool (false),.bool (false),.bool (false),.bool (false),.bool (false),.bool (false),.bool (false),.bool (false),.bool (false),.bool (false),.bool (false),.bool (false),.bool (false),.bool (false),.bool (false),.bool (false),.bool (false),.bool (false),.bool (false)]) rfl Tryz.zeroValue158 Tryz.underlying158 Tryz.sizeOf4 rfl rfl) rfl<|AW (BJ (cs:=List.map (fun q:Bool=>Value.bool q) [false,false,false,false,false,false,false,false,false,false,false,false,false,false,false,false,false,false,false,false,false,false,false,false]) hS rfl Tryz.zeroValue158 rfl) (a9 rfl) rfl rfl ?_
   clear hS
   rintro _ w ⟨b2,rfl,hS⟩
   refine oQ (HO (vs:=[.bool (false),.bool (false),.bool (false),.bool (false),.bool (false),.bool (false),.bool (false),.bool (false),.bool (false),.bool (false),.bool (false),.bool (false),.bool (false),.bool (false),.bool (false),.bool (false),.bool (false),.bool (false),.bool (false),.bool (false),.bool (false),.bool (false),.bool (false),.bool (false)]) hS (i:=1) rfl rfl rfl rfl rfl Tryz.sizeOf158 rfl rfl rfl) (a9 rfl) rfl ?_
   clear hS
   intro w hS
   refine aN fun a hA=>aO<|aO<|aT hA ?_
   clear hA
   refine oy (iA (m:=0) Tryz.underlying42 rfl rfl Tryz.sizeOf40 rfl rfl) rfl<|oy (d5 rfl rfl Tryz.isAgg40 (hS.cell 0 rfl rfl)) rfl<|oy (iA (m:=0) Tryz.underlying42 rfl rfl Tryz.sizeOf40 rfl rfl) rfl<|oy (d5 rfl rfl Tryz.isAgg40 (hS.cell 0 rfl rfl)) rfl<|AW (W8 hS (hS.rd 1 rfl) (hS.rd 0 rfl) Tryz.underlying200 XU rfl rfl rfl) (a9 rfl) rfl rfl ?_
   clear hS
   rintro s3 w hS
   obtain⟨hn1,hF⟩:=iB hF
   replace hS:=hS.aIN 2 rfl
   obtain⟨u1,u2,hu1,hl1,hS⟩:=hS.aE6 rfl 2 1 0 rfl rfl rfl
   refine GQ (uE Tryz.call181 rfl rfl) (a9 rfl) rfl rfl (ED hu1 (BV hl1 hn1)) ?_
   rintro s4 w ⟨_,rfl,hk⟩
   replace hS:=hS.after hk;clear hk
   replace hS:=hS.aIN 3 rfl
   replace hS:=hS.aIV rfl 4 3 rfl rfl
   refine oy (fP (hS.rd 5 rfl) Tryz.underlying40 rfl rfl) rfl<|om rfl rfl<|aN fun a hA=>?_
   obtain⟨o1,hl2,hF⟩:=d6 hF
   refine kO (J:=fun a' w'=>o1=Out.brk (())∧eH 61 [] a'∧St (bV w0) w' [] []) ?_ ?_
   ·refine cW ?_
    refine mH (body:=gM l) (r:=o1) (fun sg a' w'=>eH 61 [(1,.pointer (some ⟨b1,0,none⟩)),(3,.pointer (some ⟨b2,0,none⟩)),(24,s4),(25,.int .i64 (((l.aV++l.Global).length:Int))),(26,.int .i64 (sg.1))] a'∧St (bV w0) w' [tL b1 [s1,s2],tL b2 (List.map (fun q:Bool=>Value.bool q) (sg.2:List Bool))] [rJ [s4] (l.aV++l.Global:List aE),rJ [s1] (l.Global:List aE),rJ [s2] (l.aV:List aE)]) ?_ hl2 ⟨hA.part ⟨rfl,rfl,rfl,rfl,rfl,trivial⟩,((hS).pQ [0,1] rfl).f8 [5,0,1] rfl⟩
    clear hA hS hl2
    rintro⟨x4,x5⟩ a w q2 ⟨hA,hS⟩ hG2 hr2
    try dsimp only at hA hS
    unfold gM at hG2
    refine aO<|aT hA ?_
    clear hA
    refine oy (l8 rfl rfl rfl) rfl<|aN fun a hA=>aO<|eB hA rfl (fun hc2=>?_) (fun hc2=>?_)
    ·replace hG2:=vR hc2 hG2
     refine fC<|aO<|cW<|aO<|aT hA ?_
     clear hA
     refine om rfl rfl ?_
     obtain⟨x6,hx6,hG2⟩:=d6 hG2
     refine oy (l9 (m:=1) (hS.rd 0 rfl) rfl hx6 Tryz.underlying40 Tryz.sizeOf131 rfl rfl rfl) rfl ?_
     obtain⟨s5,hel,hS⟩:=hS.aD0 0 rfl (cX hx6).2.2
     refine oy (EI rfl rfl Tryz.isAgg131 Tryz.sizeOf131 rfl hel) rfl<|AW (BJ (cs:=[(.slice none 0 0)]) hS rfl Tryz.zeroValue131 rfl) (a9 rfl) rfl rfl ?_
     clear hS
     rintro _ w ⟨b3,rfl,hS⟩
     refine oa rfl rfl<|oQ (HO (vs:=[s5]) hS (i:=2) rfl rfl rfl rfl rfl Tryz.sizeOf131 rfl rfl (aHD (N3 (hS.rd 3 rfl)) rfl)) (a9 rfl) rfl ?_
     clear hS
     intro w hS
     refine aN fun a hA=>aO<|aO<|kO (J:=fun a' w'=>∃(x7:Bool),gL x4 x5 x6 x7=some q2∧eH 61 [(1,.pointer (some ⟨b1,0,none⟩)),(3,.pointer (some ⟨b2,0,none⟩)),(5,.pointer (some ⟨b3,0,none⟩)),(24,s4),(25,.int .i64 (((l.aV++l.Global).length:Int))),(26,.int .i64 (x4)),(41,.bool (x7))] a'∧St (bV w0) w' [tL b1 [s1,s2],tL b2 (List.map (fun q:Bool=>Value.bool q) (x5:List Bool)),tL b3 [s5]] [rJ [s4] (l.aV++l.Global:List aE),rJ [s1] (l.Global:List aE),rJ [s2] (l.aV:List aE),rJ [s5] (x6.aK:List Int)]) ?_ ?_
     ·skip
      refine aT hA ?_
      clear hA
      refine om rfl rfl<|oy (iA (m:=0) Tryz.underlying42 rfl rfl Tryz.sizeOf40 rfl rfl) rfl<|oy (d5 rfl rfl Tryz.isAgg40 (hS.cell 0 rfl rfl)) rfl<|oy (fP (hS.rd 2 rfl) Tryz.underlying40 rfl rfl) rfl<|oy (l8 rfl rfl rfl) rfl<|om rfl rfl<|yJ (s:=36) rfl (fun hc7=>?_) (fun hc7=>?_)
      ·replace hG2:=vR hc7 hG2
       refine c9 (iA (m:=0) Tryz.underlying131 rfl rfl Tryz.sizeOf22 rfl rfl) (bL rfl rfl rfl (by rw [hc7];rfl)) rfl rfl ?_
       refine c9 (d5 rfl rfl Tryz.isAgg22 (hS.cell 2 rfl rfl)) (bL rfl rfl rfl (by rw [hc7];rfl)) rfl rfl ?_
       refine c9 (fP (hS.rd 3 rfl) Tryz.underlying22 rfl rfl) (bL rfl rfl rfl (by rw [hc7];rfl)) rfl rfl ?_
       refine c9 (W1 rfl rfl rfl) (bL rfl rfl rfl (by rw [hc7];rfl)) rfl rfl ?_
       refine oy (nP rfl rfl hc7 rfl) rfl<|aN fun a hA=>?_
       exact⟨decide (2 < ((x6.aK.length:Int))),hG2,hA.part ⟨rfl,rfl,rfl,rfl,rfl,rfl,rfl,trivial⟩,((hS).pQ [0,1,2] rfl).f8 [0,1,2,3] rfl⟩
      ·replace hG2:=vS hc7 hG2
       refine dD (bL rfl rfl rfl (by rw [hc7];rfl)) rfl rfl ?_
       refine dD (bL rfl rfl rfl (by rw [hc7];rfl)) rfl rfl ?_
       refine dD (bL rfl rfl rfl (by rw [hc7];rfl)) rfl rfl ?_
       refine dD (bL rfl rfl rfl (by rw [hc7];rfl)) rfl rfl ?_
       refine oy (qZ rfl rfl hc7 rfl) rfl<|aN fun a hA=>?_
       exact⟨false,hG2,hA.part ⟨rfl,rfl,rfl,rfl,rfl,rfl,rfl,trivial⟩,((hS).pQ [0,1,2] rfl).f8 [0,1,2,3] rfl⟩
     ·skip
      clear hA hS hG2
      rintro a w ⟨x7,hG2,hA,hS⟩
      unfold gL at hG2
      refine eB hA rfl (fun hc3=>?_) (fun hc3=>?_)
      ·replace hG2:=vR hc3 hG2
       refine aO<|aT hA ?_
       clear hA
       refine oa rfl rfl<|aN fun a hA=>jS ?_
       cases hG2
       have ho:=hr2 _ rfl;subst ho
       replace hF:some false=some r:=hF
       cases hF
       exact fy Tryz.results130 hA rfl hS
      ·replace hG2:=vS hc3 hG2
       refine fC<|aO<|aT hA ?_
       clear hA
       refine oy (iA (m:=0) Tryz.underlying131 rfl rfl Tryz.sizeOf22 rfl rfl) rfl<|oy (d5 rfl rfl Tryz.isAgg22 (hS.cell 2 rfl rfl)) rfl<|oy (fP (hS.rd 3 rfl) Tryz.underlying22 rfl rfl) rfl<|om rfl rfl<|aN fun a hA=>?_
       obtain⟨o2,hl3,hG2⟩:=d6 hG2
       refine kO (J:=fun a' w'=>∃(x12:List Bool),o2=Out.brk x12∧eH 61 [(1,.pointer (some ⟨b1,0,none⟩)),(3,.pointer (some ⟨b2,0,none⟩)),(24,s4),(25,.int .i64 (((l.aV++l.Global).length:Int))),(26,.int .i64 (x4))] a'∧St (bV w0) w' [tL b1 [s1,s2],tL b2 (List.map (fun q:Bool=>Value.bool q) (x12:List Bool))] [rJ [s4] (l.aV++l.Global:List aE),rJ [s1] (l.Global:List aE),rJ [s2] (l.aV:List aE)]) ?_ ?_
       ·refine cW ?_
        refine mH (body:=gK x6) (r:=o2) (fun sg a' w'=>eH 61 [(1,.pointer (some ⟨b1,0,none⟩)),(3,.pointer (some ⟨b2,0,none⟩)),(24,s4),(25,.int .i64 (((l.aV++l.Global).length:Int))),(26,.int .i64 (x4)),(43,s5),(44,.int .i64 ((x6.aK.length:Int))),(45,.int .i64 (sg.1))] a'∧St (bV w0) w' [tL b1 [s1,s2],tL b2 (List.map (fun q:Bool=>Value.bool q) (sg.2:List Bool))] [rJ [s4] (l.aV++l.Global:List aE),rJ [s5] (x6.aK:List Int),rJ [s1] (l.Global:List aE),rJ [s2] (l.aV:List aE)]) ?_ hl3 ⟨hA.part ⟨rfl,rfl,rfl,rfl,rfl,rfl,rfl,rfl,trivial⟩,((hS).pQ [0,1] rfl).f8 [0,3,1,2] rfl⟩
        clear hA hS hl3
        rintro⟨x10,x11⟩ a w q4 ⟨hA,hS⟩ hG4 hr4
        try dsimp only at hA hS
        unfold gK at hG4
        refine aO<|aT hA ?_
        clear hA
        refine oy (l8 rfl rfl rfl) rfl<|aN fun a hA=>aO<|eB hA rfl (fun hc4=>?_) (fun hc4=>?_)
        ·replace hG4:=vR hc4 hG4
         refine fC<|aO<|cW<|aO<|aT hA ?_
         clear hA
         obtain⟨x13,hx13,hG4⟩:=d6 hG4
         refine oy (l9 (m:=1) (hS.rd 1 rfl) rfl hx13 Tryz.underlying22 Tryz.sizeOf3 rfl rfl rfl) rfl<|oy (d5 rfl rfl Tryz.isAgg3 (aBK (W4 (hS.rd 1 rfl) (cX hx13).2.2))) rfl<|oa rfl rfl<|aN fun a hA=>aO<|aO<|kO (J:=fun a' w'=>∃(x14:Bool),i4 x10 x11 x13 x14=some q4∧eH 61 [(1,.pointer (some ⟨b1,0,none⟩)),(3,.pointer (some ⟨b2,0,none⟩)),(7,.int .i64 (x13)),(24,s4),(25,.int .i64 (((l.aV++l.Global).length:Int))),(26,.int .i64 (x4)),(43,s5),(44,.int .i64 ((x6.aK.length:Int))),(45,.int .i64 (x10)),(56,.bool (x14))] a'∧St (bV w0) w' [tL b1 [s1,s2],tL b2 (List.map (fun q:Bool=>Value.bool q) (x11:List Bool))] [rJ [s4] (l.aV++l.Global:List aE),rJ [s5] (x6.aK:List Int),rJ [s1] (l.Global:List aE),rJ [s2] (l.aV:List aE)]) ?_ ?_
         ·skip
          refine aT hA ?_
          clear hA
          refine om rfl rfl ?_
          obtain⟨x16,hx16,hG4⟩:=d6 hG4
          refine GQ (uE Tryz.call182 rfl rfl) (a9 rfl) rfl rfl (RR (slot:=x13) hx16) ?_
          rintro _ w ⟨rfl,hk⟩
          replace hS:=hS.after hk;clear hk
          refine oy (NV rfl rfl) rfl<|om rfl rfl<|yJ (s:=52) rfl (fun hc6=>?_) (fun hc6=>?_)
          ·replace hG4:=vR hc6 hG4
           refine dD (bL rfl rfl rfl (by rw [hc6];rfl)) rfl rfl ?_
           refine dD (bL rfl rfl rfl (by rw [hc6];rfl)) rfl rfl ?_
           refine dD (bL rfl rfl rfl (by rw [hc6];rfl)) rfl rfl ?_
           refine oy (nP rfl rfl hc6 rfl) rfl<|aN fun a hA=>?_
           exact⟨true,hG4,hA.part ⟨rfl,rfl,rfl,rfl,rfl,rfl,rfl,rfl,rfl,rfl,trivial⟩,((hS).pQ [0,1] rfl).f8 [0,1,2,3] rfl⟩
          ·replace hG4:=vS hc6 hG4
           refine c9 (i9 rfl rfl) (bL rfl rfl rfl (by rw [hc6];rfl)) rfl rfl ?_
           obtain⟨hn3,hG4⟩:=iB hG4
           refine c9 (NC Tryz.underlying158 Tryz.sizeOf4 hn3 rfl rfl rfl) (bL rfl rfl rfl (by rw [hc6];rfl)) rfl rfl ?_
           obtain⟨x17,hx17,hG4⟩:=d6 hG4
           refine c9 (d5 rfl rfl Tryz.isAgg4 (hS.YQ 1 rfl hx17)) (bL rfl rfl rfl (by rw [hc6];rfl)) rfl rfl ?_
           refine oy (qZ rfl rfl hc6 rfl) rfl<|aN fun a hA=>?_
           exact⟨x17,hG4,hA.part ⟨rfl,rfl,rfl,rfl,rfl,rfl,rfl,rfl,rfl,rfl,trivial⟩,((hS).pQ [0,1] rfl).f8 [0,1,2,3] rfl⟩
         ·skip
          clear hA hS hG4
          rintro a w ⟨x14,hG4,hA,hS⟩
          unfold i4 at hG4
          refine eB hA rfl (fun hc5=>?_) (fun hc5=>?_)
          ·replace hG4:=vR hc5 hG4
           refine aO<|aT hA ?_
           clear hA
           refine oa rfl rfl<|aN fun a hA=>jS ?_
           cases hG4
           have ho:=hr4 _ rfl;subst ho
           replace hG2:some (.stop (Out.ret false))=some q2:=hG2
           cases hG2
           have ho:=hr2 _ rfl;subst ho
           replace hF:some false=some r:=hF
           cases hF
           exact fy Tryz.results130 hA rfl hS
          ·replace hG4:=vS hc5 hG4
           refine fC<|aT hA ?_
           clear hA
           refine om rfl rfl ?_
           obtain⟨hn2,hG4⟩:=iB hG4
           refine oy (NC Tryz.underlying158 Tryz.sizeOf4 hn2 rfl rfl rfl) rfl ?_
           obtain⟨x15,hx15,hG4⟩:=d6 hG4
           refine oQ (aB3 (xd:=true) hS (m:=1) rfl hx15 Tryz.sizeOf4 rfl rfl rfl rfl rfl rfl) (a9 rfl) rfl ?_
           clear hS
           intro w hS
           refine aN fun a hA=>aT hA ?_
           clear hA
           refine oy (gQ rfl rfl rfl) rfl<|om rfl rfl<|aN fun a hA=>?_
           cases hG4
           exact⟨_,rfl,⟨hA.part ⟨rfl,rfl,rfl,rfl,rfl,rfl,rfl,rfl,trivial⟩,((hS).pQ [0,1] rfl).f8 [0,1,2,3] rfl⟩⟩
        ·replace hG4:=vS hc4 hG4
         refine mG<|g9 ?_
         cases hG4
         have ho:=hr4 _ rfl;subst ho
         exact⟨x11,rfl,hA.part ⟨rfl,rfl,rfl,rfl,rfl,trivial⟩,((hS).pQ [0,1] rfl).f8 [0,2,3] rfl⟩
       ·skip
        clear hA hS hl3
        rintro a w ⟨x12,heq,hA,hS⟩
        replace hG2:pZ x4 x12=some q2:=by rw [heq] at hG2;exact hG2
        clear heq
        unfold pZ at hG2
        refine aT hA ?_
        clear hA
        refine oy (gQ rfl rfl rfl) rfl<|om rfl rfl<|aN fun a hA=>?_
        cases hG2
        exact⟨_,rfl,⟨hA.part ⟨rfl,rfl,rfl,rfl,rfl,trivial⟩,((hS).pQ [0,1] rfl).f8 [0,1,2] rfl⟩⟩
    ·replace hG2:=vS hc2 hG2
     refine mG<|g9 ?_
     cases hG2
     have ho:=hr2 _ rfl;subst ho
     exact⟨rfl,hA.part trivial,((hS).pQ [] rfl).f8 [] rfl⟩
   ·skip
    clear hA hS hl2
    rintro a w ⟨heq,hA,hS⟩
    replace hF:wQ=some r:=by rw [heq] at hF;exact hF
    clear heq
    unfold wQ at hF
    refine aO<|aT hA ?_
    clear hA
    refine oa rfl rfl<|aN fun a hA=>jS ?_
    cases hF
    exact fy Tryz.results130 hA rfl hS
theorem MG{w0:World}{h:Int}{r:Bool}(hF:fU h=some r) :
    Calls Tryz.prog 134 #[.int .i64 (h)] w0 (Q9 fun v w'=>v=.bool (r)∧St (bV w0) w' [] []):=by
 have hS:St (bV w0) w0 [] []:=St.enter (by
   intro f hf;cases hf)
 refine f9 (args:=[_]) Tryz.func134 rfl Tryz.ntmps134 rfl ?_
 unfold fU at hF
 intro a hA
 refine aO<|aT hA ?_
 clear hA
 refine oa rfl rfl<|aN fun a hA=>aO<|kO (J:=fun a' w'=>∃(x1:Bool),hQ x1=some r∧eH 10 [(2,.bool (x1))] a'∧St (bV w0) w' [] []) ?_ ?_
 ·skip
  refine aT hA ?_
  clear hA
  refine om rfl rfl ?_
  obtain⟨x2,hx2,hF⟩:=d6 hF
  refine GQ (uE Tryz.call78 rfl rfl) (a9 rfl) rfl rfl (A9 (n:=h) (low:=32) (high:=223) hx2) ?_
  rintro _ w ⟨rfl,hk⟩
  replace hS:=hS.after hk;clear hk
  refine om rfl rfl<|yJ (s:=5) rfl (fun hc1=>?_) (fun hc1=>?_)
  ·replace hF:=vR hc1 hF
   refine c9 (i9 rfl rfl) (bL rfl rfl rfl (by rw [hc1];rfl)) rfl rfl ?_
   refine c9 (HN rfl rfl rfl (by decide)) (bL rfl rfl rfl (by rw [hc1];rfl)) rfl rfl ?_
   refine c9 (l8 rfl rfl rfl) (bL rfl rfl rfl (by rw [hc1];rfl)) rfl rfl ?_
   refine oy (nP rfl rfl hc1 rfl) rfl<|oa rfl rfl<|aN fun a hA=>?_
   exact⟨decide ((Int.tmod h 32) < 24),hF,hA.part ⟨rfl,trivial⟩,((hS).pQ [] rfl).f8 [] rfl⟩
  ·replace hF:=vS hc1 hF
   refine dD (bL rfl rfl rfl (by rw [hc1];rfl)) rfl rfl ?_
   refine dD (bL rfl rfl rfl (by rw [hc1];rfl)) rfl rfl ?_
   refine dD (bL rfl rfl rfl (by rw [hc1];rfl)) rfl rfl ?_
   refine oy (qZ rfl rfl hc1 rfl) rfl<|oa rfl rfl<|aN fun a hA=>?_
   exact⟨false,hF,hA.part ⟨rfl,trivial⟩,((hS).pQ [] rfl).f8 [] rfl⟩
 ·skip
  clear hA hS hF
  rintro a w ⟨x1,hF,hA,hS⟩
  unfold hQ at hF
  refine jS ?_
  cases hF
  exact fy Tryz.results134 hA rfl hS
theorem KQ{w0:World}{l:List aJ}{s1:Value}{r:Int}(h1:aI.rd (D8 w0) w0 [s1] (l:List aJ))(hF:m9 l=some r) :
    Calls Tryz.prog 135 #[s1] w0 (Q9 fun v w'=>v=.int .i64 (r)∧St (bV w0) w' [] []):=by
 have hS:St (bV w0) w0 [] [rJ [s1] (l:List aJ)]:=St.enter (by
   intro f hf
   simp only [List.mem_cons,List.not_mem_nil,or_false] at hf
   subst hf;exact h1)
 refine f9 (args:=[_]) Tryz.func135 rfl Tryz.ntmps135 rfl ?_
 unfold m9 at hF
 intro a hA
 refine aO<|aT hA ?_
 clear hA
 refine oa rfl rfl<|aN fun a hA=>aO<|aT hA ?_
 clear hA
 refine oa rfl rfl<|aN fun a hA=>aO<|aO<|aT hA ?_
 clear hA
 refine om rfl rfl<|oy (fP (hS.rd 0 rfl) Tryz.underlying48 rfl rfl) rfl<|om rfl rfl<|aN fun a hA=>?_
 obtain⟨o1,hl1,hF⟩:=d6 hF
 refine kO (J:=fun a' w'=>∃(x5:Int),o1=x5∧eH 19 [(3,.int .i64 (x5))] a'∧St (bV w0) w' [] []) ?_ ?_
 ·refine cW ?_
  refine mH (body:=eT l) (r:=o1) (fun sg a' w'=>eH 19 [(3,.int .i64 (sg.1)),(6,s1),(7,.int .i64 ((l.length:Int))),(8,.int .i64 (sg.2))] a'∧St (bV w0) w' [] [rJ [s1] (l:List aJ)]) ?_ hl1 ⟨hA.part ⟨rfl,rfl,rfl,rfl,trivial⟩,((hS).pQ [] rfl).f8 [0] rfl⟩
  clear hA hS hl1
  rintro⟨x3,x4⟩ a w q1 ⟨hA,hS⟩ hG1 hr1
  try dsimp only at hA hS
  unfold eT at hG1
  refine aO<|aT hA ?_
  clear hA
  refine oy (l8 rfl rfl rfl) rfl<|aN fun a hA=>aO<|eB hA rfl (fun hc1=>?_) (fun hc1=>?_)
  ·replace hG1:=vR hc1 hG1
   refine fC<|aO<|cW<|aO<|aT hA ?_
   clear hA
   obtain⟨x6,hx6,hG1⟩:=d6 hG1
   refine oy (l9 (m:=1) (hS.rd 0 rfl) rfl hx6 Tryz.underlying48 Tryz.sizeOf106 rfl rfl rfl) rfl ?_
   obtain⟨s2,hel,hS⟩:=hS.WD 0 rfl (cX hx6).2.2
   refine oy (EI rfl rfl Tryz.isAgg106 Tryz.sizeOf106 rfl hel) rfl<|AW (BJ (cs:=[(.slice none 0 0)]) hS rfl Tryz.zeroValue106 rfl) (a9 rfl) rfl rfl ?_
   clear hS
   rintro _ w ⟨b1,rfl,hS⟩
   refine oQ (HO (vs:=[s2]) hS (i:=0) rfl rfl rfl rfl rfl Tryz.sizeOf106 rfl rfl (aHD (N3 (hS.rd 1 rfl)) rfl)) (a9 rfl) rfl ?_
   clear hS
   intro w hS
   refine aN fun a hA=>aT hA ?_
   clear hA
   refine om rfl rfl<|oy (iA (m:=0) Tryz.underlying106 rfl rfl Tryz.sizeOf95 rfl rfl) rfl<|oy (d5 rfl rfl Tryz.isAgg95 (hS.cell 0 rfl rfl)) rfl<|oy (fP (hS.rd 1 rfl) Tryz.underlying95 rfl rfl) rfl<|oy (gQ rfl rfl rfl) rfl<|oa rfl rfl<|aN fun a hA=>aT hA ?_
   clear hA
   refine oy (gQ rfl rfl rfl) rfl<|om rfl rfl<|aN fun a hA=>?_
   cases hG1
   exact⟨_,rfl,⟨hA.part ⟨rfl,rfl,rfl,rfl,trivial⟩,((hS).pQ [] rfl).f8 [0] rfl⟩⟩
  ·replace hG1:=vS hc1 hG1
   refine mG<|g9 ?_
   cases hG1
   have ho:=hr1 _ rfl;subst ho
   exact⟨x3,rfl,hA.part ⟨rfl,trivial⟩,((hS).pQ [] rfl).f8 [] rfl⟩
 ·skip
  clear hA hS hl1
  rintro a w ⟨x5,heq,hA,hS⟩
  replace hF:sD x5=some r:=by rw [heq] at hF;exact hF
  clear heq
  unfold sD at hF
  refine aO<|aT hA ?_
  clear hA
  refine om rfl rfl<|oa rfl rfl<|aN fun a hA=>jS ?_
  cases hF
  exact fy Tryz.results135 hA rfl hS
theorem PD{w0:World}{l:List aJ}{s1:Value}{r:Bool}(h1:aI.rd (D8 w0) w0 [s1] (l:List aJ))(hF:gU l=some r) :
    Calls Tryz.prog 71 #[s1] w0 (Q9 fun v w'=>v=.bool (r)∧St (bV w0) w' [] []):=by
 have hS:St (bV w0) w0 [] [rJ [s1] (l:List aJ)]:=St.enter (by
   intro f hf
   simp only [List.mem_cons,List.not_mem_nil,or_false] at hf
   subst hf;exact h1)
 refine f9 (args:=[_]) Tryz.func71 rfl Tryz.ntmps71 rfl ?_
 unfold gU at hF
 intro a hA
 refine aO<|aT hA ?_
 clear hA
 refine oa rfl rfl<|aN fun a hA=>aO<|aO<|aT hA ?_
 clear hA
 refine om rfl rfl<|oy (fP (hS.rd 0 rfl) Tryz.underlying48 rfl rfl) rfl<|oy (TV rfl rfl rfl) rfl<|aN fun a hA=>eB hA rfl (fun hc1=>?_) (fun hc1=>?_)
 ·replace hF:=vR hc1 hF
  refine aO<|aT hA ?_
  clear hA
  refine oa rfl rfl<|aN fun a hA=>jS ?_
  cases hF
  exact fy Tryz.results71 hA rfl hS
 ·replace hF:=vS hc1 hF
  refine fC<|aO<|aT hA ?_
  clear hA
  refine oy (J4 (cells:=#[.bool (false),.bool (false),.bool (false),.bool (false),.bool (false),.bool (false),.bool (false),.bool (false),.bool (false),.bool (false),.bool (false),.bool (false),.bool (false),.bool (false),.bool (false),.bool (false),.bool (false),.bool (false),.bool (false),.bool (false),.bool (false),.bool (false),.bool (false),.bool (false)]) rfl Tryz.zeroValue158 Tryz.underlying158 Tryz.sizeOf4 rfl rfl) rfl<|AW (BJ (cs:=List.map (fun q:Bool=>Value.bool q) [false,false,false,false,false,false,false,false,false,false,false,false,false,false,false,false,false,false,false,false,false,false,false,false]) hS rfl Tryz.zeroValue158 rfl) (a9 rfl) rfl rfl ?_
  clear hS
  rintro _ w ⟨b1,rfl,hS⟩
  refine oQ (HO (vs:=[.bool (false),.bool (false),.bool (false),.bool (false),.bool (false),.bool (false),.bool (false),.bool (false),.bool (false),.bool (false),.bool (false),.bool (false),.bool (false),.bool (false),.bool (false),.bool (false),.bool (false),.bool (false),.bool (false),.bool (false),.bool (false),.bool (false),.bool (false),.bool (false)]) hS (i:=0) rfl rfl rfl rfl rfl Tryz.sizeOf158 rfl rfl rfl) (a9 rfl) rfl ?_
  clear hS
  intro w hS
  refine aN fun a hA=>aO<|aO<|aT hA ?_
  clear hA
  refine om rfl rfl<|oy (fP (hS.rd 0 rfl) Tryz.underlying48 rfl rfl) rfl<|om rfl rfl<|aN fun a hA=>?_
  obtain⟨o1,hl1,hF⟩:=d6 hF
  refine kO (J:=fun a' w'=>o1=Out.brk (())∧eH 51 [(0,s1)] a'∧St (bV w0) w' [] [rJ [s1] (l:List aJ)]) ?_ ?_
  ·refine cW ?_
   refine mH (body:=gO l) (r:=o1) (fun sg a' w'=>eH 51 [(0,s1),(3,.pointer (some ⟨b1,0,none⟩)),(12,s1),(13,.int .i64 ((l.length:Int))),(14,.int .i64 (sg.1))] a'∧St (bV w0) w' [tL b1 (List.map (fun q:Bool=>Value.bool q) (sg.2:List Bool))] [rJ [s1] (l:List aJ)]) ?_ hl1 ⟨hA.part ⟨rfl,rfl,rfl,rfl,rfl,trivial⟩,((hS).pQ [0] rfl).f8 [0] rfl⟩
   clear hA hS hl1
   rintro⟨x3,x4⟩ a w q1 ⟨hA,hS⟩ hG1 hr1
   try dsimp only at hA hS
   unfold gO at hG1
   refine aO<|aT hA ?_
   clear hA
   refine oy (l8 rfl rfl rfl) rfl<|aN fun a hA=>aO<|eB hA rfl (fun hc2=>?_) (fun hc2=>?_)
   ·replace hG1:=vR hc2 hG1
    refine fC<|aO<|cW<|aO<|aT hA ?_
    clear hA
    obtain⟨x6,hx6,hG1⟩:=d6 hG1
    refine oy (l9 (m:=1) (hS.rd 0 rfl) rfl hx6 Tryz.underlying48 Tryz.sizeOf106 rfl rfl rfl) rfl ?_
    obtain⟨s2,hel,hS⟩:=hS.WD 0 rfl (cX hx6).2.2
    refine oy (EI rfl rfl Tryz.isAgg106 Tryz.sizeOf106 rfl hel) rfl<|AW (BJ (cs:=[(.slice none 0 0)]) hS rfl Tryz.zeroValue106 rfl) (a9 rfl) rfl rfl ?_
    clear hS
    rintro _ w ⟨b2,rfl,hS⟩
    refine oQ (HO (vs:=[s2]) hS (i:=1) rfl rfl rfl rfl rfl Tryz.sizeOf106 rfl rfl (aHD (N3 (hS.rd 1 rfl)) rfl)) (a9 rfl) rfl ?_
    clear hS
    intro w hS
    refine aN fun a hA=>aO<|aT hA ?_
    clear hA
    refine oy (iA (m:=0) Tryz.underlying106 rfl rfl Tryz.sizeOf95 rfl rfl) rfl<|oy (d5 rfl rfl Tryz.isAgg95 (hS.cell 1 rfl rfl)) rfl<|oy (fP (hS.rd 1 rfl) Tryz.underlying95 rfl rfl) rfl<|om rfl rfl<|aN fun a hA=>?_
    obtain⟨o2,hl2,hG1⟩:=d6 hG1
    refine kO (J:=fun a' w'=>∃(x11:List Bool),o2=Out.brk x11∧eH 51 [(0,s1),(3,.pointer (some ⟨b1,0,none⟩)),(12,s1),(13,.int .i64 ((l.length:Int))),(14,.int .i64 (x3))] a'∧St (bV w0) w' [tL b1 (List.map (fun q:Bool=>Value.bool q) (x11:List Bool))] [rJ [s1] (l:List aJ)]) ?_ ?_
    ·refine cW ?_
     refine mH (body:=gN x6) (r:=o2) (fun sg a' w'=>eH 51 [(0,s1),(3,.pointer (some ⟨b1,0,none⟩)),(12,s1),(13,.int .i64 ((l.length:Int))),(14,.int .i64 (x3)),(19,s2),(20,.int .i64 ((x6.Rows.length:Int))),(21,.int .i64 (sg.1))] a'∧St (bV w0) w' [tL b1 (List.map (fun q:Bool=>Value.bool q) (sg.2:List Bool))] [rJ [s1] (l:List aJ),rJ [s2] (x6.Rows:List bC)]) ?_ hl2 ⟨hA.part ⟨rfl,rfl,rfl,rfl,rfl,rfl,rfl,rfl,trivial⟩,((hS).pQ [0] rfl).f8 [0,1] rfl⟩
     clear hA hS hl2
     rintro⟨x9,x10⟩ a w q2 ⟨hA,hS⟩ hG2 hr2
     try dsimp only at hA hS
     unfold gN at hG2
     refine aO<|aT hA ?_
     clear hA
     refine oy (l8 rfl rfl rfl) rfl<|aN fun a hA=>aO<|eB hA rfl (fun hc3=>?_) (fun hc3=>?_)
     ·replace hG2:=vR hc3 hG2
      refine fC<|aO<|cW<|aO<|aT hA ?_
      clear hA
      obtain⟨x12,hx12,hG2⟩:=d6 hG2
      refine oy (l9 (m:=2) (hS.rd 1 rfl) rfl hx12 Tryz.underlying95 Tryz.sizeOf99 rfl rfl rfl) rfl<|oy (EI rfl rfl Tryz.isAgg99 Tryz.sizeOf99 rfl (UK (hS.rd 1 rfl) (cX hx12).2.2)) rfl<|AW (BJ (cs:=[.int .i64 (0),.int .i64 (0)]) hS rfl Tryz.zeroValue99 rfl) (a9 rfl) rfl rfl ?_
      clear hS
      rintro _ w ⟨b3,rfl,hS⟩
      refine oQ (HO (vs:=[.int .i64 (x12.Handle),.int .i64 (x12.aG)]) hS (i:=1) rfl rfl rfl rfl rfl Tryz.sizeOf99 rfl rfl rfl) (a9 rfl) rfl ?_
      clear hS
      intro w hS
      refine aN fun a hA=>aO<|aO<|kO (J:=fun a' w'=>∃(x13:Bool),eY x9 x10 x12 x13=some q2∧eH 51 [(0,s1),(3,.pointer (some ⟨b1,0,none⟩)),(7,.pointer (some ⟨b3,0,none⟩)),(12,s1),(13,.int .i64 ((l.length:Int))),(14,.int .i64 (x3)),(19,s2),(20,.int .i64 ((x6.Rows.length:Int))),(21,.int .i64 (x9)),(41,.bool (x13))] a'∧St (bV w0) w' [tL b1 (List.map (fun q:Bool=>Value.bool q) (x10:List Bool)),tL b3 [.int .i64 (x12.Handle),.int .i64 (x12.aG)]] [rJ [s1] (l:List aJ),rJ [s2] (x6.Rows:List bC)]) ?_ ?_
      ·skip
       refine aT hA ?_
       clear hA
       refine oy (iA (m:=0) Tryz.underlying99 rfl rfl Tryz.sizeOf3 rfl rfl) rfl<|oy (d5 rfl rfl Tryz.isAgg3 (hS.cell 1 rfl rfl)) rfl ?_
       obtain⟨x15,hx15,hG2⟩:=d6 hG2
       refine GQ (uE Tryz.call134 rfl rfl) (a9 rfl) rfl rfl (MG (h:=x12.Handle) hx15) ?_
       rintro _ w ⟨rfl,hk⟩
       replace hS:=hS.after hk;clear hk
       refine oy (NV rfl rfl) rfl<|om rfl rfl<|yJ (s:=29) rfl (fun hc5=>?_) (fun hc5=>?_)
       ·replace hG2:=vR hc5 hG2
        refine dD (bL rfl rfl rfl (by rw [hc5];rfl)) rfl rfl ?_
        refine dD (bL rfl rfl rfl (by rw [hc5];rfl)) rfl rfl ?_
        refine dD (bL rfl rfl rfl (by rw [hc5];rfl)) rfl rfl ?_
        refine dD (bL rfl rfl rfl (by rw [hc5];rfl)) rfl rfl ?_
        refine oy (nP rfl rfl hc5 rfl) rfl<|om rfl rfl<|dD (bL rfl rfl rfl rfl) rfl rfl<|dD (bL rfl rfl rfl rfl) rfl rfl<|dD (bL rfl rfl rfl rfl) rfl rfl<|dD (bL rfl rfl rfl rfl) rfl rfl<|dD (bL rfl rfl rfl rfl) rfl rfl<|oy (nP rfl rfl rfl rfl) rfl<|aN fun a hA=>?_
        exact⟨true,hG2,hA.part ⟨rfl,rfl,rfl,rfl,rfl,rfl,rfl,rfl,rfl,rfl,trivial⟩,((hS).pQ [0,1] rfl).f8 [0,1] rfl⟩
       ·replace hG2:=vS hc5 hG2
        refine c9 (iA (m:=0) Tryz.underlying99 rfl rfl Tryz.sizeOf3 rfl rfl) (bL rfl rfl rfl (by rw [hc5];rfl)) rfl rfl ?_
        refine c9 (d5 rfl rfl Tryz.isAgg3 (hS.cell 1 rfl rfl)) (bL rfl rfl rfl (by rw [hc5];rfl)) rfl rfl ?_
        obtain⟨x16,hx16,hG2⟩:=d6 hG2
        refine GQ (uE Tryz.call78 rfl rfl) (bL rfl rfl rfl (by rw [hc5];rfl)) rfl rfl (A9 (n:=x12.aG) (low:=0) (high:=100000) hx16) ?_
        rintro _ w ⟨rfl,hk⟩
        replace hS:=hS.after hk;clear hk
        refine c9 (NV rfl rfl) (bL rfl rfl rfl (by rw [hc5];rfl)) rfl rfl ?_
        refine oy (qZ rfl rfl hc5 rfl) rfl<|om rfl rfl<|yJ (s:=35) rfl (fun hc6=>?_) (fun hc6=>?_)
        ·replace hG2:=vR hc6 hG2
         refine dD (bL rfl rfl rfl (by rw [hc6];rfl)) rfl rfl ?_
         refine dD (bL rfl rfl rfl (by rw [hc6];rfl)) rfl rfl ?_
         refine dD (bL rfl rfl rfl (by rw [hc6];rfl)) rfl rfl ?_
         refine dD (bL rfl rfl rfl (by rw [hc6];rfl)) rfl rfl ?_
         refine dD (bL rfl rfl rfl (by rw [hc6];rfl)) rfl rfl ?_
         refine oy (nP rfl rfl hc6 rfl) rfl<|aN fun a hA=>?_
         exact⟨true,hG2,hA.part ⟨rfl,rfl,rfl,rfl,rfl,rfl,rfl,rfl,rfl,rfl,trivial⟩,((hS).pQ [0,1] rfl).f8 [0,1] rfl⟩
        ·replace hG2:=vS hc6 hG2
         refine c9 (iA (m:=0) Tryz.underlying99 rfl rfl Tryz.sizeOf3 rfl rfl) (bL rfl rfl rfl (by rw [hc6];rfl)) rfl rfl ?_
         refine c9 (d5 rfl rfl Tryz.isAgg3 (hS.cell 1 rfl rfl)) (bL rfl rfl rfl (by rw [hc6];rfl)) rfl rfl ?_
         refine c9 (HN rfl rfl rfl (by decide)) (bL rfl rfl rfl (by rw [hc6];rfl)) rfl rfl ?_
         obtain⟨hn2,hG2⟩:=iB hG2
         refine c9 (NC Tryz.underlying158 Tryz.sizeOf4 hn2 rfl rfl rfl) (bL rfl rfl rfl (by rw [hc6];rfl)) rfl rfl ?_
         obtain⟨x17,hx17,hG2⟩:=d6 hG2
         refine c9 (d5 rfl rfl Tryz.isAgg4 (hS.YQ 0 rfl hx17)) (bL rfl rfl rfl (by rw [hc6];rfl)) rfl rfl ?_
         refine oy (qZ rfl rfl hc6 rfl) rfl<|aN fun a hA=>?_
         exact⟨x17,hG2,hA.part ⟨rfl,rfl,rfl,rfl,rfl,rfl,rfl,rfl,rfl,rfl,trivial⟩,((hS).pQ [0,1] rfl).f8 [0,1] rfl⟩
      ·skip
       clear hA hS hG2
       rintro a w ⟨x13,hG2,hA,hS⟩
       unfold eY at hG2
       refine eB hA rfl (fun hc4=>?_) (fun hc4=>?_)
       ·replace hG2:=vR hc4 hG2
        refine aO<|aT hA ?_
        clear hA
        refine oa rfl rfl<|aN fun a hA=>jS ?_
        cases hG2
        have ho:=hr2 _ rfl;subst ho
        replace hG1:some (.stop (Out.ret false))=some q1:=hG1
        cases hG1
        have ho:=hr1 _ rfl;subst ho
        replace hF:some false=some r:=hF
        cases hF
        exact fy Tryz.results71 hA rfl hS
       ·replace hG2:=vS hc4 hG2
        refine fC<|aT hA ?_
        clear hA
        refine oy (iA (m:=0) Tryz.underlying99 rfl rfl Tryz.sizeOf3 rfl rfl) rfl<|oy (d5 rfl rfl Tryz.isAgg3 (hS.cell 1 rfl rfl)) rfl<|oy (HN rfl rfl rfl (by decide)) rfl ?_
        obtain⟨hn1,hG2⟩:=iB hG2
        refine oy (NC Tryz.underlying158 Tryz.sizeOf4 hn1 rfl rfl rfl) rfl ?_
        obtain⟨x14,hx14,hG2⟩:=d6 hG2
        refine oQ (aB3 (xd:=true) hS (m:=0) rfl hx14 Tryz.sizeOf4 rfl rfl rfl rfl rfl rfl) (a9 rfl) rfl ?_
        clear hS
        intro w hS
        refine aN fun a hA=>aT hA ?_
        clear hA
        refine oy (gQ rfl rfl rfl) rfl<|om rfl rfl<|aN fun a hA=>?_
        cases hG2
        exact⟨_,rfl,⟨hA.part ⟨rfl,rfl,rfl,rfl,rfl,rfl,rfl,rfl,trivial⟩,((hS).pQ [0] rfl).f8 [0,1] rfl⟩⟩
     ·replace hG2:=vS hc3 hG2
      refine mG<|g9 ?_
      cases hG2
      have ho:=hr2 _ rfl;subst ho
      exact⟨x10,rfl,hA.part ⟨rfl,rfl,rfl,rfl,rfl,trivial⟩,((hS).pQ [0] rfl).f8 [0] rfl⟩
    ·skip
     clear hA hS hl2
     rintro a w ⟨x11,heq,hA,hS⟩
     replace hG1:p8 x3 x11=some q1:=by rw [heq] at hG1;exact hG1
     clear heq
     unfold p8 at hG1
     refine aT hA ?_
     clear hA
     refine oy (gQ rfl rfl rfl) rfl<|om rfl rfl<|aN fun a hA=>?_
     cases hG1
     exact⟨_,rfl,⟨hA.part ⟨rfl,rfl,rfl,rfl,rfl,trivial⟩,((hS).pQ [0] rfl).f8 [0] rfl⟩⟩
   ·replace hG1:=vS hc2 hG1
    refine mG<|g9 ?_
    cases hG1
    have ho:=hr1 _ rfl;subst ho
    exact⟨rfl,hA.part ⟨rfl,trivial⟩,((hS).pQ [] rfl).f8 [0] rfl⟩
  ·skip
   clear hA hS hl1
   rintro a w ⟨heq,hA,hS⟩
   replace hF:p7 l=some r:=by rw [heq] at hF;exact hF
   clear heq
   unfold p7 at hF
   refine aO<|aT hA ?_
   clear hA
   refine om rfl rfl ?_
   obtain⟨x5,hx5,hF⟩:=d6 hF
   refine GQ (uE Tryz.call135 rfl rfl) (a9 rfl) rfl rfl (KQ (l:=l) (hS.rd 0 rfl) hx5) ?_
   rintro _ w ⟨rfl,hk⟩
   replace hS:=hS.after hk;clear hk
   refine oy (W0 rfl rfl rfl) rfl<|oa rfl rfl<|aN fun a hA=>jS ?_
   cases hF
   exact fy Tryz.results71 hA rfl hS
theorem RS{c:Ctx}{w0:World}{b:List Int}{at_:Int}{text:List UInt8}{s1:Value}{r:(List Int)}(hS:St c w0 [bU [s1] (b:List Int)] [])(hF:nC b at_ text=some r) :
    Calls Tryz.prog 221 #[s1,.int .i64 (at_),sv (text)] w0 (Q9 fun v w'=>v=.tuple #[]∧St (c) w' [bU [s1] (r:List Int)] []):=by
 refine f9 (args:=[_,_,_]) Tryz.func221 rfl Tryz.ntmps221 rfl ?_
 unfold nC at hF
 intro a hA
 refine aO<|aT hA ?_
 clear hA
 refine om rfl rfl<|oy (YH Tryz.underlying9 rfl rfl) rfl<|om rfl rfl<|aN fun a hA=>?_
 obtain⟨o1,hl1,hF⟩:=d6 hF
 refine kO (J:=fun a' w'=>∃(x5:List Int),o1=x5∧eH 22 [(0,s1)] a'∧St (c) w' [bU [s1] (x5:List Int)] []) ?_ ?_
 ·refine cW ?_
  refine mH (body:=kA at_ text) (r:=o1) (fun sg a' w'=>eH 22 [(0,s1),(1,.int .i64 (at_)),(2,sv (text)),(8,.int .i64 ((text.length:Int))),(9,.int .i64 (sg.2))] a'∧St (c) w' [bU [s1] (sg.1:List Int)] []) ?_ hl1 ⟨hA.part ⟨rfl,rfl,rfl,rfl,rfl,trivial⟩,((hS).pQ [0] rfl).f8 [] rfl⟩
  clear hA hS hl1
  rintro⟨x3,x4⟩ a w q1 ⟨hA,hS⟩ hG1 hr1
  try dsimp only at hA hS
  unfold kA at hG1
  refine aO<|aT hA ?_
  clear hA
  refine oy (l8 rfl rfl rfl) rfl<|aN fun a hA=>aO<|eB hA rfl (fun hc1=>?_) (fun hc1=>?_)
  ·replace hG1:=vR hc1 hG1
   refine fC<|aO<|cW<|aO<|aT hA ?_
   clear hA
   refine om rfl rfl<|oa rfl rfl<|aN fun a hA=>aT hA ?_
   clear hA
   refine om rfl rfl<|om rfl rfl<|om rfl rfl<|oy (gQ rfl rfl rfl) rfl<|om rfl rfl<|om rfl rfl ?_
   obtain⟨x6,hx6,hG1⟩:=d6 hG1
   refine oy (aE2 Tryz.underlying9 hx6 rfl rfl rfl) rfl<|oy (VI Tryz.underlying5 Tryz.underlying3 rfl rfl) rfl ?_
   obtain⟨x7,hx7,hG1⟩:=d6 hG1
   refine oy (l9 (m:=1) (hS.i7 0 rfl) rfl hx7 Tryz.underlying22 Tryz.sizeOf3 rfl rfl rfl) rfl<|oQ (zS (vs:=[.int .i64 ((x6.toNat:Int))]) (f:=0) (xd:=(x6.toNat:Int)) hS (i:=0) rfl hx7 rfl (W4 (hS.i7 0 rfl) (cX hx7).2.2) rfl rfl Tryz.sizeOf3 rfl rfl rfl rfl rfl rfl rfl) (a9 rfl) rfl ?_
   clear hS
   intro w hS
   refine aN fun a hA=>aT hA ?_
   clear hA
   refine oy (gQ rfl rfl rfl) rfl<|om rfl rfl<|aN fun a hA=>?_
   cases hG1
   exact⟨_,rfl,⟨hA.part ⟨rfl,rfl,rfl,rfl,rfl,trivial⟩,((hS).pQ [0] rfl).f8 [] rfl⟩⟩
  ·replace hG1:=vS hc1 hG1
   refine mG<|g9 ?_
   cases hG1
   have ho:=hr1 _ rfl;subst ho
   exact⟨x3,rfl,hA.part ⟨rfl,trivial⟩,((hS).pQ [0] rfl).f8 [] rfl⟩
 ·skip
  clear hA hS hl1
  rintro a w ⟨x5,heq,hA,hS⟩
  replace hF:yV x5=some r:=by rw [heq] at hF;exact hF
  clear heq
  unfold yV at hF
  cases hF
  exact aJ8 Tryz.results221 hA ⟨rfl,(hS.pQ [0] rfl).weaken (R':=[]) (fun _ h=>nomatch h)⟩
theorem DT{c:Ctx}{w0:World}{a_:List Int}{k:Int}{s1:Value}{r:Int×(List Int)}(hS:St c w0 [bU [s1] (a_:List Int)] [])(hF:fW a_ k=some r) :
    Calls Tryz.prog 36 #[s1,.int .i64 (k)] w0 (Q9 fun v w'=>v=.int .i64 (r.1)∧St (c) w' [bU [s1] (r.2:List Int)] []):=by
 refine f9 (args:=[_,_]) Tryz.func36 rfl Tryz.ntmps36 rfl ?_
 unfold fW at hF
 intro a hA
 refine aO<|aT hA ?_
 clear hA
 refine oa rfl rfl<|aN fun a hA=>aO<|aO<|aT hA ?_
 clear hA
 refine oa rfl rfl<|aN fun a hA=>?_
 obtain⟨o1,hl1,hF⟩:=d6 hF
 refine kO (J:=fun a' w'=>∃(x7:List Int) (x8:Int),o1=(x7,x8)∧eH 19 [(0,s1),(1,.int .i64 (x8))] a'∧St (c) w' [bU [s1] (x7:List Int)] []) ?_ ?_
 ·refine cW ?_
  refine mH (body:=fL) (r:=o1) (fun sg a' w'=>eH 19 [(0,s1),(1,.int .i64 (sg.2.1)),(5,.int .i64 (sg.2.2))] a'∧St (c) w' [bU [s1] (sg.1:List Int)] []) ?_ hl1 ⟨hA.part ⟨rfl,rfl,rfl,trivial⟩,((hS).pQ [0] rfl).f8 [] rfl⟩
  clear hA hS hl1
  rintro⟨x4,x5,x6⟩ a w q1 ⟨hA,hS⟩ hG1 hr1
  try dsimp only at hA hS
  unfold fL at hG1
  refine aO<|aO<|aT hA ?_
  clear hA
  refine om rfl rfl<|om rfl rfl<|oy (fP (hS.i7 0 rfl) Tryz.underlying22 rfl rfl) rfl<|oy (l8 rfl rfl rfl) rfl<|aN fun a hA=>eB hA rfl (fun hc1=>?_) (fun hc1=>?_)
  ·replace hG1:=vR hc1 hG1
   refine fC<|aO<|cW<|aO<|aT hA ?_
   clear hA
   refine om rfl rfl<|om rfl rfl<|om rfl rfl ?_
   obtain⟨x9,hx9,hG1⟩:=d6 hG1
   refine oy (l9 (m:=1) (hS.i7 0 rfl) rfl hx9 Tryz.underlying22 Tryz.sizeOf3 rfl rfl rfl) rfl<|oQ (zS (vs:=[.int .i64 (x5)]) (f:=0) (xd:=x5) hS (i:=0) rfl hx9 rfl (W4 (hS.i7 0 rfl) (cX hx9).2.2) rfl rfl Tryz.sizeOf3 rfl rfl rfl rfl rfl rfl rfl) (a9 rfl) rfl ?_
   clear hS
   intro w hS
   refine aN fun a hA=>aT hA ?_
   clear hA
   refine om rfl rfl<|oy (gQ rfl rfl rfl) rfl<|oa rfl rfl<|aN fun a hA=>aT hA ?_
   clear hA
   refine om rfl rfl<|oy (gQ rfl rfl rfl) rfl<|oa rfl rfl<|aN fun a hA=>?_
   cases hG1
   exact⟨_,rfl,⟨hA.part ⟨rfl,rfl,rfl,trivial⟩,((hS).pQ [0] rfl).f8 [] rfl⟩⟩
  ·replace hG1:=vS hc1 hG1
   refine mG<|g9 ?_
   cases hG1
   have ho:=hr1 _ rfl;subst ho
   exact⟨x4,x5,rfl,hA.part ⟨rfl,rfl,trivial⟩,((hS).pQ [0] rfl).f8 [] rfl⟩
 ·skip
  clear hA hS hl1
  rintro a w ⟨x7,x8,heq,hA,hS⟩
  replace hF:t9 x7 x8=some r:=by rw [heq] at hF;exact hF
  clear heq
  unfold t9 at hF
  refine aO<|aT hA ?_
  clear hA
  refine om rfl rfl<|oa rfl rfl<|aN fun a hA=>jS ?_
  cases hF
  exact TX Tryz.results36 hA (wY rfl) ⟨rfl,(hS.pQ [0] rfl).weaken (R':=[]) (fun _ h=>nomatch h)⟩
theorem JE{c:Ctx}{w0:World}{a_:List aE}{k:Int}{s1:Value}{r:Int×(List aE)}(hS:St c w0 [bU [s1] (a_:List aE)] [])(hF:gP a_ k=some r) :
    Calls Tryz.prog 161 #[s1,.int .i64 (k)] w0 (Q9 fun v w'=>v=.int .i64 (r.1)∧St (c) w' [bU [s1] (r.2:List aE)] []):=by
 refine f9 (args:=[_,_]) Tryz.func161 rfl Tryz.ntmps161 rfl ?_
 unfold gP at hF
 intro a hA
 refine aO<|aT hA ?_
 clear hA
 refine oa rfl rfl<|aN fun a hA=>aO<|aO<|aT hA ?_
 clear hA
 refine oa rfl rfl<|aN fun a hA=>?_
 obtain⟨o1,hl1,hF⟩:=d6 hF
 refine kO (J:=fun a' w'=>∃(x7:List aE) (x8:Int),o1=(x7,x8)∧eH 20 [(0,s1),(1,.int .i64 (x8))] a'∧St (c) w' [bU [s1] (x7:List aE)] []) ?_ ?_
 ·refine cW ?_
  refine mH (body:=eI) (r:=o1) (fun sg a' w'=>eH 20 [(0,s1),(1,.int .i64 (sg.2.1)),(5,.int .i64 (sg.2.2))] a'∧St (c) w' [bU [s1] (sg.1:List aE)] []) ?_ hl1 ⟨hA.part ⟨rfl,rfl,rfl,trivial⟩,((hS).pQ [0] rfl).f8 [] rfl⟩
  clear hA hS hl1
  rintro⟨x4,x5,x6⟩ a w q1 ⟨hA,hS⟩ hG1 hr1
  try dsimp only at hA hS
  unfold eI at hG1
  refine aO<|aO<|aT hA ?_
  clear hA
  refine om rfl rfl<|om rfl rfl<|oy (fP (hS.i7 0 rfl) Tryz.underlying40 rfl rfl) rfl<|oy (l8 rfl rfl rfl) rfl<|aN fun a hA=>eB hA rfl (fun hc1=>?_) (fun hc1=>?_)
  ·replace hG1:=vR hc1 hG1
   refine fC<|aO<|cW<|aT hA ?_
   clear hA
   refine om rfl rfl<|om rfl rfl ?_
   obtain⟨x9,hx9,hG1⟩:=d6 hG1
   refine oy (l9 (m:=1) (hS.i7 0 rfl) rfl hx9 Tryz.underlying40 Tryz.sizeOf131 rfl rfl rfl) rfl<|oy (iA (m:=0) Tryz.underlying131 rfl rfl Tryz.sizeOf22 rfl rfl) rfl ?_
   obtain⟨ec,hS⟩:=hS.open 0 rfl (cX hx9).2.2
   obtain⟨s2,he,_⟩:=OL (hS.i7 3 rfl)
   subst he
   replace hS:=hS.unpack 3 rfl (I4 x9)
   refine oy (d5 rfl rfl Tryz.isAgg22 (hS.aGJ (q:=BK 1 (x6.toNat) s1) (j:=0) 2 rfl rfl)) rfl<|om rfl rfl ?_
   obtain⟨c1,hg,hb⟩:=hS.aIT [4] rfl rfl
   obtain⟨x10,hx10,hG1⟩:=d6 hG1
   refine GQ (uE Tryz.call36 rfl rfl) (a9 rfl) rfl rfl (DT (c:=c1) (a_:=x9.aK) (s1:=s2) (k:=x5) (hg _ all_nil) hx10) ?_
   rintro _ w ⟨rfl,hk⟩
   replace hS:=hb _ _ _ hk;clear hk hg hb
   refine oa rfl rfl<|aN fun a hA=>aT hA ?_
   clear hA
   refine om rfl rfl<|oy (gQ rfl rfl rfl) rfl<|oa rfl rfl<|aN fun a hA=>?_
   replace hS:=hS.pack [5] rfl rfl (I4 ((⟨x10.2⟩:aE)))
   replace hS:=hS.close [1,2,6] rfl rfl
   cases hG1
   exact⟨_,rfl,⟨hA.part ⟨rfl,rfl,rfl,trivial⟩,((hS).pQ [7] rfl).f8 [] rfl⟩⟩
  ·replace hG1:=vS hc1 hG1
   refine mG<|g9 ?_
   cases hG1
   have ho:=hr1 _ rfl;subst ho
   exact⟨x4,x5,rfl,hA.part ⟨rfl,rfl,trivial⟩,((hS).pQ [0] rfl).f8 [] rfl⟩
 ·skip
  clear hA hS hl1
  rintro a w ⟨x7,x8,heq,hA,hS⟩
  replace hF:qU x7 x8=some r:=by rw [heq] at hF;exact hF
  clear heq
  unfold qU at hF
  refine aO<|aT hA ?_
  clear hA
  refine om rfl rfl<|oa rfl rfl<|aN fun a hA=>jS ?_
  cases hF
  exact TX Tryz.results161 hA (wY rfl) ⟨rfl,(hS.pQ [0] rfl).weaken (R':=[]) (fun _ h=>nomatch h)⟩
theorem MH{c:Ctx}{w0:World}{a_:List cL}{k:Int}{s1:Value}{r:Int×(List cL)}(hS:St c w0 [bU [s1] (a_:List cL)] [])(hF:l6 a_ k=some r) :
    Calls Tryz.prog 91 #[s1,.int .i64 (k)] w0 (Q9 fun v w'=>v=.int .i64 (r.1)∧St (c) w' [bU [s1] (r.2:List cL)] []):=by
 refine f9 (args:=[_,_]) Tryz.func91 rfl Tryz.ntmps91 rfl ?_
 unfold l6 at hF
 intro a hA
 refine aO<|aT hA ?_
 clear hA
 refine oa rfl rfl<|aN fun a hA=>aO<|aO<|aT hA ?_
 clear hA
 refine oa rfl rfl<|aN fun a hA=>?_
 obtain⟨o1,hl1,hF⟩:=d6 hF
 refine kO (J:=fun a' w'=>∃(x7:List cL) (x8:Int),o1=(x7,x8)∧eH 45 [(0,s1),(1,.int .i64 (x8))] a'∧St (c) w' [bU [s1] (x7:List cL)] []) ?_ ?_
 ·refine cW ?_
  refine mH (body:=kG) (r:=o1) (fun sg a' w'=>eH 45 [(0,s1),(1,.int .i64 (sg.2.1)),(5,.int .i64 (sg.2.2))] a'∧St (c) w' [bU [s1] (sg.1:List cL)] []) ?_ hl1 ⟨hA.part ⟨rfl,rfl,rfl,trivial⟩,((hS).pQ [0] rfl).f8 [] rfl⟩
  clear hA hS hl1
  rintro⟨x4,x5,x6⟩ a w q1 ⟨hA,hS⟩ hG1 hr1
  try dsimp only at hA hS
  unfold kG at hG1
  refine aO<|aO<|aT hA ?_
  clear hA
  refine om rfl rfl<|om rfl rfl<|oy (fP (hS.i7 0 rfl) Tryz.underlying45 rfl rfl) rfl<|oy (l8 rfl rfl rfl) rfl<|aN fun a hA=>eB hA rfl (fun hc1=>?_) (fun hc1=>?_)
  ·replace hG1:=vR hc1 hG1
   refine fC<|aO<|cW<|aO<|aT hA ?_
   clear hA
   refine om rfl rfl<|om rfl rfl<|om rfl rfl<|oy (HN rfl rfl rfl (by decide)) rfl ?_
   refine oy (W2 rfl rfl rfl) rfl ?_
   obtain⟨x9,hx9,hG1⟩:=d6 hG1
   refine oy (l9 (m:=4) (hS.i7 0 rfl) rfl hx9 Tryz.underlying45 Tryz.sizeOf134 rfl rfl rfl) rfl<|oy (iA (m:=0) Tryz.underlying134 rfl rfl Tryz.sizeOf4 rfl rfl) rfl<|oQ (zS (vs:=[.bool ((Int.tmod x5 3) == 0)]) (f:=0) (xd:=(⟨(Int.tmod x5 3) == 0,x9.aG,x9.cH,x9.Seen⟩:cL)) hS (i:=0) rfl hx9 rfl (UJ (hS.i7 0 rfl) (cX hx9).2.2) rfl (OM ((⟨(Int.tmod x5 3) == 0,x9.aG,x9.cH,x9.Seen⟩:cL))) Tryz.sizeOf4 rfl rfl rfl rfl rfl rfl rfl) (a9 rfl) rfl ?_
   clear hS
   intro w hS
   refine aN fun a hA=>aO<|aT hA ?_
   clear hA
   refine om rfl rfl<|oy (gQ rfl rfl rfl) rfl<|oa rfl rfl<|aN fun a hA=>aO<|aT hA ?_
   clear hA
   refine om rfl rfl<|om rfl rfl<|om rfl rfl ?_
   obtain⟨x10,hx10,hG1⟩:=d6 hG1
   refine oy (l9 (m:=4) (hS.i7 0 rfl) rfl hx10 Tryz.underlying45 Tryz.sizeOf134 rfl rfl rfl) rfl<|oy (iA (m:=0) Tryz.underlying134 rfl rfl Tryz.sizeOf3 rfl rfl) rfl<|oQ (zS (vs:=[.int .i64 (a8 (x5+1))]) (f:=1) (xd:=(⟨x10.On,a8 (x5+1),x10.cH,x10.Seen⟩:cL)) hS (i:=0) rfl hx10 rfl (UJ (hS.i7 0 rfl) (cX hx10).2.2) rfl (OM ((⟨x10.On,a8 (x5+1),x10.cH,x10.Seen⟩:cL))) Tryz.sizeOf3 rfl rfl rfl rfl rfl rfl rfl) (a9 rfl) rfl ?_
   clear hS
   intro w hS
   refine aN fun a hA=>aO<|aT hA ?_
   clear hA
   refine om rfl rfl<|oy (gQ rfl rfl rfl) rfl<|oa rfl rfl<|aN fun a hA=>aO<|aT hA ?_
   clear hA
   refine om rfl rfl<|om rfl rfl<|om rfl rfl<|oy (HN rfl rfl rfl (by decide)) rfl ?_
   refine oy (W2 rfl rfl rfl) rfl ?_
   obtain⟨x11,hx11,hG1⟩:=d6 hG1
   refine oy (l9 (m:=4) (hS.i7 0 rfl) rfl hx11 Tryz.underlying45 Tryz.sizeOf134 rfl rfl rfl) rfl<|oy (iA (m:=0) Tryz.underlying134 rfl rfl Tryz.sizeOf4 rfl rfl) rfl<|oQ (zS (vs:=[.bool ((Int.tmod (a8 ((a8 (x5+1))+1)) 3) == 0)]) (f:=2) (xd:=(⟨x11.On,x11.aG,(Int.tmod (a8 ((a8 (x5+1))+1)) 3) == 0,x11.Seen⟩:cL)) hS (i:=0) rfl hx11 rfl (UJ (hS.i7 0 rfl) (cX hx11).2.2) rfl (OM ((⟨x11.On,x11.aG,(Int.tmod (a8 ((a8 (x5+1))+1)) 3) == 0,x11.Seen⟩:cL))) Tryz.sizeOf4 rfl rfl rfl rfl rfl rfl rfl) (a9 rfl) rfl ?_
   clear hS
   intro w hS
   refine aN fun a hA=>aO<|aT hA ?_
   clear hA
   refine om rfl rfl<|oy (gQ rfl rfl rfl) rfl<|oa rfl rfl<|aN fun a hA=>aO<|aT hA ?_
   clear hA
   refine om rfl rfl<|om rfl rfl<|om rfl rfl ?_
   obtain⟨x12,hx12,hG1⟩:=d6 hG1
   refine oy (l9 (m:=4) (hS.i7 0 rfl) rfl hx12 Tryz.underlying45 Tryz.sizeOf134 rfl rfl rfl) rfl<|oy (iA (m:=0) Tryz.underlying134 rfl rfl Tryz.sizeOf3 rfl rfl) rfl<|oQ (zS (vs:=[.int .i64 (a8 ((a8 ((a8 (x5+1))+1))+1))]) (f:=3) (xd:=(⟨x12.On,x12.aG,x12.cH,a8 ((a8 ((a8 (x5+1))+1))+1)⟩:cL)) hS (i:=0) rfl hx12 rfl (UJ (hS.i7 0 rfl) (cX hx12).2.2) rfl (OM ((⟨x12.On,x12.aG,x12.cH,a8 ((a8 ((a8 (x5+1))+1))+1)⟩:cL))) Tryz.sizeOf3 rfl rfl rfl rfl rfl rfl rfl) (a9 rfl) rfl ?_
   clear hS
   intro w hS
   refine aN fun a hA=>aT hA ?_
   clear hA
   refine om rfl rfl<|oy (gQ rfl rfl rfl) rfl<|oa rfl rfl<|aN fun a hA=>aT hA ?_
   clear hA
   refine om rfl rfl<|oy (gQ rfl rfl rfl) rfl<|oa rfl rfl<|aN fun a hA=>?_
   cases hG1
   exact⟨_,rfl,⟨hA.part ⟨rfl,rfl,rfl,trivial⟩,((hS).pQ [0] rfl).f8 [] rfl⟩⟩
  ·replace hG1:=vS hc1 hG1
   refine mG<|g9 ?_
   cases hG1
   have ho:=hr1 _ rfl;subst ho
   exact⟨x4,x5,rfl,hA.part ⟨rfl,rfl,trivial⟩,((hS).pQ [0] rfl).f8 [] rfl⟩
 ·skip
  clear hA hS hl1
  rintro a w ⟨x7,x8,heq,hA,hS⟩
  replace hF:uA x7 x8=some r:=by rw [heq] at hF;exact hF
  clear heq
  unfold uA at hF
  refine aO<|aT hA ?_
  clear hA
  refine om rfl rfl<|oa rfl rfl<|aN fun a hA=>jS ?_
  cases hF
  exact TX Tryz.results91 hA (wY rfl) ⟨rfl,(hS.pQ [0] rfl).weaken (R':=[]) (fun _ h=>nomatch h)⟩
theorem KR{c:Ctx}{w0:World}{a_:List bC}{k:Int}{s1:Value}{r:Int×(List bC)}(hS:St c w0 [bU [s1] (a_:List bC)] [])(hF:nH a_ k=some r) :
    Calls Tryz.prog 92 #[s1,.int .i64 (k)] w0 (Q9 fun v w'=>v=.int .i64 (r.1)∧St (c) w' [bU [s1] (r.2:List bC)] []):=by
 refine f9 (args:=[_,_]) Tryz.func92 rfl Tryz.ntmps92 rfl ?_
 unfold nH at hF
 intro a hA
 refine aO<|aT hA ?_
 clear hA
 refine oa rfl rfl<|aN fun a hA=>aO<|aO<|aT hA ?_
 clear hA
 refine oa rfl rfl<|aN fun a hA=>?_
 obtain⟨o1,hl1,hF⟩:=d6 hF
 refine kO (J:=fun a' w'=>∃(x7:List bC) (x8:Int),o1=(x7,x8)∧eH 27 [(0,s1),(1,.int .i64 (x8))] a'∧St (c) w' [bU [s1] (x7:List bC)] []) ?_ ?_
 ·refine cW ?_
  refine mH (body:=jE) (r:=o1) (fun sg a' w'=>eH 27 [(0,s1),(1,.int .i64 (sg.2.1)),(5,.int .i64 (sg.2.2))] a'∧St (c) w' [bU [s1] (sg.1:List bC)] []) ?_ hl1 ⟨hA.part ⟨rfl,rfl,rfl,trivial⟩,((hS).pQ [0] rfl).f8 [] rfl⟩
  clear hA hS hl1
  rintro⟨x4,x5,x6⟩ a w q1 ⟨hA,hS⟩ hG1 hr1
  try dsimp only at hA hS
  unfold jE at hG1
  refine aO<|aO<|aT hA ?_
  clear hA
  refine om rfl rfl<|om rfl rfl<|oy (fP (hS.i7 0 rfl) Tryz.underlying95 rfl rfl) rfl<|oy (l8 rfl rfl rfl) rfl<|aN fun a hA=>eB hA rfl (fun hc1=>?_) (fun hc1=>?_)
  ·replace hG1:=vR hc1 hG1
   refine fC<|aO<|cW<|aO<|aT hA ?_
   clear hA
   refine om rfl rfl<|om rfl rfl<|om rfl rfl ?_
   obtain⟨x9,hx9,hG1⟩:=d6 hG1
   refine oy (l9 (m:=2) (hS.i7 0 rfl) rfl hx9 Tryz.underlying95 Tryz.sizeOf99 rfl rfl rfl) rfl<|oy (iA (m:=0) Tryz.underlying99 rfl rfl Tryz.sizeOf3 rfl rfl) rfl<|oQ (zS (vs:=[.int .i64 (x5)]) (f:=0) (xd:=(⟨x5,x9.aG⟩:bC)) hS (i:=0) rfl hx9 rfl (UK (hS.i7 0 rfl) (cX hx9).2.2) rfl (NR ((⟨x5,x9.aG⟩:bC))) Tryz.sizeOf3 rfl rfl rfl rfl rfl rfl rfl) (a9 rfl) rfl ?_
   clear hS
   intro w hS
   refine aN fun a hA=>aO<|aT hA ?_
   clear hA
   refine om rfl rfl<|oy (gQ rfl rfl rfl) rfl<|oa rfl rfl<|aN fun a hA=>aO<|aT hA ?_
   clear hA
   refine om rfl rfl<|om rfl rfl<|om rfl rfl ?_
   obtain⟨x10,hx10,hG1⟩:=d6 hG1
   refine oy (l9 (m:=2) (hS.i7 0 rfl) rfl hx10 Tryz.underlying95 Tryz.sizeOf99 rfl rfl rfl) rfl<|oy (iA (m:=0) Tryz.underlying99 rfl rfl Tryz.sizeOf3 rfl rfl) rfl<|oQ (zS (vs:=[.int .i64 (a8 (x5+1))]) (f:=1) (xd:=(⟨x10.Handle,a8 (x5+1)⟩:bC)) hS (i:=0) rfl hx10 rfl (UK (hS.i7 0 rfl) (cX hx10).2.2) rfl (NR ((⟨x10.Handle,a8 (x5+1)⟩:bC))) Tryz.sizeOf3 rfl rfl rfl rfl rfl rfl rfl) (a9 rfl) rfl ?_
   clear hS
   intro w hS
   refine aN fun a hA=>aT hA ?_
   clear hA
   refine om rfl rfl<|oy (gQ rfl rfl rfl) rfl<|oa rfl rfl<|aN fun a hA=>aT hA ?_
   clear hA
   refine om rfl rfl<|oy (gQ rfl rfl rfl) rfl<|oa rfl rfl<|aN fun a hA=>?_
   cases hG1
   exact⟨_,rfl,⟨hA.part ⟨rfl,rfl,rfl,trivial⟩,((hS).pQ [0] rfl).f8 [] rfl⟩⟩
  ·replace hG1:=vS hc1 hG1
   refine mG<|g9 ?_
   cases hG1
   have ho:=hr1 _ rfl;subst ho
   exact⟨x4,x5,rfl,hA.part ⟨rfl,rfl,trivial⟩,((hS).pQ [0] rfl).f8 [] rfl⟩
 ·skip
  clear hA hS hl1
  rintro a w ⟨x7,x8,heq,hA,hS⟩
  replace hF:sP x7 x8=some r:=by rw [heq] at hF;exact hF
  clear heq
  unfold sP at hF
  refine aO<|aT hA ?_
  clear hA
  refine om rfl rfl<|oa rfl rfl<|aN fun a hA=>jS ?_
  cases hF
  exact TX Tryz.results92 hA (wY rfl) ⟨rfl,(hS.pQ [0] rfl).weaken (R':=[]) (fun _ h=>nomatch h)⟩
theorem JF{c:Ctx}{w0:World}{a_:List aJ}{k:Int}{s1:Value}{r:Int×(List aJ)}(hS:St c w0 [bU [s1] (a_:List aJ)] [])(hF:i5 a_ k=some r) :
    Calls Tryz.prog 35 #[s1,.int .i64 (k)] w0 (Q9 fun v w'=>v=.int .i64 (r.1)∧St (c) w' [bU [s1] (r.2:List aJ)] []):=by
 refine f9 (args:=[_,_]) Tryz.func35 rfl Tryz.ntmps35 rfl ?_
 unfold i5 at hF
 intro a hA
 refine aO<|aT hA ?_
 clear hA
 refine oa rfl rfl<|aN fun a hA=>aO<|aO<|aT hA ?_
 clear hA
 refine oa rfl rfl<|aN fun a hA=>?_
 obtain⟨o1,hl1,hF⟩:=d6 hF
 refine kO (J:=fun a' w'=>∃(x7:List aJ) (x8:Int),o1=(x7,x8)∧eH 20 [(0,s1),(1,.int .i64 (x8))] a'∧St (c) w' [bU [s1] (x7:List aJ)] []) ?_ ?_
 ·refine cW ?_
  refine mH (body:=eJ) (r:=o1) (fun sg a' w'=>eH 20 [(0,s1),(1,.int .i64 (sg.2.1)),(5,.int .i64 (sg.2.2))] a'∧St (c) w' [bU [s1] (sg.1:List aJ)] []) ?_ hl1 ⟨hA.part ⟨rfl,rfl,rfl,trivial⟩,((hS).pQ [0] rfl).f8 [] rfl⟩
  clear hA hS hl1
  rintro⟨x4,x5,x6⟩ a w q1 ⟨hA,hS⟩ hG1 hr1
  try dsimp only at hA hS
  unfold eJ at hG1
  refine aO<|aO<|aT hA ?_
  clear hA
  refine om rfl rfl<|om rfl rfl<|oy (fP (hS.i7 0 rfl) Tryz.underlying48 rfl rfl) rfl<|oy (l8 rfl rfl rfl) rfl<|aN fun a hA=>eB hA rfl (fun hc1=>?_) (fun hc1=>?_)
  ·replace hG1:=vR hc1 hG1
   refine fC<|aO<|cW<|aT hA ?_
   clear hA
   refine om rfl rfl<|om rfl rfl ?_
   obtain⟨x9,hx9,hG1⟩:=d6 hG1
   refine oy (l9 (m:=1) (hS.i7 0 rfl) rfl hx9 Tryz.underlying48 Tryz.sizeOf106 rfl rfl rfl) rfl<|oy (iA (m:=0) Tryz.underlying106 rfl rfl Tryz.sizeOf95 rfl rfl) rfl ?_
   obtain⟨ec,hS⟩:=hS.open 0 rfl (cX hx9).2.2
   obtain⟨s2,he,_⟩:=ON (hS.i7 3 rfl)
   subst he
   replace hS:=hS.unpack 3 rfl (I5 x9)
   refine oy (d5 rfl rfl Tryz.isAgg95 (hS.aGJ (q:=BK 1 (x6.toNat) s1) (j:=0) 2 rfl rfl)) rfl<|om rfl rfl ?_
   obtain⟨c1,hg,hb⟩:=hS.aIT [4] rfl rfl
   obtain⟨x10,hx10,hG1⟩:=d6 hG1
   refine GQ (uE Tryz.call92 rfl rfl) (a9 rfl) rfl rfl (KR (c:=c1) (a_:=x9.Rows) (s1:=s2) (k:=x5) (hg _ all_nil) hx10) ?_
   rintro _ w ⟨rfl,hk⟩
   replace hS:=hb _ _ _ hk;clear hk hg hb
   refine oa rfl rfl<|aN fun a hA=>aT hA ?_
   clear hA
   refine om rfl rfl<|oy (gQ rfl rfl rfl) rfl<|oa rfl rfl<|aN fun a hA=>?_
   replace hS:=hS.pack [5] rfl rfl (I5 ((⟨x10.2⟩:aJ)))
   replace hS:=hS.close [1,2,6] rfl rfl
   cases hG1
   exact⟨_,rfl,⟨hA.part ⟨rfl,rfl,rfl,trivial⟩,((hS).pQ [7] rfl).f8 [] rfl⟩⟩
  ·replace hG1:=vS hc1 hG1
   refine mG<|g9 ?_
   cases hG1
   have ho:=hr1 _ rfl;subst ho
   exact⟨x4,x5,rfl,hA.part ⟨rfl,rfl,trivial⟩,((hS).pQ [0] rfl).f8 [] rfl⟩
 ·skip
  clear hA hS hl1
  rintro a w ⟨x7,x8,heq,hA,hS⟩
  replace hF:qV x7 x8=some r:=by rw [heq] at hF;exact hF
  clear heq
  unfold qV at hF
  refine aO<|aT hA ?_
  clear hA
  refine om rfl rfl<|oa rfl rfl<|aN fun a hA=>jS ?_
  cases hF
  exact TX Tryz.results35 hA (wY rfl) ⟨rfl,(hS.pQ [0] rfl).weaken (R':=[]) (fun _ h=>nomatch h)⟩
end Go.Proofs.YtgjpcfdgefopgaaGreat
end
