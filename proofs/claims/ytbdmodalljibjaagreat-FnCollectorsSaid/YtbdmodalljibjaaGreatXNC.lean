import Derived.Test.YtbdmodalljibjaaGreatXNB
set_option linter.unusedVariables false
set_option linter.unusedSimpArgs false
set_option linter.unusedSectionVars false
set_option linter.constructorNameAsVariable false
set_option linter.unnecessarySimpa false
noncomputable section
namespace Go.Gv
def swN(i j n:Nat):Nat:=match Nat.beq n i with
  | true=>j
  | false => match Nat.beq n j with
    | true=>i
    | false=>n
def swC(i j:Nat):SV→SV
  | .p n o=>.p (swN i j n) o
  | x=>x
def aNE(i j:Nat):List SV→List SV
  | []=>[]
  | x :: r=>swC i j x :: aNE i j r
def swG(i j:Nat):SV→SV
  | .g cs=>.g (aNE i j cs)
  | x=>swC i j x
def aS6(i j:Nat):List SV→List SV
  | []=>[]
  | x :: r=>swG i j x :: aS6 i j r
def swF(i j:Nat):List Nat→List Nat
  | []=>[]
  | n :: r=>swN i j n :: swF i j r
def swT(i j:Nat):SV→SV
  | .t cs=>.t (aS6 i j cs)
  | .f f ns=>.f f (swF i j ns)
  | x=>swG i j x
def swE(i j:Nat):SE→SE
  | []=>[]
  | (k,x) :: r=>(k,swT i j x) :: swE i j r
def swL(i j:Nat):List Ch→List Ch
  | []=>[]
  | x :: r => (match x with
    | .box n cs=>.box (swN i j n) (aNE i j cs)
    | .ro n cs=>.ro (swN i j n) (aNE i j cs)
    | .w n b z=>.w (swN i j n) b z
    | y=>y) :: swL i j r
noncomputable section
variable {B B':Bl} {i j:Nat}
theorem aQM(h:∀n,B'[swN i j n]?=B[n]?)(x:SV):bU B' (swC i j x)=bU B x:=by
  cases x <;> first | rfl | (simp only [swC,bU,h])
theorem aBA(h:∀n,B'[swN i j n]?=B[n]?):∀cs:List SV,bA (bU B') (aNE i j cs)=bA (bU B) cs
  | []=>rfl
  | x :: r=>by simp only [aNE,bA,aQM h,aBA h r]
theorem aKW(h:∀n,B'[swN i j n]?=B[n]?)(x:SV):gV B' (swG i j x)=gV B x:=by
  cases x with
  | g cs=>simp only [swG,gV,aBA h]
  | p n o=>exact aQM h (.p n o)
  | _=>rfl
theorem aMK(h:∀n,B'[swN i j n]?=B[n]?):∀cs:List SV,bA (gV B') (aS6 i j cs)=bA (gV B) cs
  | []=>rfl
  | x :: r=>by simp only [aS6,bA,aKW h,aMK h r]
theorem aQN(h:∀n,B'[swN i j n]?=B[n]?):∀cs:List Nat,bA (PK B') (swF i j cs)=bA (PK B) cs
  | []=>rfl
  | x :: r=>by simp only [swF,bA,PK,h];rw [show bA (PK B') (swF i j r)=bA (PK B) r from aQN h r]
theorem aVO(h:∀n,B'[swN i j n]?=B[n]?)(x:SV):fH B' (swT i j x)=fH B x:=by
  cases x with
  | t cs=>simp only [swT,fH,aMK h]
  | f f ns=>simp only [swT,fH,aQN h]
  | g cs=>exact aKW h (.g cs)
  | p n o=>exact aKW h (.p n o)
  | _=>rfl
theorem aQO{k:Nat}{x:SV}:∀{e:SE},z7 (swE i j e) k=some x→∃y,z7 e k=some y∧x=swT i j y
  | [],h=>by cases h
  | (k', y) :: r, h => by
    simp only [swE,z7] at h ⊢
    split at h
    · rename_i hb;cases h;exact⟨y,rfl,rfl⟩
    · rename_i hb;exact aQO h
theorem aML(h:∀n,B'[swN i j n]?=B[n]?){w:World}{R:List Fact}:∀(L:List Ch),iH w (L.map (jC B)) ((swL i j L).map (jC B'))∧((∀x∈L,roF B R x)→∀x∈swL i j L,roF B' R x)
  | []=>⟨.nil,fun _ x hx=>by cases hx⟩
  | x :: L => by
    obtain⟨h1,h2⟩:=aML h (w:=w) (R:=R) L
    refine⟨.cons (fun F hF=>?_) h1,fun hr y hy=>?_⟩
    · cases x with
      | box n cs =>
        obtain⟨b,z,vs,k1,k2,k3⟩:=hF
        exact⟨b,z,vs,by rw [h];exact k1,by rw [aBA h];exact k2,k3⟩
      | _=>exact hF
    · rcases List.mem_cons.1 hy with hy | hy
      · have hx:=hr x (by simp)
        cases x with
        | box n cs=>subst hy;trivial
        | ro n cs =>
          obtain⟨b,z,vs,k1,k2,k3⟩:=hx
          subst hy
          exact⟨b,z,vs,by rw [h];exact k1,by rw [aBA h];exact k2,k3⟩
        | w n b z=>subst hy;show B'[swN i j n]?=_;rw [h];exact hx
        | o c=>subst hy;trivial
        | no=>subst hy;trivial
        | f f=>subst hy;exact hx
      · exact h2 (fun x hx=>hr x (List.mem_cons_of_mem _ hx)) y hy
end
theorem aXM{B:Bl}{i j:Nat}(hi:i < B.length)(hj:j < B.length):∃B':Bl,B'.length=B.length∧(∀n,B'[swN i j n]?=B[n]?):=by
  refine⟨(B.set i B[j]).set j B[i],by simp,fun n=>?_⟩
  unfold swN
  cases h1:Nat.beq n i with
  | true =>
    have h1:=Nat.eq_of_beq_eq_true h1
    subst h1
    simp only
    rw [List.getElem?_set_self (by simpa using hj),List.getElem?_eq_getElem hi]
  | false =>
    have h1:n≠i:=fun h=>by rw [h] at h1;simp at h1
    cases h2:Nat.beq n j with
    | true =>
      have h2:=Nat.eq_of_beq_eq_true h2
      subst h2
      simp only
      rw [List.getElem?_set_ne h1,List.getElem?_set_self hi,List.getElem?_eq_getElem hj]
    | false =>
      have h2:n≠j:=fun h=>by rw [h] at h2;simp at h2
      simp only
      rw [List.getElem?_set_ne (Ne.symm h2),List.getElem?_set_ne (Ne.symm h1)]
noncomputable section
variable {n:Nat} {c:Ctx} {B0:Bl} {m:Nat} {e:SE} {L:List Ch}
theorem swR{Z:Act→World→Prop}(i j:Nat)(h:(Nat.ble B0.length i && (Nat.ble B0.length j && (Nat.blt i m && Nat.blt j m)))=true)
    (kk:∀a w,mX n c B0 m (swE i j e) (swL i j L) a w→Z a w):∀a w,mX n c B0 m e L a w→Z a w:=by
  simp only [Bool.and_eq_true,Nat.ble_eq,Nat.blt_eq] at h
  obtain⟨h1,h2,h3,h4⟩:=h
  intro a w ⟨B,hm,hA,hS⟩
  refine kk a w ?_
  rw [List.length_append] at hm
  obtain⟨B',hl,hB⟩:=aXM (B:=B) (i:=i - B0.length) (j:=j - B0.length) (by omega) (by omega)
  have key:∀n,(B0++B')[swN i j n]?=(B0++B)[n]?:=by
    intro n
    have hsw:∀n,n < B0.length→swN i j n=n:=fun n hn=>by
      unfold swN
      cases e1:Nat.beq n i with
      | true=>have:=Nat.eq_of_beq_eq_true e1;omega
      | false =>
        cases e2:Nat.beq n j with
        | true=>have:=Nat.eq_of_beq_eq_true e2;omega
        | false=>rfl
    have hge:∀n,B0.length≤n→swN i j n=B0.length+swN (i - B0.length) (j - B0.length) (n - B0.length):=fun n hn=>by
      have q1:Nat.beq (n - B0.length) (i - B0.length)=Nat.beq n i:=by
        rw [Bool.eq_iff_iff];simp only [Nat.beq_eq];omega
      have q2:Nat.beq (n - B0.length) (j - B0.length)=Nat.beq n j:=by
        rw [Bool.eq_iff_iff];simp only [Nat.beq_eq];omega
      unfold swN
      rw [q1,q2]
      cases Nat.beq n i <;> cases Nat.beq n j <;> simp only <;> omega
    by_cases hn:n < B0.length
    · rw [hsw n hn,List.getElem?_append_left hn,List.getElem?_append_left hn]
    · rw [hge n (by omega),List.getElem?_append_right (by omega),List.getElem?_append_right (by omega),Nat.add_sub_cancel_left]
      exact hB _
  refine⟨B',by rw [List.length_append];omega,⟨hA.d,hA.size,fun k x hk=>?_⟩,?_⟩
  · obtain⟨y,g1,rfl⟩:=aQO hk
    obtain⟨v,g2,g3⟩:=hA.get k y g1
    exact⟨v,by rw [aVO key];exact g2,g3⟩
  · obtain⟨⟨R,s1,s2⟩,s0⟩:=hS
    obtain⟨g1,g2⟩:=aML key (w:=w) (R:=R) L
    exact⟨⟨R,s1.imp g1,g2 s2⟩,s0⟩
theorem pnR{Z:Act→World→Prop}{α:Type}[aL α](j:Nat){s:AC}{l:List α}{n0:Nat}(hl:l.length=n0)(hj:L[j]?=some (ow s l))
    (kk:∀a w,mX n c B0 m e (L.set j (.o (fM [s.v n0] l))) a w→Z a w):∀a w,mX n c B0 m e L a w→Z a w:=by
  subst hl
  have:L.set j (.o (fM [s.v l.length] l))=L:=by
    obtain⟨h1,h2⟩:=List.getElem?_eq_some_iff.1 hj
    rw [←show L[j]=.o (fM [s.v l.length] l) from h2];exact List.set_getElem_self h1
  rw [this] at kk
  exact kk
end
def fc1:SV→Option SV
  | .i k x=>some (.i k x)
  | .y b=>some (.y b)
  | .b c=>some (.b c)
  | .l c=>some (.l c)
  | .s l=>some (.s l)
  | .p n o=>some (.p n o)
  | .h s n=>some (.h s n)
  | .e s n i o=>some (.e s n i o)
  | .k x=>some (.k x)
  | .g cs=>some (.g cs)
  | .t cs=>some (.t cs)
  | .f f cs=>some (.f f cs)
  | .u=>some .u
def fcs:List SV→Option (List SV)
  | []=>some []
  | x :: r => match fc1 x with
    | some y => match fcs r with
      | some s=>some (y :: s)
      | none=>none
    | none=>none
def fc2:SV→Option SV
  | .g cs => match fcs cs with
    | some ds=>some (.g ds)
    | none=>none
  | x=>fc1 x
def fgs:List SV→Option (List SV)
  | []=>some []
  | x :: r => match fc2 x with
    | some y => match fgs r with
      | some s=>some (y :: s)
      | none=>none
    | none=>none
def fc3:SV→Option SV
  | .t cs => match fgs cs with
    | some ds=>some (.t ds)
    | none=>none
  | x=>fc2 x
def fdE:SE→Option SE
  | []=>some []
  | (k, v) :: r => match fc3 v with
    | some y => match fdE r with
      | some s=>some ((k,y) :: s)
      | none=>none
    | none=>none
def fdL:List Ch→Option (List Ch)
  | []=>some []
  | x :: r => match fdL r with
    | some s => match x with
      | .box n cs => match fcs cs with
        | some ds=>some (.box n ds :: s)
        | none=>none
      | .ro n cs => match fcs cs with
        | some ds=>some (.ro n ds :: s)
        | none=>none
      | y=>some (y :: s)
    | none=>none
theorem aQP{x y:SV}(h:fc1 x=some y):y=x:=by cases x <;> simp only [fc1] at h <;> cases h <;> rfl
theorem aHN:∀{l r:List SV},fcs l=some r→r=l
  | [],r,h=>by cases h;rfl
  | x :: l, r, h => by
    simp only [fcs] at h
    split at h
    · rename_i y hy
      split at h
      · rename_i s hs;cases h;rw [aQP hy,aHN hs]
      · cases h
    · cases h
theorem aQQ{x y:SV}(h:fc2 x=some y):y=x:=by
  cases x with
  | g cs =>
    simp only [fc2] at h
    split at h
    · rename_i ds hd;cases h;rw [aHN hd]
    · cases h
  | _=>exact aQP h
theorem aQR:∀{l r:List SV},fgs l=some r→r=l
  | [],r,h=>by cases h;rfl
  | x :: l, r, h => by
    simp only [fgs] at h
    split at h
    · rename_i y hy
      split at h
      · rename_i s hs;cases h;rw [aQQ hy,aQR hs]
      · cases h
    · cases h
theorem aVP{x y:SV}(h:fc3 x=some y):y=x:=by
  cases x with
  | t cs =>
    simp only [fc3] at h
    split at h
    · rename_i ds hd;cases h;rw [aQR hd]
    · cases h
  | _=>exact aQQ h
theorem aQS:∀{e r:SE},fdE e=some r→r=e
  | [],r,h=>by cases h;rfl
  | (k, v) :: l, r, h => by
    simp only [fdE] at h
    split at h
    · rename_i y hy
      split at h
      · rename_i s hs;cases h;rw [aVP hy,aQS hs]
      · cases h
    · cases h
theorem aQT:∀{e r:List Ch},fdL e=some r→r=e
  | [],r,h=>by cases h;rfl
  | x :: l, r, h => by
    simp only [fdL] at h
    split at h
    · rename_i s hs
      have:=aQT hs
      subst this
      split at h
      · split at h
        · rename_i ds hds;cases h;rw [aHN hds]
        · cases h
      · split at h
        · rename_i ds hds;cases h;rw [aHN hds]
        · cases h
      · cases h;rfl
    · cases h
theorem fD{n:Nat}{c:Ctx}{B0:Bl}{m:Nat}{e e1:SE}{L L1:List Ch}{Z:Act→World→Prop}(h1:fdE e=some e1)(h2:fdL L=some L1)(kk:∀a w,mX n c B0 m e1 L1 a w→Z a w):∀a w,mX n c B0 m e L a w→Z a w:=by
  have:=aQS h1
  have:=aQT h2
  subst e1;subst L1
  exact kk
end Go.Gv
end
noncomputable section
namespace Go.Gv
universe u
theorem Q{α:Sort u}{a:α}:a=a:=Eq.refl a
def W{ρ:Type}(C:Prop)(r:ρ)(F:Option ρ):Prop:=F=some r→C
theorem wm{ρ:Type}{C:Prop}{r:ρ}{F F':Option ρ}(h:F'=F)(k:W C r F):W C r F':=h ▸ k
theorem wi{ρ:Type}{C:Prop}{r:ρ}{F:Option ρ}(h:F=some r)(k:W C r F):C:=k h
def VS(P:Program)(c:Ctx)(f:FuncId){ρ ex:Type}(F:Option ρ)(xs:List SV)(B0:Bl)(L0:List Ch)(sv:ρ→ex→SV)(Lf:ρ→ex→List Ch):Prop:=∀r,F=some r→FnS P f c xs B0 L0 sv Lf r
abbrev V0(P:Program)(c:Ctx)(f:FuncId){ρ:Type}(F:Option ρ)(xs:List SV)(sv:ρ→SV):Prop:=VS P c f F xs [] [] (fun r (_:Unit)=>sv r) (fun _ _=>[])
theorem VS.r{P:Program}{c:Ctx}{f:FuncId}{ρ ex:Type}{F:Option ρ}{xs:List SV}{B0:Bl}{L0:List Ch}{sv:ρ→ex→SV}{Lf:ρ→ex→List Ch}(h:VS P c f F xs B0 L0 sv Lf){r:ρ}(hF:F=some r):FnS P f c xs B0 L0 sv Lf r:=h r hF
def QR(P:Program)(fn:Func){rs:List ResultVar}(_:fn.results=rs.toArray)(c:Ctx)(B0:Bl){ρ ex:Type}(sv:ρ→ex→SV)(Lf:ρ→ex→List Ch)(r:ρ):Act→World→Prop:=QS P fn c B0 sv Lf r
def aQU(T:TT)(rs:List ResultVar)(is:List Nat)(b0:Nat)(L2:List Ch):Stop→Option (SV×List Ch)
  | .ret m e L => match aG5 T e L rs with
    | some x => match GM b0 (nbS x) with
      | true => match SS b0 m e L is b0 [] L2 with
        | some ([],L3)=>some (nbS x,L3)
        | _=>none
      | false=>none
    | none=>none
  | _=>none
def aNF(is:List Nat)(b0 mj:Nat)(ej:SE)(Lj:List Ch):Stop→Option (SE×List Ch)
  | .fin m e L=>SS b0 m e L is mj ej Lj
  | _=>none
def exQ(is:List Nat)(id b0 mj:Nat)(ej:SE)(Lj:List Ch):Stop→Option (SE×List Ch)
  | .ex i m e L => match Nat.beq i id with
    | true=>SS b0 m e L is mj ej Lj
    | false=>none
  | _=>none
def aXN:Stop→Stop
  | .fin m e L=>.ret m e L
  | _=>.stuck
def ixT(T:TT)(t n:Nat):Bool:=match C0 T t with
  | some ⟨.sl el, _, _, _⟩ => match C0 T el with
    | some ⟨_,_,sz,_⟩=>Nat.beq n sz
    | none=>false
  | _=>false
noncomputable section
variable {P:Program} {T:TT} {hT:GQ P T} {n:Nat} {c:Ctx} {B0:Bl} {N:Act→World→Prop} {X:Nat→Act→World→Prop} {Q:Act→World→Prop} {K K':List Fr} {m m':Nat} {e e':SE} {L L' Lv:List Ch} {cf cf' cf1 cf2:wG} {o:Oper}
theorem cH(hT:GQ P T){f:FuncId}{fn:Func}{cd:Code}{xs:List SV}{L0:List Ch}{ρ ex:Type}{sv:ρ→ex→SV}{Lf:ρ→ex→List Ch}{F:Option ρ}{rs:List ResultVar}(hc:∀args w,(callFunc f args).run P w=.ok (.enter f args) w)(hf:P.funcs[f]?=some fn)(hr:fn.results=rs.toArray)(hb:fn.body=some cd)(hm:fn.ntmps=n)
    (k:∀{r},W (G (.mk P T hT n c B0 (QR P fn hr c B0 sv Lf r) (fun _ _ _=>False) (QR P fn hr c B0 sv Lf r)) [] B0.length (aF9 0 xs) L0 (.c cd)) r F) (hl:Nat.ble xs.length n=true:=by exact rfl):VS P c f F xs B0 L0 sv Lf:=
  fun _ hF=>en n hc hf hT hb hm hl (k hF)
theorem aMM{rs:List ResultVar}{is:List Nat}{b0:Nat}{L2 L3:List Ch}{s:SV}{st:Stop}(h:aQU T rs is b0 L2 st=some (s,L3)):∃m' e' L' x,st=.ret m' e' L'∧aG5 T e' L' rs=some x∧nbS x=s∧GM b0 s=true∧SS b0 m' e' L' is b0 [] L2=some ([],L3):=by
  unfold aQU at h
  split at h
  · split at h
    · rename_i h1
      split at h
      · rename_i h2
        split at h
        · rename_i h3
          cases h
          exact⟨_,_,_,_,rfl,h1,rfl,h2,h3⟩
        · cases h
      · cases h
    · cases h
  · cases h
theorem dO{fn:Func}{ρ ex:Type}{sv:ρ→ex→SV}{Lf:ρ→ex→List Ch}{r r':ρ}{rs:List ResultVar}{hr:fn.results=rs.toArray}{zz:Option ρ}(y:ex)(is:List Nat)(hz:zz=some r')(h:aQU T rs is B0.length (Lf r' y) (kB T n K cf m e L)=some (sv r' y,Lf r' y)):W (G (.mk P T hT n c B0 N X (QR P fn hr c B0 sv Lf r)) K m e L cf) r zz:=fun hF=>by
  obtain⟨_,_,_,_,h1,h2,h3,h4,h5⟩:=aMM h
  exact rt y is hF hz h1 hr h2 h3 h4 h5
theorem cO{fn:Func}{ρ:Type}{sv:ρ→Unit→SV}{Lf:ρ→Unit→List Ch}{r r':ρ}{rs:List ResultVar}{hr:fn.results=rs.toArray}{zz:Option ρ}(hz:zz=some r')(h:aQU T rs [] B0.length (Lf r' ()) (kB T n K cf m e L)=some (sv r' (),Lf r' ())):W (G (.mk P T hT n c B0 N X (QR P fn hr c B0 sv Lf r)) K m e L cf) r zz:=dO () [] hz h
theorem L9{fn:Func}{ρ ex:Type}{sv:ρ→ex→SV}{Lf:ρ→ex→List Ch}{r r':ρ}{rs:List ResultVar}{hr:fn.results=rs.toArray}{zz:Option ρ}(y:ex)(is:List Nat)(hz:zz=some r')(h:aQU T rs is B0.length (Lf r' y) (aXN (kB T n K cf m e L))=some (sv r' y,Lf r' y)):W (G (.mk P T hT n c B0 (QR P fn hr c B0 sv Lf r) X Q) K m e L cf) r zz:=fun hF=>by
  obtain⟨m',e',L',_,h1,h2,h3,h4,h5⟩:=aMM h
  refine rf y is hF hz (m':=m') (e':=e') (L':=L') ?_ hr h2 h3 h4 h5
  unfold aXN at h1
  split at h1
  · rename_i h0;rw [h0];cases h1;rfl
  · cases h1
theorem aMN{is:List Nat}{b0 mj:Nat}{ej e3:SE}{Lj L3:List Ch}{st:Stop}(h:aNF is b0 mj ej Lj st=some (e3,L3)):∃m' e' L',st=.fin m' e' L'∧SS b0 m' e' L' is mj ej Lj=some (e3,L3):=by
  unfold aNF at h
  split at h
  · exact⟨_,_,_,rfl,h⟩
  · cases h
theorem fC{π υ α:Type}{eq:π→Prop}{mj:Nat}{ej:π→υ→SE}{Lj:π→υ→List Ch}{p:π}{q:α}{zz:Option α}(u:υ)(is:List Nat)(hz:(zz=some q)=eq p)(h:aNF is B0.length mj (ej p u) (Lj p u) (kB T n K cf m e L)=some (ej p u,Lj p u)):W (G (.mk P T hT n c B0 (JP n c B0 eq mj ej Lj) X Q) K m e L cf) q zz:=fun hF=>by
  obtain⟨_,_,_,h1,h2⟩:=aMN h
  exact jn u is (hz ▸ hF) h1 h2
theorem bR{π α:Type}{eq:π→Prop}{mj:Nat}{ej:π→Unit→SE}{Lj:π→Unit→List Ch}{p:π}{q:α}{zz:Option α}(is:List Nat)(hz:(zz=some q)=eq p)(h:aNF is B0.length mj (ej p ()) (Lj p ()) (kB T n K cf m e L)=some (ej p (),Lj p ())):W (G (.mk P T hT n c B0 (JP n c B0 eq mj ej Lj) X Q) K m e L cf) q zz:=fC () is hz h
theorem U4{σ ρ υ:Type}{o:Step σ ρ}{mj:Nat}{el:σ→υ→SE}{Ll:σ→υ→List Ch}{s:σ}(u:υ)(is:List Nat)(h:aNF is B0.length mj (el s u) (Ll s u) (kB T n K cf m e L)=some (el s u,Ll s u)):W (G (.mk P T hT n c B0 (NxP n c B0 o mj el Ll) X Q) K m e L cf) o (some (Step.next s)):=fun hF=>by
  obtain⟨_,_,_,h1,h2⟩:=aMN h
  exact nx u is hF h1 h2
theorem zZ{σ ρ:Type}{o:Step σ ρ}{mj:Nat}{el:σ→Unit→SE}{Ll:σ→Unit→List Ch}{s:σ}(is:List Nat)(h:aNF is B0.length mj (el s ()) (Ll s ()) (kB T n K cf m e L)=some (el s (),Ll s ())):W (G (.mk P T hT n c B0 (NxP n c B0 o mj el Ll) X Q) K m e L cf) o (some (Step.next s)):=U4 () is h
def BkR(n:Nat)(c:Ctx)(B0:Bl){β ρ σ υ:Type}{o:Step σ ρ}{ro:ρ}(_:∀p,o=.stop p→p=ro)(enc:β→ρ)(m:Nat)(ej:β→υ→SE)(Lj:β→υ→List Ch)(id:Nat)(X:Nat→Act→World→Prop):Nat→Act→World→Prop:=BkP n c B0 ro enc m ej Lj id X
theorem W0{σ ρ β υ:Type}{o:Step σ ρ}{ro:ρ}{enc:β→ρ}{mj id:Nat}{ej:β→υ→SE}{Lj:β→υ→List Ch}{b:β}{hr:∀p,o=.stop p→p=ro}(u:υ)(is:List Nat)(h:exQ is id B0.length mj (ej b u) (Lj b u) (kB T n K cf m e L)=some (ej b u,Lj b u)):W (G (.mk P T hT n c B0 N (BkR n c B0 hr enc mj ej Lj id X) Q) K m e L cf) o (some (Step.stop (enc b))):=fun hF=>by
  unfold exQ at h
  split at h
  · rename_i h0
    split at h
    · rename_i hb
      rw [Nat.eq_of_beq_eq_true hb] at h0
      exact bk u is hF hr h0 h
    · cases h
  · cases h
theorem z0{σ ρ β:Type}{o:Step σ ρ}{ro:ρ}{enc:β→ρ}{mj id:Nat}{ej:β→Unit→SE}{Lj:β→Unit→List Ch}{b:β}{hr:∀p,o=.stop p→p=ro}(is:List Nat)(h:exQ is id B0.length mj (ej b ()) (Lj b ()) (kB T n K cf m e L)=some (ej b (),Lj b ())):W (G (.mk P T hT n c B0 N (BkR n c B0 hr enc mj ej Lj id X) Q) K m e L cf) o (some (Step.stop (enc b))):=W0 () is h
theorem DS{σ ρ α:Type}{o:Step σ ρ}{p ro:ρ}{F:ρ→Option α}{q:α}{C:Prop}(hr:∀p,o=.stop p→p=ro)(hF:F ro=some q)(k:W C q (F p)):W C o (some (Step.stop p)):=fun h=>k (re h rfl hr hF)
noncomputable section
variable {b:Bool} {α:Type} {A B':Option α} {q:α}
theorem aY{o:Operand}{x y:Code}(ss:List Nat)(hs:kB T n K cf m e L=.cond o b x y K' m' e' L')(ho:bA (z7 e') ss=some (ss.map fun _=>SV.b b))
    (k1:W (G (.mk P T hT n c B0 N X Q) K' m' (ovr true e' ss) L' (.c x)) q A) (k2:W (G (.mk P T hT n c B0 N X Q) K' m' (ovr false e' ss) L' (.c y)) q B'):W (G (.mk P T hT n c B0 N X Q) K m e L cf) q (if b=true then A else B'):=fun hF=>cs ss hs ho hF k1 k2
theorem aJG{o:Operand}{x y:Code}(ss:List Nat)(hs:kB T n K cf m e L=.cond o b x y K' m' e' L')(ho:bA (z7 e') ss=some (ss.map fun _=>SV.b b))
    (k1:b=true→W (G (.mk P T hT n c B0 N X Q) K' m' (ovr true e' ss) L' (.c x)) q A) (k2:b=false→W (G (.mk P T hT n c B0 N X Q) K' m' (ovr false e' ss) L' (.c y)) q B'):W (G (.mk P T hT n c B0 N X Q) K m e L cf) q (if b=true then A else B'):=fun hF=>csK ss hs ho hF k1 k2
theorem dR(ss:List Nat)(hs:kB T n K cf m e L=.case b cf' K' m' e' L')(ho:bA (z7 e') ss=some (ss.map fun _=>SV.b b))
    (k1:W (G (.mk P T hT n c B0 N X Q) K' m' (ovr true e' ss) L' cf') q A) (k2:W (G (.mk P T hT n c B0 N X Q) K' m' (ovr false e' ss) L' cf') q B'):W (G (.mk P T hT n c B0 N X Q) K m e L cf) q (if b=true then A else B'):=fun hF=>ca ss hs ho hF k1 k2
theorem aJH(ss:List Nat)(hs:kB T n K cf m e L=.case b cf' K' m' e' L')(ho:bA (z7 e') ss=some (ss.map fun _=>SV.b b))
    (k1:b=true→W (G (.mk P T hT n c B0 N X Q) K' m' (ovr true e' ss) L' cf') q A) (k2:b=false→W (G (.mk P T hT n c B0 N X Q) K' m' (ovr false e' ss) L' cf') q B'):W (G (.mk P T hT n c B0 N X Q) K m e L cf) q (if b=true then A else B'):=fun hF=>caK ss hs ho hF k1 k2
end
noncomputable section
variable {α β:Type} {fo:Option α} {kf:α→Option β} {q:β} {d:Nat} {f:FuncId} {xs:List SV}
theorem c0{sv:α→SV}(hs:kB T n K cf m e L=.call o (some d) f xs cf1 cf2 K' m' e' L')
    (hc:∀{w},HS c w L'→V0 P (c9 w) f fo xs sv) (k:∀x,W (G (.mk P T hT n c B0 N X Q) K' m' ((d,sv x) :: e') L' cf2) q (kf x)):W (G (.mk P T hT n c B0 N X Q) K m e L cf) q (fo.bind kf):=fun hF=>cl0 hs (fun h _ hx=>hc h _ hx) hF fun x _ h=>k x h
theorem c1{ex:Type}{sv:α→ex→SV}{Lf:α→ex→List Ch}(hs:kB T n K cf m e L=.call o (some d) f xs cf1 cf2 K' m' e' L')
    (hc:∀{w},HS c w L'→VS P (c9 w) f fo xs [] [] sv Lf) (k:∀x,∀y:ex,W (G (.mk P T hT n c B0 N X Q) K' m' ((d,sv x y) :: e') (L'++Lf x y) cf2) q (kf x)) (hn:∀x y,noF (Lf x y)=true:=by exact fun _ _=>rfl):W (G (.mk P T hT n c B0 N X Q) K m e L cf) q (fo.bind kf):=fun hF=>cl hs hn (fun h _ hx=>hc h _ hx) hF fun x _ h y=>k x y h
theorem z4{β:Type}{kf:α→Option β}{q:β}{iR:aL α}(C:K2 α){d t:Nat}{s:AC}{i:Int}{ls:List α}(hs:kB T n K cf m e L=.idx o d t s ls.length i Lv cf1 cf2 K' m' e' L')(h1:aV c s ls)(ht:ixT T t (aL.n α)=true)
    (k:∀x,∀y:C.ex,C.sub c.S0 c.w0 x y→W (G (.mk P T hT n c B0 N X Q) K' (m'+1) ((d,.p m' 0) :: e') (L' ++ [.ro m' (C.cs x y)]) (cf2.ext [.ro m' (C.cs x y)])) q (kf x)):W (G (.mk P T hT n c B0 N X Q) K m e L cf) q ((idx ls i).bind kf):=fun hF=>by
  unfold ixT at ht
  split at ht
  · rename_i h2
    split at ht
    · rename_i h3
      exact ix C hs h1 hF h2 h3 (Nat.eq_of_beq_eq_true ht) fun x _ h y hy=>k x y hy h
    · cases ht
  · cases ht
theorem SJ{β:Type}{kf:Int→Option β}{q:β}{d t:Nat}{s:AC}{i:Int}{ls:List Int}(hs:kB T n K cf m e L=.idx o d t s ls.length i Lv cf1 cf2 K' m' e' L')(h1:aV c s ls)(ht:ixT T t 1=true)
    (k:∀x,W (G (.mk P T hT n c B0 N X Q) K' (m'+1) ((d,.p m' 0) :: e') (L' ++ [.ro m' [.i .i64 x]]) (cf2.ext [.ro m' [.i .i64 x]])) q (kf x)):W (G (.mk P T hT n c B0 N X Q) K m e L cf) q ((idx ls i).bind kf):=z4 cI hs h1 ht fun x _ _=>k x
theorem dN(hm:P.follows .mixedOrders=true){id:Nat}{ops:Array Oper}{zz:Option β}(is:List Nat)(hs:kB T n K cf m e L=.rgn id ops K' m' e' L')
    (k:∀{B1},W (G (.mk P T hT n c B0 N X Q) K' m' e' L' (.d B1 ops (List.replicate ops.size false) is (kl L' is) (kl L' is))) q zz) (hf:(aIX ops && (okL m' (kl L' is) && (dS is && is.all fun j=>Nat.blt j L'.length)))=true:=by kernel_rfl):W (G (.mk P T hT n c B0 N X Q) K m e L cf) q zz:=fun hF=>dr is hs hm hf fun _=>k hF
theorem dP{π υ:Type}{zz:Option β}(j mj:Nat)(Fj:π→Option β)(ks:List Nat)(ej:π→υ→SE)(is:List Nat)(Lj:π→υ→List Ch)(hs:T2 (kB T n K cf m e L)=some (K',cf',m',e',L'))
    (k1:W (G (.mk P T hT n c B0 (JP n c B0 (fun p=>Fj p=some q) mj (fun p u=>ej p u++kp e' ks) (fun p u=>Lj p u++kl L' is)) (XK (.mk P T hT n c B0 N X Q) (K'.drop j)) Q) (K'.take j) m' e' L' cf') q zz)
    (k2:∀p u,W (G (.mk P T hT n c B0 N X Q) (K'.drop j) mj (ej p u++kp e' ks) (Lj p u++kl L' is) .n) q (Fj p)):W (G (.mk P T hT n c B0 N X Q) K m e L cf) q zz:=fun hF=>cut j mj (fun p=>Fj p=some q) ks ej is Lj hs (k1 hF) fun p u h=>k2 p u h
theorem cV{zz:Option β}(j mj:Nat)(Fj:Bool→Option β)(ks:List Nat)(v:Nat)(is:List Nat)(hs:T2 (kB T n K cf m e L)=some (K',cf',m',e',L'))
    (k1:W (G (.mk P T hT n c B0 (JP n c B0 (fun p=>Fj p=some q) mj (fun p (_:Unit)=>[(v,.b p)]++kp e' ks) (fun _ _=>[]++kl L' is)) (XK (.mk P T hT n c B0 N X Q) (K'.drop j)) Q) (K'.take j) m' e' L' cf') q zz)
    (k2:∀p,W (G (.mk P T hT n c B0 N X Q) (K'.drop j) mj ([(v,.b p)]++kp e' ks) ([]++kl L' is) .n) q (Fj p)):W (G (.mk P T hT n c B0 N X Q) K m e L cf) q zz:=dP j mj Fj ks (fun p (_:Unit)=>[(v,.b p)]) is (fun _ _=>[]) hs k1 fun p _=>k2 p
theorem M9{σ ρ υ γ ω:Type}{id:Nat}{y:Code}{fb:σ→Option (Step σ ρ)}{s0:σ}{gk:ρ→Option β}(u0:υ)(ks:List Nat)(el:σ→υ→SE)(is0 is:List Nat)(Ll:σ→υ→List Ch)(enc:γ→ρ)(kb:List Nat)(ej:γ→ω→SE)(ib:List Nat)(Lj:γ→ω→List Ch)
    (hs:kB T n K cf m e L=.loop id y K' m' e' L')
    (h0:SS B0.length m' e' L' is0 m' (el s0 u0++kp e' ks) (Ll s0 u0++kl L' is)=some (el s0 u0++kp e' ks,Ll s0 u0++kl L' is))
    (k1:∀{ro o},gk ro=some q→∀s u,(hr:∀p,o=.stop p→p=ro)→W (G (.mk P T hT n c B0 (NxP n c B0 o m' (fun s u=>el s u++kp e' ks) (fun s u=>Ll s u++kl L' is)) (BkR n c B0 hr enc m' (fun b u=>ej b u++kp e' kb) (fun b u=>Lj b u++kl L' ib) id (XK (.mk P T hT n c B0 N X Q) K')) Q) [] m' (el s u++kp e' ks) (Ll s u++kl L' is) (.c y)) o (fb s))
    (k2:∀b u,W (G (.mk P T hT n c B0 N X Q) K' m' (ej b u++kp e' kb) (Lj b u++kl L' ib) .n) q (gk (enc b))):W (G (.mk P T hT n c B0 N X Q) K m e L cf) q ((loop fb s0).bind gk):=fun hF=>
  lp u0 ks el is0 is Ll enc kb ej ib Lj hs hF h0 (fun ro h1 s u o h2 h3=>k1 h1 s u h3 h2) fun b u h=>k2 b u h
theorem GN{ρ:Type}{id:Nat}{y:Code}{fb:Int→Option (Step Int ρ)}{s0:Int}{gk:ρ→Option β}(v:Nat)(ks:List Nat)(is:List Nat)(enc:Unit→ρ)(kb:List Nat)(ib:List Nat)
    (hs:kB T n K cf m e L=.loop id y K' m' e' L')
    (h0:SS B0.length m' e' L' is m' ([(v,.i .i64 s0)]++kp e' ks) ([]++kl L' is)=some ([(v,.i .i64 s0)]++kp e' ks,[]++kl L' is))
    (k1:∀{ro o},gk ro=some q→∀s,(hr:∀p,o=.stop p→p=ro)→W (G (.mk P T hT n c B0 (NxP n c B0 o m' (fun s (_:Unit)=>[(v,.i .i64 s)]++kp e' ks) (fun _ _=>[]++kl L' is)) (BkR n c B0 hr enc m' (fun _ (_:Unit)=>[]++kp e' kb) (fun _ _=>[]++kl L' ib) id (XK (.mk P T hT n c B0 N X Q) K')) Q) [] m' ([(v,.i .i64 s)]++kp e' ks) ([]++kl L' is) (.c y)) o (fb s))
    (k2:W (G (.mk P T hT n c B0 N X Q) K' m' ([]++kp e' kb) ([]++kl L' ib) .n) q (gk (enc ()))):W (G (.mk P T hT n c B0 N X Q) K m e L cf) q ((loop fb s0).bind gk):=
  M9 () ks (fun s (_:Unit)=>[(v,.i .i64 s)]) is is (fun _ _=>[]) enc kb (fun _ (_:Unit)=>[]) ib (fun _ _=>[]) hs h0 (fun h s _ hr=>k1 h s hr) fun _ _=>k2
theorem hQ{β:Type}{kf:α→Option β}{q:β}[aL α](E:CO α)(j:Nat){t:TypeId}{s:AC}{i:Int}{ls:List α}(hs:kB T n K cf m e L=.idx o d t s ls.length i Lv cf1 cf2 K' m' e' L')(hj:L'[j]?=some (ow s ls))(hz:fW j cf1.z8=true)
    (k:∀x,idx ls i=some x→∀y:E.ex,Shp s ls.length→W (G (.mk P T hT n c B0 N X Q) K' (m'+1) e' (L'.set j .no++([.o (vZ (s.v ls.length) ls i.toNat),.box m' (E.cs x y),wOf α m' s ls.length i.toNat]++E.Lx x y)) (cf1.ext [wOf α m' s ls.length i.toNat])) q (kf x)):W (G (.mk P T hT n c B0 N X Q) K m e L cf) q ((idx ls i).bind kf):=fun hF=>oe E j hs hj hz hF fun x h1 h2 y h3=>k x h1 y h3 h2
end
noncomputable section
variable {α β ex:Type} {fo:Option α} {kf:α→Option β} {q:β} {d:Option Nat} {f:FuncId} {xs xs0:List SV} {M:List Ch} {sv:α→ex→SV} {Lr:α→ex→List Ch}
theorem jD(is:List Nat)
    (hs:cpS (kB T n K cf m e L)=some (o,d,f,xs,cf1,cf2,K',m',e',L')) (hi:bA (fun i=>L'[i]?) is=some M) (hx:bA (rnP [] 0) xs=some xs0)
    (hk:(P2 M && (dS is && is.all fun j=>fW j cf1.z8))=true)
    (hc:∀{κ:Ctx},HG c κ L' is→VS P κ f fo xs0 [] M sv Lr)
    (k:∀x,∀y:ex,W (G (.mk P T hT n c B0 N X Q) K' m' (dse d (sv x y) e') (P1 L' is++Lr x y) cf2) q (kf x)) (hn:∀x y,(P2 (Lr x y) && GM 0 (sv x y))=true:=by exact fun _ _=>rfl):W (G (.mk P T hT n c B0 N X Q) K m e L cf) q (fo.bind kf):=fun hF=>
  cw0 is hs hi hx hk hn (fun h _ hx=>hc h _ hx) hF fun x _ h y=>k x y h
theorem bD{c1:List SV}{a1:α→ex→List SV}(i1 n1 o1 k1:Nat)(is:List Nat)
    (hs:cpS (kB T n K cf m e L)=some (o,d,f,xs,cf1,cf2,K',m',e',L')) (hb:aI8 L' [(i1,n1,o1,k1)]=some [c1]) (hi:bA (fun i=>L'[i]?) is=some M) (hx:bA (rnP [(i1,n1,o1,k1)] 0) xs=some xs0)
    (hk:(P2 M && ([c1].all (GM.okC 0) && (dS (i1 :: is) && (i1 :: is).all fun j=>fW j cf1.z8)))=true)
    (hc:∀{κ:Ctx},HG c κ L' (i1 :: is)→∀{b1:Nat×Nat},VS P κ f fo xs0 [b1] (.box 0 c1 :: M) sv (fun x y=>.box 0 (a1 x y) :: Lr x y))
    (k:∀x,∀y:ex,W (G (.mk P T hT n c B0 N X Q) K' m' (dse d (sv x y) e') (NG L' (P1 L' (i1 :: is)++Lr x y) [(i1,n1,o1,k1)] [a1 x y]) cf2) q (kf x)) (hn:∀x y,(aB2 [(i1,n1,o1,k1)] [a1 x y] && ([a1 x y].all (GM.okC 0) && (P2 (Lr x y) && GM 0 (sv x y))))=true:=by exact fun _ _=>rfl):W (G (.mk P T hT n c B0 N X Q) K m e L cf) q (fo.bind kf):=fun hF=>
  cw1 i1 n1 o1 k1 is hs hb hi hx hk hn (fun h _ _ hx=>hc h _ hx) hF fun x _ h y=>k x y h
theorem YY{c1 c2:List SV}{a1 a2:α→ex→List SV}(i1 n1 o1 k1:Nat)(i2 n2 o2 k2:Nat)(is:List Nat)
    (hs:cpS (kB T n K cf m e L)=some (o,d,f,xs,cf1,cf2,K',m',e',L')) (hb:aI8 L' [(i1,n1,o1,k1),(i2,n2,o2,k2)]=some [c1,c2]) (hi:bA (fun i=>L'[i]?) is=some M) (hx:bA (rnP [(i1,n1,o1,k1),(i2,n2,o2,k2)] 0) xs=some xs0)
    (hk:(P2 M && ([c1,c2].all (GM.okC 0) && (dS (i1 :: i2 :: is) && (i1 :: i2 :: is).all fun j=>fW j cf1.z8)))=true)
    (hc:∀{κ:Ctx},HG c κ L' (i1 :: i2 :: is)→∀{b1 b2:Nat×Nat},VS P κ f fo xs0 [b1,b2] (.box 0 c1 :: .box 1 c2 :: M) sv (fun x y=>.box 0 (a1 x y) :: .box 1 (a2 x y) :: Lr x y))
    (k:∀x,∀y:ex,W (G (.mk P T hT n c B0 N X Q) K' m' (dse d (sv x y) e') (NG L' (P1 L' (i1 :: i2 :: is)++Lr x y) [(i1,n1,o1,k1),(i2,n2,o2,k2)] [a1 x y,a2 x y]) cf2) q (kf x)) (hn:∀x y,(aB2 [(i1,n1,o1,k1),(i2,n2,o2,k2)] [a1 x y,a2 x y] && ([a1 x y,a2 x y].all (GM.okC 0) && (P2 (Lr x y) && GM 0 (sv x y))))=true:=by exact fun _ _=>rfl):W (G (.mk P T hT n c B0 N X Q) K m e L cf) q (fo.bind kf):=fun hF=>
  cw2 i1 n1 o1 k1 i2 n2 o2 k2 is hs hb hi hx hk hn (fun h _ _ _ hx=>hc h _ hx) hF fun x _ h y=>k x y h
end
theorem aEM{α β:Type}{iR:aL α}{C:K2 α}{sr:β→SV}{g:FuncId}{w:World}{p:α→Option β}(hc:∀args w,(callFunc g args).run P w=.ok (.enter g args) w)(hn:∀{κ:Ctx} {x y},C.sub κ.S0 κ.w0 x y→V0 P κ g (p x) [C.sv x y] sr):Fu1 P (c9 w) C sr g [] p:=fu1 hc (by intro κ x y h q hq;exact hn h _ hq)
theorem aKX{α β:Type}{iR:aL α}{C:K2 α}{sr:β→SV}{g:FuncId}{w:World}{Bs:Bl}{cs:List (Nat×List SV)}{p:α→Option β}(hc:∀args w,(callFunc g args).run P w=.ok (.enter g args) w)(hB:∀w1,fQ F0 w w1→mE (c9 w1) w1 Bs (roL 0 cs))(hl:bA (fH Bs) (aP5 0 cs)=some (aB1 Bs))(hn:∀{w1 x y},fQ F0 w w1→C.sub (PI w1) w1 x y→VS P (c9 w1) g (p x) (C.sv x y :: aP5 0 cs) Bs (roL 0 cs) (fun r (_:Unit)=>sr r) (fun _ _=>[]))(hz:∀q,GM 0 (sr q)=true:=by exact fun _=>rfl):Fu1 P (c9 w) C sr g (aB1 Bs) p:=fk1 hc hB hl hz (by intro w1 x y h h' q hq;exact hn h h' _ hq)
noncomputable section
variable {α β:Type} {fo:Option α} {kf:α→Option β} {q:β} {d:Nat} {f g:FuncId} {xs:List SV} {sv:α→SV}
theorem aKY{n1:Nat}{c1:List SV}(is:List Nat)(hs:kB T n K cf m e L=.callp o (some d) f xs cf1 cf2 K' m' e' L')(hk:kl L' is=[.ro n1 c1])(ho:(aI4 [(n1,c1)] && okA xs.dropLast)=true)(hx:xs=xs.dropLast ++ [.f g [n1]])
    (hc:∀{w},HS c w L'→∀{b1:Nat×Nat},(∀w1,fQ F0 w w1→mE (c9 w1) w1 [b1] [.ro 0 c1])→V0 P (c9 w) f fo (xs.dropLast ++ [.k (.func (.func g) #[] (aB1 [b1]).toArray)]) sv)
    (k:∀x,W (G (.mk P T hT n c B0 N X Q) K' m' ((d,sv x) :: e') L' cf2) q (kf x)):W (G (.mk P T hT n c B0 N X Q) K m e L cf) q (fo.bind kf):=fun hF=>
  aYT is hs hk ho hx (fun h _ h2 _ hx=>hc h h2 _ hx) hF fun x _ h=>k x h
end
end
end Go.Gv
end
noncomputable section
namespace Go.Gv
def pV(y:Nat×Nat):Value:=.pointer (some ⟨y.1,y.2,none⟩)
noncomputable section
variable {P:Program} {T:TT} {hT:GQ P T} {n:Nat} {c:Ctx} {B0:Bl} {N:Act→World→Prop} {X:Nat→Act→World→Prop} {Q:Act→World→Prop} {K K':List Fr} {m m':Nat} {e e':SE} {L L':List Ch} {cf cf1 cf2:wG} {o:Oper}
abbrev VP(P:Program)(c:Ctx)(f:FuncId){ρ:Type}(F:Option ρ)(xs:List SV)(cs:ρ→List SV):Prop:=VS P c f F xs [] [] (fun _ (y:Nat×Nat)=>.k (pV y)) (fun r y=>[.o (PL [y] 0 (cs r))])
theorem rtP{fn:Func}{ρ:Type}{r r':ρ}{t:Nat}{hr:fn.results=[ResultVar.tmp t].toArray}{zz:Option ρ}{cs:ρ→List SV}(is:List Nat)(hz:zz=some r')(hs:kB T n K cf m e L=.ret m' e' L')(hL:SS 0 m' e' L' is 1 [(t,.p 0 0)] [.box 0 (cs r')]=some ([(t,.p 0 0)],[.box 0 (cs r')]))(ho:GM.okC 0 (cs r')=true):W (G (.mk P T hT n c [] N X (QR P fn hr c [] (fun _ (y:Nat×Nat)=>.k (pV y)) (fun r y=>[.o (PL [y] 0 (cs r))]) r)) K m e L cf) r zz:=fun hF=>by
  subst hz;cases hF
  refine fX (g:=.mk P T hT n c [] N X _) ?_
  rw [hs]
  intro a w hr'
  obtain⟨B,hm,hA,hS⟩:=mX.SS hr' is hL
  have hB:∃y,B=[y]:=by
    cases B with
    | nil=>simp at hm
    | cons y B => cases B with
      | nil=>exact⟨y,rfl⟩
      | cons z B=>simp at hm
  obtain⟨y,rfl⟩:=hB
  have hS:mE c w [y] [.box 0 (cs r)]:=hS
  have hA:fL n [y] [(t,.p 0 0)] a:=hA
  have hv:aG5 T [(t,.p 0 0)] [.box 0 (cs r)] [ResultVar.tmp t]=some (.p 0 0):=by simp [aG5,aPC,z7]
  obtain⟨v,h1,h2⟩:=aA4 hr hT hA hS hv
  have hv':v=pV y:=by
    simp only [fH,gV,bU,List.getElem?_cons_zero] at h1
    cases h1;rfl
  subst hv'
  refine⟨hA.d,_,h2,y,by simp [fH,gV,bU,pV,Value.oneCell'],?_⟩
  obtain⟨⟨R,s1,s2⟩,s0⟩:=hS
  exact⟨⟨R,s1.imp (.cons (fun F h=>h) .nil),fun x hx=>by rcases List.mem_cons.1 hx with rfl | hx <;> first | trivial | simp at hx⟩,s0⟩
theorem cP{α β:Type}{fo:Option α}{kf:α→Option β}{q:β}{d:Nat}{f:FuncId}{xs:List SV}{cs:α→List SV}(hs:kB T n K cf m e L=.call o (some d) f xs cf1 cf2 K' m' e' L')
    (hc:∀{w},HS c w L'→VP P (c9 w) f fo xs cs) (k:∀x,W (G (.mk P T hT n c B0 N X Q) K' (m'+1) ((d,.p m' 0) :: e') (L' ++ [.box m' (cs x)]) cf2) q (kf x)) (hk:∀x,GM.okC 0 (cs x)=true:=by exact fun _=>rfl):W (G (.mk P T hT n c B0 N X Q) K m e L cf) q (fo.bind kf):=fun hF=>by
  refine fX (g:=.mk P T hT n c B0 N X Q) ?_
  rw [hs]
  intro fo' args ats ho hd hf ⟨ys,hys,hxs⟩ hA0 hdn hE
  subst hxs
  cases hfo:fo with
  | none=>rw [hfo] at hF;cases hF
  | some x =>
    rw [hfo] at hF
    refine hE Unit (fun _=>m'+1) (fun _=>(d,.p m' 0) :: e') (fun _=>L' ++ [.box m' (cs x)]) (fun _=>xT _) (fun B a w next Q' hm hA hS hnext=>?_) (fun _=>k x hF)
    obtain⟨hcall,hrun⟩:=hc ⟨_,hS⟩ x hfo
    obtain⟨vs,h1,h2⟩:=YN hA hys
    obtain⟨v,h3,h4⟩:=eG hA hf
    simp [fH,bA] at h3
    subst h3
    have h5:=hrun vs (aA5 hA0 (by rw [R4];exact h1)) (aPY w)
    have h6:=UZ (w:=w) hcall ho h4 h2
    unfold Oper.wp
    rw [h6 _ a hA.env,Oper.upon_enter]
    refine Calls.mono h5 fun en w' ⟨v,hv,y,g1,g2⟩=>?_
    subst hv
    rw [hd]
    have hv':v=pV y:=by simpa [fH,gV,bU,pV,Value.oneCell'] using g1.symm
    subst hv'
    have hb:∀{F:cT},(PL [y] 0 (cs x)).P w' F→(PL ((UP (.mk P T hT n c B0 N X Q) cf1++B) ++ [y]) m' (cs x)).P w' F:=fun⟨b,z,us,k1,k2,k3⟩=>by
      simp only [List.getElem?_cons_zero,Option.some.injEq] at k1
      refine⟨y.1,y.2,us,?_,?_,by rw [k1];exact k3⟩
      · rw [List.getElem?_append_right (by omega),hm];simp
      · simpa using eW (fun x v h=>by simpa using fT (B:=[]) (UP (.mk P T hT n c B0 N X Q) cf1++B ++ [y]) h) (GR (hk x) k2)
    have g3:fH ((UP (.mk P T hT n c B0 N X Q) cf1++B) ++ [y]) (.p m' 0)=some (pV y):=by
      simp only [fH,gV,bU]
      rw [List.getElem?_append_right (by omega),hm]
      simp [pV]
    refine hnext () _ _ ⟨[y],by simp only [List.length_append,List.length_cons,List.length_nil] at hm ⊢;omega,hA.ext g3 (hA.env.put (by simpa [qR,Nat.blt_eq] using hdn) _),?_⟩
    obtain⟨⟨R,s1,s2⟩,s0⟩:=(hS.after (L2:=[.o (PL [y] 0 (cs x))]) rfl g2).app [y]
    refine⟨⟨R,s1.imp ?_,fun z hz=>?_⟩,s0⟩
    · rw [List.map_append,List.map_append]
      exact iH.append (iH.refl _) (.cons (fun F h=>hb h) .nil)
    · rcases List.mem_append.1 hz with hz | hz
      · exact s2 z (List.mem_append_left _ hz)
      · rcases List.mem_cons.1 hz with rfl | hz <;> first | trivial | simp at hz
end
end Go.Gv
end
noncomputable section
namespace Go.Gv
structure aE where
  Bytes:List Int
  Class:List Int
  deriving DecidableEq,Inhabited
instance:aL aE:=aL.via (fun d=>(d.Bytes,d.Class))
instance:Fits aE:=Fits.via (fun d=>(d.Bytes,d.Class))
structure aH where
  aN:List Int
  deriving DecidableEq,Inhabited
instance:aL aH:=aL.via (fun d=>(d.aN))
instance:Fits aH:=Fits.via (fun d=>(d.aN))
theorem aJI{S:cT}{w:World}{cs:List Value}{d:aH}(h:aL.rd S w cs d):∃v0:Value,cs=[v0]∧aL.rd S w [v0] d.aN:=by
  obtain⟨u0,q0⟩:=JU h
  rw [q0] at h
  exact⟨u0,q0,h⟩
theorem P3(d:aH){v0:Value}:OP [v0] d [fM [v0] d.aN]:=(show OP (α:=(List Int)) _ (d.aN) _ from aKF)
theorem _root_.Go.Gv.St.aQV{c:Ctx}{L:List Chunk}{R:List Fact}{w:World}{s:Value}{l:List aH}{i:Nat}{x:aH}(h:St c w L R)(j:Nat)(hj:R[j]?=some (z5 [s] l))(hi:l[i]?=some x):∃v0:Value,b9 w (PT s) (PJ 1 i s) [v0]∧St c w L (R ++ [z5 [v0] x.aN]):=by
  obtain⟨S,hS,hk⟩:=h.aOE hj
  obtain⟨ec,h1,h2⟩:=aIM hS hi
  obtain⟨v0,q,q0⟩:=aJI h2
  rw [q] at h1
  exact⟨v0,h1,hk _ (by intro f hf;simp only [List.mem_cons,List.not_mem_nil,or_false] at hf;subst hf;exact q0)⟩
structure aB where
  Global:List aH
  bQ:List aH
  deriving DecidableEq,Inhabited
instance:aL aB:=aL.via (fun d=>(d.Global,d.bQ))
instance:Fits aB:=Fits.via (fun d=>(d.Global,d.bQ))
structure Mem where
  aE:aE
  aB:aB
  deriving DecidableEq,Inhabited
instance:aL Mem:=aL.via (fun d=>(d.aE,d.aB))
instance:Fits Mem:=Fits.via (fun d=>(d.aE,d.aB))
structure iI where
  On:Bool
  aM:Int
  fG:Bool
  Seen:Int
  deriving DecidableEq,Inhabited
instance:aL iI:=aL.via (fun d=>(d.On,d.aM,d.fG,d.Seen))
instance:Fits iI:=Fits.via (fun d=>(d.On,d.aM,d.fG,d.Seen))
theorem aVQ{S:cT}{w:World}{cs:List Value}{d:iI}(h:aL.rd S w cs d):cs=[.bool (d.On),.int .i64 (d.aM),.bool (d.fG),.int .i64 (d.Seen)]:=by
  obtain⟨c0,r0,e0,h0,n0⟩:=h
  have q0:c0=[_]:=h0
  obtain⟨c1,r1,e1,h1,n1⟩:=n0
  have q1:c1=[_]:=h1
  obtain⟨c2,r2,e2,h2,n2⟩:=n1
  have q2:c2=[_]:=h2
  have q3:r2=[_]:=n2
  exact by rw [e0,e1,e2,q0,q1,q2,q3];rfl
theorem aVR{S:cT}{w:World}(d:iI):aL.rd S w [.bool (d.On),.int .i64 (d.aM),.bool (d.fG),.int .i64 (d.Seen)] d:=⟨[.bool (d.On)],[.int .i64 (d.aM),.bool (d.fG),.int .i64 (d.Seen)],rfl,rfl,⟨[.int .i64 (d.aM)],[.bool (d.fG),.int .i64 (d.Seen)],rfl,rfl,⟨[.bool (d.fG)],[.int .i64 (d.Seen)],rfl,rfl,rfl⟩⟩⟩
instance:Flat iI:=⟨fun h=>Flat.own_of (α:=Bool×Int×Bool×Int) h,fun h=>Flat.no (α:=Bool×Int×Bool×Int) h⟩
theorem aVS(d:iI):OP [.bool (d.On),.int .i64 (d.aM),.bool (d.fG),.int .i64 (d.Seen)] d []:=(show OP (α:=Bool×Int×Bool×Int) _ (d.On,d.aM,d.fG,d.Seen) _ from (jB (c1:=[.bool (d.On)]) (c2:=[.int .i64 (d.aM),.bool (d.fG),.int .i64 (d.Seen)]) (A:=[]) (B:=[]) (fS rfl) (jB (c1:=[.int .i64 (d.aM)]) (c2:=[.bool (d.fG),.int .i64 (d.Seen)]) (A:=[]) (B:=[]) (fS rfl) (jB (c1:=[.bool (d.fG)]) (c2:=[.int .i64 (d.Seen)]) (A:=[]) (B:=[]) (fS rfl) (fS rfl) rfl) rfl) rfl))
structure aK where
  aM:Int
  bG:List iI
  deriving DecidableEq,Inhabited
instance:aL aK:=aL.via (fun d=>(d.aM,d.bG))
instance:Fits aK:=Fits.via (fun d=>(d.aM,d.bG))
structure b8 where
  Handle:Int
  aM:Int
  deriving DecidableEq,Inhabited
instance:aL b8:=aL.via (fun d=>(d.Handle,d.aM))
instance:Fits b8:=Fits.via (fun d=>(d.Handle,d.aM))
theorem aMO{S:cT}{w:World}{cs:List Value}{d:b8}(h:aL.rd S w cs d):cs=[.int .i64 (d.Handle),.int .i64 (d.aM)]:=by
  obtain⟨c0,r0,e0,h0,n0⟩:=h
  have q0:c0=[_]:=h0
  have q1:r0=[_]:=n0
  exact by rw [e0,q0,q1];rfl
theorem aS7{S:cT}{w:World}(d:b8):aL.rd S w [.int .i64 (d.Handle),.int .i64 (d.aM)] d:=⟨[.int .i64 (d.Handle)],[.int .i64 (d.aM)],rfl,rfl,rfl⟩
instance:Flat b8:=⟨fun h=>Flat.own_of (α:=Int×Int) h,fun h=>Flat.no (α:=Int×Int) h⟩
theorem aS8(d:b8):OP [.int .i64 (d.Handle),.int .i64 (d.aM)] d []:=(show OP (α:=Int×Int) _ (d.Handle,d.aM) _ from (jB (c1:=[.int .i64 (d.Handle)]) (c2:=[.int .i64 (d.aM)]) (A:=[]) (B:=[]) (fS rfl) (fS rfl) rfl))
theorem aS9{S:cT}{w:World}{s:Value}{l:List b8}{i:Nat}{x:b8}(h:aL.rd S w [s] l)(hi:l[i]?=some x):b9 w (PT s) (PJ 2 i s) [.int .i64 (x.Handle),.int .i64 (x.aM)]:=by
  obtain⟨ec,h1,h2⟩:=aIM h hi
  rw [aMO h2] at h1;exact h1
structure aP where
  Rows:List b8
  deriving DecidableEq,Inhabited
instance:aL aP:=aL.via (fun d=>(d.Rows))
instance:Fits aP:=Fits.via (fun d=>(d.Rows))
theorem aJJ{S:cT}{w:World}{cs:List Value}{d:aP}(h:aL.rd S w cs d):∃v0:Value,cs=[v0]∧aL.rd S w [v0] d.Rows:=by
  obtain⟨u0,q0⟩:=JU h
  rw [q0] at h
  exact⟨u0,q0,h⟩
theorem aJK(d:aP){v0:Value}:OP [v0] d [fM [v0] d.Rows]:=(show OP (α:=(List b8)) _ (d.Rows) _ from aKF)
theorem _root_.Go.Gv.St.aJL{c:Ctx}{L:List Chunk}{R:List Fact}{w:World}{s:Value}{l:List aP}{i:Nat}{x:aP}(h:St c w L R)(j:Nat)(hj:R[j]?=some (z5 [s] l))(hi:l[i]?=some x):∃v0:Value,b9 w (PT s) (PJ 1 i s) [v0]∧St c w L (R ++ [z5 [v0] x.Rows]):=by
  obtain⟨S,hS,hk⟩:=h.aOE hj
  obtain⟨ec,h1,h2⟩:=aIM hS hi
  obtain⟨v0,q,q0⟩:=aJJ h2
  rw [q] at h1
  exact⟨v0,h1,hk _ (by intro f hf;simp only [List.mem_cons,List.not_mem_nil,or_false] at hf;subst hf;exact q0)⟩
structure aD where
  Mem:Mem
  aK:aK
  bB:List aP
  lZ:List Int
  deriving DecidableEq,Inhabited
instance:aL aD:=aL.via (fun d=>(d.Mem,d.aK,d.bB,d.lZ))
instance:Fits aD:=Fits.via (fun d=>(d.Mem,d.aK,d.bB,d.lZ))
structure eM where
  Kind:Int
  Cell:Int
  eR:Int
  eS:Int
  deriving DecidableEq,Inhabited
instance:aL eM:=aL.via (fun d=>(d.Kind,d.Cell,d.eR,d.eS))
instance:Fits eM:=Fits.via (fun d=>(d.Kind,d.Cell,d.eR,d.eS))
theorem aQW{S:cT}{w:World}{cs:List Value}{d:eM}(h:aL.rd S w cs d):cs=[.int .i64 (d.Kind),.int .i64 (d.Cell),.int .i64 (d.eR),.int .i64 (d.eS)]:=by
  obtain⟨c0,r0,e0,h0,n0⟩:=h
  have q0:c0=[_]:=h0
  obtain⟨c1,r1,e1,h1,n1⟩:=n0
  have q1:c1=[_]:=h1
  obtain⟨c2,r2,e2,h2,n2⟩:=n1
  have q2:c2=[_]:=h2
  have q3:r2=[_]:=n2
  exact by rw [e0,e1,e2,q0,q1,q2,q3];rfl
theorem aHO{S:cT}{w:World}(d:eM):aL.rd S w [.int .i64 (d.Kind),.int .i64 (d.Cell),.int .i64 (d.eR),.int .i64 (d.eS)] d:=⟨[.int .i64 (d.Kind)],[.int .i64 (d.Cell),.int .i64 (d.eR),.int .i64 (d.eS)],rfl,rfl,⟨[.int .i64 (d.Cell)],[.int .i64 (d.eR),.int .i64 (d.eS)],rfl,rfl,⟨[.int .i64 (d.eR)],[.int .i64 (d.eS)],rfl,rfl,rfl⟩⟩⟩
instance:Flat eM:=⟨fun h=>Flat.own_of (α:=Int×Int×Int×Int) h,fun h=>Flat.no (α:=Int×Int×Int×Int) h⟩
theorem aVT(d:eM):OP [.int .i64 (d.Kind),.int .i64 (d.Cell),.int .i64 (d.eR),.int .i64 (d.eS)] d []:=(show OP (α:=Int×Int×Int×Int) _ (d.Kind,d.Cell,d.eR,d.eS) _ from (jB (c1:=[.int .i64 (d.Kind)]) (c2:=[.int .i64 (d.Cell),.int .i64 (d.eR),.int .i64 (d.eS)]) (A:=[]) (B:=[]) (fS rfl) (jB (c1:=[.int .i64 (d.Cell)]) (c2:=[.int .i64 (d.eR),.int .i64 (d.eS)]) (A:=[]) (B:=[]) (fS rfl) (jB (c1:=[.int .i64 (d.eR)]) (c2:=[.int .i64 (d.eS)]) (A:=[]) (B:=[]) (fS rfl) (fS rfl) rfl) rfl) rfl))
structure Sub where
  Kind:Int
  A:Int
  Pc:Int
  E:Int
  Row:Int
  B:Int
  H:Int
  Out:Int
  Code:Int
  cQ:Bool
  deriving DecidableEq,Inhabited
instance:aL Sub:=aL.via (fun d=>(d.Kind,d.A,d.Pc,d.E,d.Row,d.B,d.H,d.Out,d.Code,d.cQ))
instance:Fits Sub:=Fits.via (fun d=>(d.Kind,d.A,d.Pc,d.E,d.Row,d.B,d.H,d.Out,d.Code,d.cQ))
theorem aVU{S:cT}{w:World}{cs:List Value}{d:Sub}(h:aL.rd S w cs d):cs=[.int .i64 (d.Kind),.int .i64 (d.A),.int .i64 (d.Pc),.int .i64 (d.E),.int .i64 (d.Row),.int .i64 (d.B),.int .i64 (d.H),.int .i64 (d.Out),.int .i64 (d.Code),.bool (d.cQ)]:=by
  obtain⟨c0,r0,e0,h0,n0⟩:=h
  have q0:c0=[_]:=h0
  obtain⟨c1,r1,e1,h1,n1⟩:=n0
  have q1:c1=[_]:=h1
  obtain⟨c2,r2,e2,h2,n2⟩:=n1
  have q2:c2=[_]:=h2
  obtain⟨c3,r3,e3,h3,n3⟩:=n2
  have q3:c3=[_]:=h3
  obtain⟨c4,r4,e4,h4,n4⟩:=n3
  have q4:c4=[_]:=h4
  obtain⟨c5,r5,e5,h5,n5⟩:=n4
  have q5:c5=[_]:=h5
  obtain⟨c6,r6,e6,h6,n6⟩:=n5
  have q6:c6=[_]:=h6
  obtain⟨c7,r7,e7,h7,n7⟩:=n6
  have q7:c7=[_]:=h7
  obtain⟨c8,r8,e8,h8,n8⟩:=n7
  have q8:c8=[_]:=h8
  have q9:r8=[_]:=n8
  exact by rw [e0,e1,e2,e3,e4,e5,e6,e7,e8,q0,q1,q2,q3,q4,q5,q6,q7,q8,q9];rfl
theorem aQX{S:cT}{w:World}(d:Sub):aL.rd S w [.int .i64 (d.Kind),.int .i64 (d.A),.int .i64 (d.Pc),.int .i64 (d.E),.int .i64 (d.Row),.int .i64 (d.B),.int .i64 (d.H),.int .i64 (d.Out),.int .i64 (d.Code),.bool (d.cQ)] d:=⟨[.int .i64 (d.Kind)],[.int .i64 (d.A),.int .i64 (d.Pc),.int .i64 (d.E),.int .i64 (d.Row),.int .i64 (d.B),.int .i64 (d.H),.int .i64 (d.Out),.int .i64 (d.Code),.bool (d.cQ)],rfl,rfl,⟨[.int .i64 (d.A)],[.int .i64 (d.Pc),.int .i64 (d.E),.int .i64 (d.Row),.int .i64 (d.B),.int .i64 (d.H),.int .i64 (d.Out),.int .i64 (d.Code),.bool (d.cQ)],rfl,rfl,⟨[.int .i64 (d.Pc)],[.int .i64 (d.E),.int .i64 (d.Row),.int .i64 (d.B),.int .i64 (d.H),.int .i64 (d.Out),.int .i64 (d.Code),.bool (d.cQ)],rfl,rfl,⟨[.int .i64 (d.E)],[.int .i64 (d.Row),.int .i64 (d.B),.int .i64 (d.H),.int .i64 (d.Out),.int .i64 (d.Code),.bool (d.cQ)],rfl,rfl,⟨[.int .i64 (d.Row)],[.int .i64 (d.B),.int .i64 (d.H),.int .i64 (d.Out),.int .i64 (d.Code),.bool (d.cQ)],rfl,rfl,⟨[.int .i64 (d.B)],[.int .i64 (d.H),.int .i64 (d.Out),.int .i64 (d.Code),.bool (d.cQ)],rfl,rfl,⟨[.int .i64 (d.H)],[.int .i64 (d.Out),.int .i64 (d.Code),.bool (d.cQ)],rfl,rfl,⟨[.int .i64 (d.Out)],[.int .i64 (d.Code),.bool (d.cQ)],rfl,rfl,⟨[.int .i64 (d.Code)],[.bool (d.cQ)],rfl,rfl,rfl⟩⟩⟩⟩⟩⟩⟩⟩⟩
instance:Flat Sub:=⟨fun h=>Flat.own_of (α:=Int×Int×Int×Int×Int×Int×Int×Int×Int×Bool) h,fun h=>Flat.no (α:=Int×Int×Int×Int×Int×Int×Int×Int×Int×Bool) h⟩
structure bX where
  gG:Bool
  Op:eM
  aQ:Int
  Pc:Int
  Sub:Sub
  H:Int
  Old:Int
  eS:Int
  Code:Int
  deriving DecidableEq,Inhabited
instance:aL bX:=aL.via (fun d=>(d.gG,d.Op,d.aQ,d.Pc,d.Sub,d.H,d.Old,d.eS,d.Code))
instance:Fits bX:=Fits.via (fun d=>(d.gG,d.Op,d.aQ,d.Pc,d.Sub,d.H,d.Old,d.eS,d.Code))
theorem aVV{S:cT}{w:World}{cs:List Value}{d:bX}(h:aL.rd S w cs d):cs=[.bool (d.gG),.int .i64 (d.Op.Kind),.int .i64 (d.Op.Cell),.int .i64 (d.Op.eR),.int .i64 (d.Op.eS),.int .i64 (d.aQ),.int .i64 (d.Pc),.int .i64 (d.Sub.Kind),.int .i64 (d.Sub.A),.int .i64 (d.Sub.Pc),.int .i64 (d.Sub.E),.int .i64 (d.Sub.Row),.int .i64 (d.Sub.B),.int .i64 (d.Sub.H),.int .i64 (d.Sub.Out),.int .i64 (d.Sub.Code),.bool (d.Sub.cQ),.int .i64 (d.H),.int .i64 (d.Old),.int .i64 (d.eS),.int .i64 (d.Code)]:=by
  obtain⟨c0,r0,e0,h0,n0⟩:=h
  have q0:c0=[_]:=h0
  obtain⟨c1,r1,e1,h1,n1⟩:=n0
  have q1:=aQW h1
  obtain⟨c2,r2,e2,h2,n2⟩:=n1
  have q2:c2=[_]:=h2
  obtain⟨c3,r3,e3,h3,n3⟩:=n2
  have q3:c3=[_]:=h3
  obtain⟨c4,r4,e4,h4,n4⟩:=n3
  have q4:=aVU h4
  obtain⟨c5,r5,e5,h5,n5⟩:=n4
  have q5:c5=[_]:=h5
  obtain⟨c6,r6,e6,h6,n6⟩:=n5
  have q6:c6=[_]:=h6
  obtain⟨c7,r7,e7,h7,n7⟩:=n6
  have q7:c7=[_]:=h7
  have q8:r7=[_]:=n7
  exact by rw [e0,e1,e2,e3,e4,e5,e6,e7,q0,q1,q2,q3,q4,q5,q6,q7,q8];rfl
theorem NH{S:cT}{w:World}(d:bX):aL.rd S w [.bool (d.gG),.int .i64 (d.Op.Kind),.int .i64 (d.Op.Cell),.int .i64 (d.Op.eR),.int .i64 (d.Op.eS),.int .i64 (d.aQ),.int .i64 (d.Pc),.int .i64 (d.Sub.Kind),.int .i64 (d.Sub.A),.int .i64 (d.Sub.Pc),.int .i64 (d.Sub.E),.int .i64 (d.Sub.Row),.int .i64 (d.Sub.B),.int .i64 (d.Sub.H),.int .i64 (d.Sub.Out),.int .i64 (d.Sub.Code),.bool (d.Sub.cQ),.int .i64 (d.H),.int .i64 (d.Old),.int .i64 (d.eS),.int .i64 (d.Code)] d:=⟨[.bool (d.gG)],[.int .i64 (d.Op.Kind),.int .i64 (d.Op.Cell),.int .i64 (d.Op.eR),.int .i64 (d.Op.eS),.int .i64 (d.aQ),.int .i64 (d.Pc),.int .i64 (d.Sub.Kind),.int .i64 (d.Sub.A),.int .i64 (d.Sub.Pc),.int .i64 (d.Sub.E),.int .i64 (d.Sub.Row),.int .i64 (d.Sub.B),.int .i64 (d.Sub.H),.int .i64 (d.Sub.Out),.int .i64 (d.Sub.Code),.bool (d.Sub.cQ),.int .i64 (d.H),.int .i64 (d.Old),.int .i64 (d.eS),.int .i64 (d.Code)],rfl,rfl,⟨[.int .i64 (d.Op.Kind),.int .i64 (d.Op.Cell),.int .i64 (d.Op.eR),.int .i64 (d.Op.eS)],[.int .i64 (d.aQ),.int .i64 (d.Pc),.int .i64 (d.Sub.Kind),.int .i64 (d.Sub.A),.int .i64 (d.Sub.Pc),.int .i64 (d.Sub.E),.int .i64 (d.Sub.Row),.int .i64 (d.Sub.B),.int .i64 (d.Sub.H),.int .i64 (d.Sub.Out),.int .i64 (d.Sub.Code),.bool (d.Sub.cQ),.int .i64 (d.H),.int .i64 (d.Old),.int .i64 (d.eS),.int .i64 (d.Code)],rfl,(aHO _),⟨[.int .i64 (d.aQ)],[.int .i64 (d.Pc),.int .i64 (d.Sub.Kind),.int .i64 (d.Sub.A),.int .i64 (d.Sub.Pc),.int .i64 (d.Sub.E),.int .i64 (d.Sub.Row),.int .i64 (d.Sub.B),.int .i64 (d.Sub.H),.int .i64 (d.Sub.Out),.int .i64 (d.Sub.Code),.bool (d.Sub.cQ),.int .i64 (d.H),.int .i64 (d.Old),.int .i64 (d.eS),.int .i64 (d.Code)],rfl,rfl,⟨[.int .i64 (d.Pc)],[.int .i64 (d.Sub.Kind),.int .i64 (d.Sub.A),.int .i64 (d.Sub.Pc),.int .i64 (d.Sub.E),.int .i64 (d.Sub.Row),.int .i64 (d.Sub.B),.int .i64 (d.Sub.H),.int .i64 (d.Sub.Out),.int .i64 (d.Sub.Code),.bool (d.Sub.cQ),.int .i64 (d.H),.int .i64 (d.Old),.int .i64 (d.eS),.int .i64 (d.Code)],rfl,rfl,⟨[.int .i64 (d.Sub.Kind),.int .i64 (d.Sub.A),.int .i64 (d.Sub.Pc),.int .i64 (d.Sub.E),.int .i64 (d.Sub.Row),.int .i64 (d.Sub.B),.int .i64 (d.Sub.H),.int .i64 (d.Sub.Out),.int .i64 (d.Sub.Code),.bool (d.Sub.cQ)],[.int .i64 (d.H),.int .i64 (d.Old),.int .i64 (d.eS),.int .i64 (d.Code)],rfl,(aQX _),⟨[.int .i64 (d.H)],[.int .i64 (d.Old),.int .i64 (d.eS),.int .i64 (d.Code)],rfl,rfl,⟨[.int .i64 (d.Old)],[.int .i64 (d.eS),.int .i64 (d.Code)],rfl,rfl,⟨[.int .i64 (d.eS)],[.int .i64 (d.Code)],rfl,rfl,rfl⟩⟩⟩⟩⟩⟩⟩⟩
instance:Flat bX:=⟨fun h=>Flat.own_of (α:=Bool×eM×Int×Int×Sub×Int×Int×Int×Int) h,fun h=>Flat.no (α:=Bool×eM×Int×Int×Sub×Int×Int×Int×Int) h⟩
theorem aVW(d:bX):OP [.bool (d.gG),.int .i64 (d.Op.Kind),.int .i64 (d.Op.Cell),.int .i64 (d.Op.eR),.int .i64 (d.Op.eS),.int .i64 (d.aQ),.int .i64 (d.Pc),.int .i64 (d.Sub.Kind),.int .i64 (d.Sub.A),.int .i64 (d.Sub.Pc),.int .i64 (d.Sub.E),.int .i64 (d.Sub.Row),.int .i64 (d.Sub.B),.int .i64 (d.Sub.H),.int .i64 (d.Sub.Out),.int .i64 (d.Sub.Code),.bool (d.Sub.cQ),.int .i64 (d.H),.int .i64 (d.Old),.int .i64 (d.eS),.int .i64 (d.Code)] d []:=(show OP (α:=Bool×eM×Int×Int×Sub×Int×Int×Int×Int) _ (d.gG,d.Op,d.aQ,d.Pc,d.Sub,d.H,d.Old,d.eS,d.Code) _ from (jB (c1:=[.bool (d.gG)]) (c2:=[.int .i64 (d.Op.Kind),.int .i64 (d.Op.Cell),.int .i64 (d.Op.eR),.int .i64 (d.Op.eS),.int .i64 (d.aQ),.int .i64 (d.Pc),.int .i64 (d.Sub.Kind),.int .i64 (d.Sub.A),.int .i64 (d.Sub.Pc),.int .i64 (d.Sub.E),.int .i64 (d.Sub.Row),.int .i64 (d.Sub.B),.int .i64 (d.Sub.H),.int .i64 (d.Sub.Out),.int .i64 (d.Sub.Code),.bool (d.Sub.cQ),.int .i64 (d.H),.int .i64 (d.Old),.int .i64 (d.eS),.int .i64 (d.Code)]) (A:=[]) (B:=[]) (fS rfl) (jB (c1:=[.int .i64 (d.Op.Kind),.int .i64 (d.Op.Cell),.int .i64 (d.Op.eR),.int .i64 (d.Op.eS)]) (c2:=[.int .i64 (d.aQ),.int .i64 (d.Pc),.int .i64 (d.Sub.Kind),.int .i64 (d.Sub.A),.int .i64 (d.Sub.Pc),.int .i64 (d.Sub.E),.int .i64 (d.Sub.Row),.int .i64 (d.Sub.B),.int .i64 (d.Sub.H),.int .i64 (d.Sub.Out),.int .i64 (d.Sub.Code),.bool (d.Sub.cQ),.int .i64 (d.H),.int .i64 (d.Old),.int .i64 (d.eS),.int .i64 (d.Code)]) (A:=[]) (B:=[]) (fS (aHO _)) (jB (c1:=[.int .i64 (d.aQ)]) (c2:=[.int .i64 (d.Pc),.int .i64 (d.Sub.Kind),.int .i64 (d.Sub.A),.int .i64 (d.Sub.Pc),.int .i64 (d.Sub.E),.int .i64 (d.Sub.Row),.int .i64 (d.Sub.B),.int .i64 (d.Sub.H),.int .i64 (d.Sub.Out),.int .i64 (d.Sub.Code),.bool (d.Sub.cQ),.int .i64 (d.H),.int .i64 (d.Old),.int .i64 (d.eS),.int .i64 (d.Code)]) (A:=[]) (B:=[]) (fS rfl) (jB (c1:=[.int .i64 (d.Pc)]) (c2:=[.int .i64 (d.Sub.Kind),.int .i64 (d.Sub.A),.int .i64 (d.Sub.Pc),.int .i64 (d.Sub.E),.int .i64 (d.Sub.Row),.int .i64 (d.Sub.B),.int .i64 (d.Sub.H),.int .i64 (d.Sub.Out),.int .i64 (d.Sub.Code),.bool (d.Sub.cQ),.int .i64 (d.H),.int .i64 (d.Old),.int .i64 (d.eS),.int .i64 (d.Code)]) (A:=[]) (B:=[]) (fS rfl) (jB (c1:=[.int .i64 (d.Sub.Kind),.int .i64 (d.Sub.A),.int .i64 (d.Sub.Pc),.int .i64 (d.Sub.E),.int .i64 (d.Sub.Row),.int .i64 (d.Sub.B),.int .i64 (d.Sub.H),.int .i64 (d.Sub.Out),.int .i64 (d.Sub.Code),.bool (d.Sub.cQ)]) (c2:=[.int .i64 (d.H),.int .i64 (d.Old),.int .i64 (d.eS),.int .i64 (d.Code)]) (A:=[]) (B:=[]) (fS (aQX _)) (jB (c1:=[.int .i64 (d.H)]) (c2:=[.int .i64 (d.Old),.int .i64 (d.eS),.int .i64 (d.Code)]) (A:=[]) (B:=[]) (fS rfl) (jB (c1:=[.int .i64 (d.Old)]) (c2:=[.int .i64 (d.eS),.int .i64 (d.Code)]) (A:=[]) (B:=[]) (fS rfl) (jB (c1:=[.int .i64 (d.eS)]) (c2:=[.int .i64 (d.Code)]) (A:=[]) (B:=[]) (fS rfl) (fS rfl) rfl) rfl) rfl) rfl) rfl) rfl) rfl) rfl))
structure Queue where
  gH:List eM
  deriving DecidableEq,Inhabited
instance:aL Queue:=aL.via (fun d=>(d.gH))
instance:Fits Queue:=Fits.via (fun d=>(d.gH))
theorem aQY{S:cT}{w:World}{cs:List Value}{d:Queue}(h:aL.rd S w cs d):∃v0:Value,cs=[v0]∧aL.rd S w [v0] d.gH:=by
  obtain⟨u0,q0⟩:=JU h
  rw [q0] at h
  exact⟨u0,q0,h⟩
theorem aQZ(d:Queue){v0:Value}:OP [v0] d [fM [v0] d.gH]:=(show OP (α:=(List eM)) _ (d.gH) _ from aKF)
structure Ev where
  Kind:Int
  Who:Int
  aQ:Int
  Cell:Int
  Handle:Int
  eS:Int
  Code:Int
  deriving DecidableEq,Inhabited
instance:aL Ev:=aL.via (fun d=>(d.Kind,d.Who,d.aQ,d.Cell,d.Handle,d.eS,d.Code))
instance:Fits Ev:=Fits.via (fun d=>(d.Kind,d.Who,d.aQ,d.Cell,d.Handle,d.eS,d.Code))
theorem aXO{S:cT}{w:World}{cs:List Value}{d:Ev}(h:aL.rd S w cs d):cs=[.int .i64 (d.Kind),.int .i64 (d.Who),.int .i64 (d.aQ),.int .i64 (d.Cell),.int .i64 (d.Handle),.int .i64 (d.eS),.int .i64 (d.Code)]:=by
  obtain⟨c0,r0,e0,h0,n0⟩:=h
  have q0:c0=[_]:=h0
  obtain⟨c1,r1,e1,h1,n1⟩:=n0
  have q1:c1=[_]:=h1
  obtain⟨c2,r2,e2,h2,n2⟩:=n1
  have q2:c2=[_]:=h2
  obtain⟨c3,r3,e3,h3,n3⟩:=n2
  have q3:c3=[_]:=h3
  obtain⟨c4,r4,e4,h4,n4⟩:=n3
  have q4:c4=[_]:=h4
  obtain⟨c5,r5,e5,h5,n5⟩:=n4
  have q5:c5=[_]:=h5
  have q6:r5=[_]:=n5
  exact by rw [e0,e1,e2,e3,e4,e5,q0,q1,q2,q3,q4,q5,q6];rfl
instance:Flat Ev:=⟨fun h=>Flat.own_of (α:=Int×Int×Int×Int×Int×Int×Int) h,fun h=>Flat.no (α:=Int×Int×Int×Int×Int×Int×Int) h⟩
theorem aXP(d:Ev):OP [.int .i64 (d.Kind),.int .i64 (d.Who),.int .i64 (d.aQ),.int .i64 (d.Cell),.int .i64 (d.Handle),.int .i64 (d.eS),.int .i64 (d.Code)] d []:=(show OP (α:=Int×Int×Int×Int×Int×Int×Int) _ (d.Kind,d.Who,d.aQ,d.Cell,d.Handle,d.eS,d.Code) _ from (jB (c1:=[.int .i64 (d.Kind)]) (c2:=[.int .i64 (d.Who),.int .i64 (d.aQ),.int .i64 (d.Cell),.int .i64 (d.Handle),.int .i64 (d.eS),.int .i64 (d.Code)]) (A:=[]) (B:=[]) (fS rfl) (jB (c1:=[.int .i64 (d.Who)]) (c2:=[.int .i64 (d.aQ),.int .i64 (d.Cell),.int .i64 (d.Handle),.int .i64 (d.eS),.int .i64 (d.Code)]) (A:=[]) (B:=[]) (fS rfl) (jB (c1:=[.int .i64 (d.aQ)]) (c2:=[.int .i64 (d.Cell),.int .i64 (d.Handle),.int .i64 (d.eS),.int .i64 (d.Code)]) (A:=[]) (B:=[]) (fS rfl) (jB (c1:=[.int .i64 (d.Cell)]) (c2:=[.int .i64 (d.Handle),.int .i64 (d.eS),.int .i64 (d.Code)]) (A:=[]) (B:=[]) (fS rfl) (jB (c1:=[.int .i64 (d.Handle)]) (c2:=[.int .i64 (d.eS),.int .i64 (d.Code)]) (A:=[]) (B:=[]) (fS rfl) (jB (c1:=[.int .i64 (d.eS)]) (c2:=[.int .i64 (d.Code)]) (A:=[]) (B:=[]) (fS rfl) (fS rfl) rfl) rfl) rfl) rfl) rfl) rfl))
structure aC where
  aD:aD
  Cells:List Int
  aT:List bX
  cZ:List Queue
  Log:List Ev
  aQ:Int
  deriving DecidableEq,Inhabited
instance:aL aC:=aL.via (fun d=>(d.aD,d.Cells,d.aT,d.cZ,d.Log,d.aQ))
instance:Fits aC:=Fits.via (fun d=>(d.aD,d.Cells,d.aT,d.cZ,d.Log,d.aQ))
structure Span where
  aQ1:Int
  To:Int
  deriving DecidableEq,Inhabited
instance:aL Span:=aL.via (fun d=>(d.aQ1,d.To))
instance:Fits Span:=Fits.via (fun d=>(d.aQ1,d.To))
instance:Flat Span:=⟨fun h=>Flat.own_of (α:=Int×Int) h,fun h=>Flat.no (α:=Int×Int) h⟩
structure aJ where
  b:List UInt8
  i:Int
  h:Int
  deriving DecidableEq,Inhabited
instance:aL aJ:=aL.via (fun d=>(d.b,d.i,d.h))
instance:Fits aJ:=Fits.via (fun d=>(d.b,d.i,d.h))
structure aQ0 where
  cZ:List Queue
  aUB:List Int
  deriving DecidableEq,Inhabited
instance:aL aQ0:=aL.via (fun d=>(d.cZ,d.aUB))
instance:Fits aQ0:=Fits.via (fun d=>(d.cZ,d.aUB))
end Go.Gv
end
noncomputable section
namespace Go.Gv
noncomputable section
def GU(x1:Bool):Option Bool:=
  some x1
def bJ(x low high:Int):Option Bool:=
  (if decide (low≤x) then GU (decide (x≤high)) else GU false)
def OJ:Option Bool:=
  some true
def kC(x3:Int)(x5:Bool):Option (Step Int (Out Unit Bool)):=
  (if x5 then some (.stop (Out.ret false)) else some (.next (bC (x3+1))))
def qS(c:aK):Int→Option (Step Int (Out Unit Bool))
  | x3=>(if decide (x3 < 3) then (idx c.bG x3).bind fun x4=>(if !x4.On then (if !(decide (x4=(⟨false,0,false,0⟩:iI))) then kC x3 true else (bJ x4.aM 0 c.aM).bind fun x6=>(if !x6 then kC x3 true else (bJ x4.Seen 0 2).bind fun x7=>kC x3 (!x7))) else (bJ x4.aM 0 c.aM).bind fun x8=>(if !x8 then kC x3 true else (bJ x4.Seen 0 2).bind fun x9=>kC x3 (!x9))) else some (.stop (Out.brk ())))
def FQ:(Out Unit Bool)→Option Bool
  | .brk ()=>OJ
  | .ret r=>some r
def mJ(c:aK)(x1:Bool):Option Bool:=
  (if x1 then some false else (loop (qS c) 0).bind (FQ))
def mY(c:aK):Option Bool:=
  (bJ c.aM 0 100000).bind fun x10=>(if !x10 then mJ c true else mJ c ((c.bG.length:Int) != 3))
def OK(b:List Int):Option Bool:=
  some (decide ((b.length:Int)≤1000))
def mK(b:List Int):Int→Option (Step Int (Out Unit Bool))
  | x2=>(if decide (x2 < (b.length:Int)) then (idx b x2).bind fun x3=>(bJ x3 0 255).bind fun x4=>(if !x4 then some (.stop (Out.ret false)) else some (.next (bC (x2+1)))) else some (.stop (Out.brk ())))
def FR(b:List Int):(Out Unit Bool)→Option Bool
  | .brk ()=>OK b
  | .ret r=>some r
def GV(b:List Int):Option Bool:=
  (loop (mK b) 0).bind (FR b)
def YZ:Option Bool:=
  some true
def mL(h:aE):Int→Option (Step Int (Out Unit Bool))
  | x3=>(if decide (x3 < 6) then (idx h.Class x3).bind fun x4=>(bJ x4 (-1) 2).bind fun x5=>(if !x5 then some (.stop (Out.ret false)) else some (.next (bC (x3+1)))) else some (.stop (Out.brk ())))
def Y0:(Out Unit Bool)→Option Bool
  | .brk ()=>YZ
  | .ret r=>some r
def qT(h:aE)(x1:Bool):Option Bool:=
  (if x1 then some false else (loop (mL h) 0).bind (Y0))
def AA(h:aE):Option Bool:=
  (if (h.Bytes.length:Int) != 384 then qT h true else (if (h.Class.length:Int) != 6 then qT h true else (GV h.Bytes).bind fun x6=>qT h (!x6)))
def aB7(x5:Int):Option Int:=
  some x5
def sW(b:List Int)(at_ width:Int):(Int×Int)→Option (Step (Int×Int) Int)
  | (x3,x4)=>(if decide (x4 < width) then (idx b (bC (at_+x4))).bind fun x6=>some (.next (bC ((bC (x3 * 256))+x6),bC (x4+1))) else some (.stop (x3)))
def aB8:Int→Option Int
  | x5=>aB7 x5
def sY(b:List Int)(at_ width:Int):Option Int:=
  (loop (sW b at_ width) (0,0)).bind (aB8)
def mZ(c:Int):Option Int:=
  (if c == 0 then some 8 else (if c == 1 then some 16 else (if c == 2 then some 40 else some 0)))
def wH(c:Int):Option Int:=
  (bJ c 0 2).bind fun x1=>(if !x1 then some 0 else (mZ c).bind fun x2=>some (bC (4+x2)))
def kX(c:Int):Option Int:=
  (bJ c 0 2).bind fun x1=>(if !x1 then some 0 else (wH c).bind fun x2=>need (x2≠0) (some (bC (Int.tdiv 56 x2))))
def zN(slot:Int):Option Int:=
  (bJ slot 0 23).bind fun x1=>(if !x1 then some (-1) else some (bC (Int.tdiv slot 4)))
def uT(slot:Int):Option Int:=
  (bJ slot 0 23).bind fun x1=>(if !x1 then some (-1) else some (Int.tmod slot 4))
def DT(slot c:Int)(x1:Bool):Option Int:=
  (if x1 then some (-1) else (zN slot).bind fun x2=>(uT slot).bind fun x3=>(wH c).bind fun x4=>some (bC ((bC ((bC (x2 * 64))+8))+(bC (x3 * x4)))))
def pR(slot c:Int):Option Int:=
  (zN slot).bind fun x5=>(if decide (x5 < 0) then DT slot c true else (uT slot).bind fun x6=>(kX c).bind fun x7=>(bJ x6 0 (bC (x7 - 1))).bind fun x8=>DT slot c (!x8))
def sZ(page index:Int)(x1:Bool):Option Int:=
  (if x1 then some (-1) else some (bC ((bC (page * 4))+index)))
def pO(page index:Int):Option Int:=
  (bJ page 0 5).bind fun x2=>(if !x2 then sZ page index true else (bJ index 0 3).bind fun x3=>sZ page index (!x3))
def aB9:Option Bool:=
  some true
def oG(h:aE)(p:Int):Int→Option (Step Int (Out Unit Bool))
  | x3=>(if decide (x3 < (bC ((bC (p * 64))+64))) then (idx h.Bytes x3).bind fun x4=>(if x4 != 0 then some (.stop (Out.ret false)) else some (.next (bC (x3+1)))) else some (.stop (Out.brk ())))
def aCA:(Out Unit Bool)→Option Bool
  | .brk ()=>aB9
  | .ret r=>some r
def aCB:Option Bool:=
  some true
def oH(h:aE)(p x1:Int):Int→Option (Step Int (Out Unit Bool))
  | x9=>(kX x1).bind fun x10=>(if decide (x9 < x10) then (pO p x9).bind fun x11=>(pR x11 x1).bind fun x12=>(sY h.Bytes x12 4).bind fun x13=>(bJ x13 1 7).bind fun x14=>(if !x14 then some (.stop (Out.ret false)) else some (.next (bC (x9+1)))) else some (.stop (Out.brk ())))
def aCC:(Out Unit Bool)→Option Bool
  | .brk ()=>aCB
  | .ret r=>some r
def P4(h:aE)(p x1:Int):Option Bool:=
  (loop (oH h p x1) 0).bind (aCC)
def oJ(h:aE)(p:Int):Int→Option (Step Int (Out Unit Bool))
  | x7=>(if decide (x7 < (bC ((bC (p * 64))+8))) then (idx h.Bytes x7).bind fun x15=>(if x15 != 0 then some (.stop (Out.ret false)) else some (.next (bC (x7+1)))) else some (.stop (Out.brk ())))
def P5(h:aE)(p x1:Int):(Out Unit Bool)→Option Bool
  | .brk ()=>P4 h p x1
  | .ret r=>some r
def jM(h:aE)(p x1:Int)(x5:Bool):Option Bool:=
  (if x5 then some false else (loop (oJ h p) (bC ((bC (p * 64))+3))).bind (P5 h p x1))
def JW(h:aE)(p:Int):Option Bool:=
  (idx h.Class p).bind fun x1=>(if decide (x1 < 0) then (loop (oG h p) (bC (p * 64))).bind (aCA) else (idx h.Bytes (bC (p * 64))).bind fun x16=>(if x16 != 171 then jM h p x1 true else (idx h.Bytes (bC ((bC (p * 64))+1))).bind fun x17=>(if x17 != x1 then jM h p x1 true else (idx h.Bytes (bC ((bC (p * 64))+2))).bind fun x18=>(kX x1).bind fun x19=>jM h p x1 (x18 != x19))))
def aCD:Option Bool:=
  some true
def tA(h:aE):Int→Option (Step Int (Out Unit Bool))
  | x3=>(if decide (x3 < 6) then (JW h x3).bind fun x4=>(if !x4 then some (.stop (Out.ret false)) else some (.next (bC (x3+1)))) else some (.stop (Out.brk ())))
def aCE:(Out Unit Bool)→Option Bool
  | .brk ()=>aCD
  | .ret r=>some r
def zO(h:aE):Option Bool:=
  (AA h).bind fun x1=>(if !x1 then some false else (loop (tA h) 0).bind (aCE))
def aEN:Option Bool:=
  some false
def rV(l:List Int)(x:Int):Int→Option (Step Int (Out Unit Bool))
  | x2=>(if decide (x2 < (l.length:Int)) then (idx l x2).bind fun x3=>(if x3 == x then some (.stop (Out.ret true)) else some (.next (bC (x2+1)))) else some (.stop (Out.brk ())))
def aEO:(Out Unit Bool)→Option Bool
  | .brk ()=>aEN
  | .ret r=>some r
def y6(l:List Int)(x:Int):Option Bool:=
  (loop (rV l x) 0).bind (aEO)
def aEP(x10:List Int):Option (List Int):=
  some x10
def wI(l:aB):((List Int)×Int)→Option (Step ((List Int)×Int) (List Int))
  | (x8,x9)=>(if decide (x9 < (l.bQ.length:Int)) then (idx l.bQ x9).bind fun x11=>need (x8.length+x11.aN.length≤1073741824) (some (.next (x8++x11.aN,bC (x9+1)))) else some (.stop (x8)))
def aEQ:(List Int)→Option (List Int)
  | x10=>aEP x10
def SU(l:aB)(x5:List Int):Option (List Int):=
  (loop (wI l) (x5,0)).bind (aEQ)
def wJ(l:aB):((List Int)×Int)→Option (Step ((List Int)×Int) (List Int))
  | (x3,x4)=>(if decide (x4 < (l.Global.length:Int)) then (idx l.Global x4).bind fun x12=>need (x3.length+x12.aN.length≤1073741824) (some (.next (x3++x12.aN,bC (x4+1)))) else some (.stop (x3)))
def SW(l:aB):(List Int)→Option (List Int)
  | x5=>SU l x5
def C9(l:aB):Option (List Int):=
  (loop (wJ l) (([]:List Int),0)).bind (SW l)
def Y1:Option Bool:=
  some true
def xU(x6:Int)(x7:Bool):Option (Step Int (Out Unit Bool)):=
  (if x7 then some (.stop (Out.ret false)) else some (.next (bC (x6+1))))
def mM(x4:(List Int)):Int→Option (Step Int (Out Unit Bool))
  | x6=>(if decide (x6 < (x4.length:Int)) then (idx x4 x6).bind fun x8=>(bJ x8 0 23).bind fun x9=>(if !x9 then xU x6 true else need (0≤(x6:Int)∧(x6:Int)≤(x4.length:Int)) ((idx x4 x6).bind fun x10=>(y6 ((x4.take x6.toNat).drop 0) x10).bind fun x11=>xU x6 x11)) else some (.stop (Out.brk ())))
def Y2:(Out Unit Bool)→Option Bool
  | .brk ()=>Y1
  | .ret r=>some r
def OL(l:aB):Option Bool:=
  (C9 l).bind fun x4=>(loop (mM x4) 0).bind (Y2)
def mN(l:aB):Int→Option (Step Int (Out Unit Bool))
  | x3=>(if decide (x3 < (l.bQ.length:Int)) then (idx l.bQ x3).bind fun x12=>(if decide (2 < (x12.aN.length:Int)) then some (.stop (Out.ret false)) else some (.next (bC (x3+1)))) else some (.stop (Out.brk ())))
def OM(l:aB):(Out Unit Bool)→Option Bool
  | .brk ()=>OL l
  | .ret r=>some r
def xV(l:aB)(x1:Bool):Option Bool:=
  (if x1 then some false else (loop (mN l) 0).bind (OM l))
def pS(l:aB):Option Bool:=
  (if (l.Global.length:Int) != 3 then xV l true else xV l ((l.bQ.length:Int) != 9))
def qU(h:aE)(x1:Int)(x2:Bool):Option Int:=
  (if x2 then some (-1) else (idx h.Class x1).bind fun x3=>some x3)
def iJ(h:aE)(slot:Int):Option Int:=
  (zN slot).bind fun x1=>(if decide (x1 < 0) then qU h x1 true else (idx h.Class x1).bind fun x4=>(if decide (x4 < 0) then qU h x1 true else (idx h.Class x1).bind fun x5=>(uT slot).bind fun x6=>(kX x5).bind fun x7=>qU h x1 (decide (x7≤x6))))
def tB(h:aE)(slot:Int):Option Int:=
  (iJ h slot).bind fun x1=>(pR slot x1).bind fun x2=>(sY h.Bytes x2 4).bind fun x3=>some x3
def W9:Option Bool:=
  some true
def uU(x2:Int)(x3:Bool):Option (Step Int (Out Unit Bool)):=
  (if x3 then some (.stop (Out.ret false)) else some (.next (bC (x2+1))))
def lL(h:aE)(l:List Int)(c:Int):Int→Option (Step Int (Out Unit Bool))
  | x2=>(if decide (x2 < (l.length:Int)) then (idx l x2).bind fun x4=>(iJ h x4).bind fun x5=>(if x5 != c then uU x2 true else (idx l x2).bind fun x6=>(tB h x6).bind fun x7=>uU x2 (decide (6 < x7))) else some (.stop (Out.brk ())))
def XA:(Out Unit Bool)→Option Bool
  | .brk ()=>W9
  | .ret r=>some r
def wK(h:aE)(l:List Int)(c:Int):Option Bool:=
  (loop (lL h l c) 0).bind (XA)
def rW(w_ c:Int)(x1:Bool):Option Int:=
  (if x1 then some (-1) else some (bC ((bC (w_ * 3))+c)))
def lV(w_ c:Int):Option Int:=
  (bJ w_ 0 2).bind fun x2=>(if !x2 then rW w_ c true else (bJ c 0 2).bind fun x3=>rW w_ c (!x3))
def aER:Option Bool:=
  some true
def SX(x3:Int):Option (Step Int (Out Unit Bool)):=
  some (.next (bC (x3+1)))
def wL(m:Mem)(x3:Int):Int→Option (Step Int (Out Unit Bool))
  | x7=>(if decide (x7 < 3) then (lV x7 x3).bind fun x8=>(idx m.aB.bQ x8).bind fun x9=>(wK m.aE x9.aN x3).bind fun x10=>(if !x10 then some (.stop (Out.ret false)) else some (.next (bC (x7+1)))) else some (.stop (Out.brk ())))
def SY(x3:Int):(Out Unit Bool)→Option (Step Int (Out Unit Bool))
  | .brk ()=>SX x3
  | .ret r=>some (.stop (Out.ret r))
def wM(m:Mem):Int→Option (Step Int (Out Unit Bool))
  | x3=>(if decide (x3 < 3) then (idx m.aB.Global x3).bind fun x4=>(wK m.aE x4.aN x3).bind fun x5=>(if !x5 then some (.stop (Out.ret false)) else (loop (wL m x3) 0).bind (SY x3)) else some (.stop (Out.brk ())))
def aES:(Out Unit Bool)→Option Bool
  | .brk ()=>aER
  | .ret r=>some r
def DU(m:Mem)(x1:Bool):Option Bool:=
  (if x1 then some false else (loop (wM m) 0).bind (aES))
def tC(m:Mem):Option Bool:=
  (zO m.aE).bind fun x11=>(if !x11 then DU m true else (pS m.aB).bind fun x12=>DU m (!x12))
def aCF(x5:List b8):Option (List b8):=
  some x5
def tD(l:List aP):((List b8)×Int)→Option (Step ((List b8)×Int) (List b8))
  | (x3,x4)=>(if decide (x4 < (l.length:Int)) then (idx l x4).bind fun x6=>need (x3.length+x6.Rows.length≤1073741824) (some (.next (x3++x6.Rows,bC (x4+1)))) else some (.stop (x3)))
def aCG:(List b8)→Option (List b8)
  | x5=>aCF x5
def zP(l:List aP):Option (List b8):=
  (loop (tD l) (([]:List b8),0)).bind (aCG)
def uV(x1:Bool):Option Bool:=
  some x1
def gA(h:Int):Option Bool:=
  (bJ h 32 223).bind fun x2=>(if x2 then uV (decide ((Int.tmod h 32) < 24)) else uV false)
def eC(h:Int):Option Int:=
  (gA h).bind fun x1=>(if !x1 then some (-1) else some (Int.tmod h 32))
def Y3:Option Bool:=
  some true
def qV(x5:List Int)(x6 x8:Int)(x9:Bool):Option (Step ((List Int)×Int) (Out Unit Bool)):=
  (if x9 then some (.stop (Out.ret false)) else need (x5.length+([x8]).length≤1073741824) (some (.next (x5++([x8]),bC (x6+1)))))
def qW(x1:(List b8)):((List Int)×Int)→Option (Step ((List Int)×Int) (Out Unit Bool))
  | (x5,x6)=>(if decide (x6 < (x1.length:Int)) then (idx x1 x6).bind fun x7=>(eC x7.Handle).bind fun x8=>(if decide (x8 < 0) then qV x5 x6 x8 true else (bJ x7.aM 0 100000).bind fun x10=>(if !x10 then qV x5 x6 x8 true else (y6 x5 x8).bind fun x11=>qV x5 x6 x8 x11)) else some (.stop (Out.brk ())))
def Y4:(Out Unit Bool)→Option Bool
  | .brk ()=>Y3
  | .ret r=>some r
def xW(x1:(List b8))(x2:Bool):Option Bool:=
  (if x2 then some false else (loop (qW x1) (([]:List Int),0)).bind (Y4))
def uW(l:List aP):Option Bool:=
  (zP l).bind fun x1=>(if (l.length:Int) != 3 then xW x1 true else xW x1 (decide (24 < (x1.length:Int))))
def SZ(z:List Int):Option Bool:=
  some ((z.length:Int) == 3)
def DV(x2:Int)(x3:Bool):Option (Step Int (Out Unit Bool)):=
  (if x3 then some (.stop (Out.ret false)) else some (.next (bC (x2+1))))
def wN(z:List Int):Int→Option (Step Int (Out Unit Bool))
  | x2=>(if decide (x2 < (z.length:Int)) then (idx z x2).bind fun x4=>(if x4 != 0 then (idx z x2).bind fun x5=>(gA x5).bind fun x6=>DV x2 (!x6) else DV x2 false) else some (.stop (Out.brk ())))
def S1(z:List Int):(Out Unit Bool)→Option Bool
  | .brk ()=>SZ z
  | .ret r=>some r
def DA(z:List Int):Option Bool:=
  (loop (wN z) 0).bind (S1 z)
def JX(l:aB)(slot:Int):Option Bool:=
  (C9 l).bind fun x1=>(y6 x1 slot).bind fun x2=>some x2
def GW(m:Mem)(slot:Int):Option Int:=
  (iJ m.aE slot).bind fun x1=>(if decide (x1 < 0) then some 0 else (JX m.aB slot).bind fun x2=>(if x2 then some 1 else (tB m.aE slot).bind fun x3=>(if decide (6 < x3) then some 2 else some 3)))
def AB(h:Int):Option Int:=
  (gA h).bind fun x1=>(if !x1 then some 0 else some (bC (Int.tdiv h 32)))
def qX(x1:Bool):Option Bool:=
  some x1
def pT(m:Mem)(h:Int):Option Bool:=
  (gA h).bind fun x2=>(if x2 then (eC h).bind fun x3=>(GW m x3).bind fun x4=>(if x4 == 3 then (eC h).bind fun x5=>(tB m.aE x5).bind fun x6=>(AB h).bind fun x7=>qX (x6 == x7) else qX false) else qX false)
def aCH:Option Bool:=
  some true
def AD(x4:Int)(x5:Bool):Option (Step Int (Out Unit Bool)):=
  (if x5 then some (.stop (Out.ret false)) else some (.next (bC (x4+1))))
def tE(b:aD)(x2:(List b8)):Int→Option (Step Int (Out Unit Bool))
  | x4=>(if decide (x4 < (x2.length:Int)) then (idx x2 x4).bind fun x6=>(pT b.Mem x6.Handle).bind fun x7=>(if !x7 then AD x4 true else AD x4 (decide (b.aK.aM < x6.aM))) else some (.stop (Out.brk ())))
def aCI:(Out Unit Bool)→Option Bool
  | .brk ()=>aCH
  | .ret r=>some r
def oK(b:aD)(x1:Bool):Option Bool:=
  (if x1 then some false else (zP b.bB).bind fun x2=>(loop (tE b x2) 0).bind (aCI))
def EZ(b:aD):Option Bool:=
  (tC b.Mem).bind fun x8=>(if !x8 then oK b true else (mY b.aK).bind fun x9=>(if !x9 then oK b true else (uW b.bB).bind fun x10=>(if !x10 then oK b true else (DA b.lZ).bind fun x11=>oK b (!x11))))
def jY(x1:Bool):Option Bool:=
  some x1
def tF(kind:Int):Option Bool:=
  (if kind == 1 then jY true else (if kind == 2 then jY true else (if kind == 3 then jY true else jY (kind == 7))))
def GX(x3:Bool):Option Bool:=
  some x3
def GY(x4:Bool):Option Bool:=
  some x4
def AE(o_:eM)(x2:Bool):Option Bool:=
  (if x2 then some false else (if o_.Kind != 1 then (if o_.eR == 0 then GX (o_.eS == 0) else GX false) else (bJ o_.eR 0 100).bind fun x5=>(if x5 then (bJ o_.eS 0 65535).bind fun x6=>GY x6 else GY false)))
def HY(o_:eM):Option Bool:=
  (bJ o_.Kind 1 7).bind fun x1=>(if !x1 then some false else (tF o_.Kind).bind fun x7=>(if !x7 then (if o_.Cell != 0 then AE o_ true else (bJ o_.Cell 0 1).bind fun x8=>AE o_ (!x8)) else (bJ o_.Cell 0 1).bind fun x9=>AE o_ (!x9)))
def ON(todo:List Queue):Option Bool:=
  some ((todo.length:Int) == 3)
def OO(x2:Int):Option (Step Int (Out Unit Bool)):=
  some (.next (bC (x2+1)))
def mO(todo:List Queue)(x2:Int):Int→Option (Step Int (Out Unit Bool))
  | x5=>(idx todo x2).bind fun x6=>(if decide (x5 < (x6.gH.length:Int)) then (idx todo x2).bind fun x7=>(idx x7.gH x5).bind fun x8=>(HY x8).bind fun x9=>(if !x9 then some (.stop (Out.ret false)) else some (.next (bC (x5+1)))) else some (.stop (Out.brk ())))
def OQ(x2:Int):(Out Unit Bool)→Option (Step Int (Out Unit Bool))
  | .brk ()=>OO x2
  | .ret r=>some (.stop (Out.ret r))
def mP(todo:List Queue):Int→Option (Step Int (Out Unit Bool))
  | x2=>(if decide (x2 < (todo.length:Int)) then (idx todo x2).bind fun x3=>(if decide (12 < (x3.gH.length:Int)) then some (.stop (Out.ret false)) else (loop (mO todo x2) 0).bind (OQ x2)) else some (.stop (Out.brk ())))
def OR(todo:List Queue):(Out Unit Bool)→Option Bool
  | .brk ()=>ON todo
  | .ret r=>some r
def AF(todo:List Queue):Option Bool:=
  (loop (mP todo) 0).bind (OR todo)
def xX(x1:Bool):Option Bool:=
  some x1
def gY(h:Int):Option Bool:=
  (if h == 0 then xX true else (gA h).bind fun x2=>xX x2)
def Y5:Option Bool:=
  some true
def eD(x5:Int)(x7:Bool):Option (Step Int (Out Unit Bool)):=
  (if x7 then some (.stop (Out.ret false)) else some (.next (bC (x5+1))))
def mQ(s:aC):Int→Option (Step Int (Out Unit Bool))
  | x5=>(if decide (x5 < 3) then (idx s.aT x5).bind fun x6=>(if !x6.gG then (if !(decide (x6=(⟨false,(⟨0,0,0,0⟩:eM),0,0,(⟨0,0,0,0,0,0,0,0,0,false⟩:Sub),0,0,0,0⟩:bX))) then eD x5 true else (if x6.gG then (HY x6.Op).bind fun x8=>(if !x8 then eD x5 true else (gY x6.H).bind fun x9=>(if !x9 then eD x5 true else (gY x6.Old).bind fun x10=>eD x5 (!x10))) else (gY x6.H).bind fun x11=>(if !x11 then eD x5 true else (gY x6.Old).bind fun x12=>eD x5 (!x12)))) else (if x6.gG then (HY x6.Op).bind fun x13=>(if !x13 then eD x5 true else (gY x6.H).bind fun x14=>(if !x14 then eD x5 true else (gY x6.Old).bind fun x15=>eD x5 (!x15))) else (gY x6.H).bind fun x16=>(if !x16 then eD x5 true else (gY x6.Old).bind fun x17=>eD x5 (!x17)))) else some (.stop (Out.brk ())))
def Y6:(Out Unit Bool)→Option Bool
  | .brk ()=>Y5
  | .ret r=>some r
def OS(s:aC):Option Bool:=
  (loop (mQ s) 0).bind (Y6)
def mR(s:aC):Int→Option (Step Int (Out Unit Bool))
  | x3=>(if decide (x3 < 2) then (idx s.Cells x3).bind fun x18=>(gY x18).bind fun x19=>(if !x19 then some (.stop (Out.ret false)) else some (.next (bC (x3+1)))) else some (.stop (Out.brk ())))
def OT(s:aC):(Out Unit Bool)→Option Bool
  | .brk ()=>OS s
  | .ret r=>some r
def kD(s:aC)(x1:Bool):Option Bool:=
  (if x1 then some false else (loop (mR s) 0).bind (OT s))
def m3(s:aC):Option Bool:=
  (EZ s.aD).bind fun x20=>(if !x20 then kD s true else (if (s.Cells.length:Int) != 2 then kD s true else (if (s.aT.length:Int) != 3 then kD s true else (AF s.cZ).bind fun x21=>(if !x21 then kD s true else (bJ s.aQ 0 1000000).bind fun x22=>kD s (!x22)))))
def aHP:Option Bool:=
  some true
def uX(s:aC):Int→Option (Step Int (Out Unit Bool))
  | x4=>(if decide (x4 < (s.cZ.length:Int)) then (idx s.cZ x4).bind fun x5=>(if decide (0 < (x5.gH.length:Int)) then some (.stop (Out.ret false)) else some (.next (bC (x4+1)))) else some (.stop (Out.brk ())))
def aHQ:(Out Unit Bool)→Option Bool
  | .brk ()=>aHP
  | .ret r=>some r
def U5(s:aC):Option Bool:=
  (loop (uX s) 0).bind (aHQ)
def uY(s:aC):Int→Option (Step Int (Out Unit Bool))
  | x2=>(if decide (x2 < (s.aT.length:Int)) then (idx s.aT x2).bind fun x6=>(if x6.gG then some (.stop (Out.ret false)) else some (.next (bC (x2+1)))) else some (.stop (Out.brk ())))
def U6(s:aC):(Out Unit Bool)→Option Bool
  | .brk ()=>U5 s
  | .ret r=>some r
def MJ(s:aC):Option Bool:=
  (loop (uY s) 0).bind (U6 s)
def lG(b:List Int):Option (List Int):=
  need (([]:List Int).length+b.length≤1073741824) (some (([]:List Int)++b))
def zQ(h:aE):Option aE:=
  (lG h.Bytes).bind fun x1=>(lG h.Class).bind fun x2=>some (⟨x1,x2⟩:aE)
def aCJ(x5:List aH):Option (List aH):=
  some x5
def IB(l:List aH):((List aH)×Int)→Option (Step ((List aH)×Int) (List aH))
  | (x3,x4)=>(if decide (x4 < (l.length:Int)) then (idx l x4).bind fun x6=>(lG x6.aN).bind fun x7=>need (x3.length+([(⟨x7⟩:aH)]).length≤1073741824) (some (.next (x3++([(⟨x7⟩:aH)]),bC (x4+1)))) else some (.stop (x3)))
def aCK:(List aH)→Option (List aH)
  | x5=>aCJ x5
def E0(l:List aH):Option (List aH):=
  (loop (IB l) (([]:List aH),0)).bind (aCK)
def tG(l:aB):Option aB:=
  (E0 l.Global).bind fun x1=>(E0 l.bQ).bind fun x2=>some (⟨x1,x2⟩:aB)
def tH(m:Mem):Option Mem:=
  (zQ m.aE).bind fun x1=>(tG m.aB).bind fun x2=>some (⟨x1,x2⟩:Mem)
def m4(c:aK):Option aK:=
  need (([]:List iI).length+c.bG.length≤1073741824) (some (⟨c.aM,([]:List iI)++c.bG⟩:aK))
def Y7(x5:List aP):Option (List aP):=
  some x5
def FT(l:List aP):((List aP)×Int)→Option (Step ((List aP)×Int) (List aP))
  | (x3,x4)=>(if decide (x4 < (l.length:Int)) then (idx l x4).bind fun x6=>need (([]:List b8).length+x6.Rows.length≤1073741824) (need (x3.length+([(⟨([]:List b8)++x6.Rows⟩:aP)]).length≤1073741824) (some (.next (x3++([(⟨([]:List b8)++x6.Rows⟩:aP)]),bC (x4+1))))) else some (.stop (x3)))
def Y8:(List aP)→Option (List aP)
  | x5=>Y7 x5
def uZ(l:List aP):Option (List aP):=
  (loop (FT l) (([]:List aP),0)).bind (Y8)
def AG(b:aD):Option aD:=
  (tH b.Mem).bind fun x1=>(m4 b.aK).bind fun x2=>(uZ b.bB).bind fun x3=>(lG b.lZ).bind fun x4=>some (⟨x1,x2,x3,x4⟩:aD)
def U7(x5:List Queue):Option (List Queue):=
  some x5
def AH(l:List Queue):((List Queue)×Int)→Option (Step ((List Queue)×Int) (List Queue))
  | (x3,x4)=>(if decide (x4 < (l.length:Int)) then (idx l x4).bind fun x6=>need (([]:List eM).length+x6.gH.length≤1073741824) (need (x3.length+([(⟨([]:List eM)++x6.gH⟩:Queue)]).length≤1073741824) (some (.next (x3++([(⟨([]:List eM)++x6.gH⟩:Queue)]),bC (x4+1))))) else some (.stop (x3)))
def U8:(List Queue)→Option (List Queue)
  | x5=>U7 x5
def tI(l:List Queue):Option (List Queue):=
  (loop (AH l) (([]:List Queue),0)).bind (U8)
def FU(x1:aC):Option aC:=
  some x1
def AI(s:aC):Option aC:=
  (AG s.aD).bind fun x2=>(lG s.Cells).bind fun x3=>need (([]:List bX).length+s.aT.length≤1073741824)<|(tI s.cZ).bind fun x4=>need (([]:List Ev).length+s.Log.length≤1073741824)<|FU (⟨x2,x3,([]:List bX)++s.aT,x4,([]:List Ev)++s.Log,s.aQ⟩:aC)
def eH(kind a_:Int):Option Sub:=
  some (⟨kind,a_,0,0,0,0,0,0,0,false⟩:Sub)
def eX(s:aC)(w_:Int)(x2:Queue)(x3:eM)(x4:bX):Option aC:=
  (idx s.aT w_).bind fun x5=>need (s.Log.length+([(⟨1,w_,bC (s.aQ+1),x3.Cell,0,0,0⟩:Ev)]).length≤1073741824) (some (⟨s.aD,s.Cells,s.aT.set w_.toNat x4,s.cZ.set w_.toNat (⟨(x2.gH.take x2.gH.length).drop ((1:Int).toNat)⟩:Queue),s.Log++([(⟨1,w_,bC (s.aQ+1),x3.Cell,0,0,0⟩:Ev)]),bC (s.aQ+1)⟩:aC))
def lM(s:aC)(w_:Int)(x2:Queue)(x3:eM)(x7:Bool):Option aC:=
  (if x7 then (eH 5 0).bind fun x8=>(idx s.aD.aK.bG w_).bind fun x9=>(if x9.On then eX s w_ x2 x3 (⟨true,x3,bC (s.aQ+1),9,x8,0,0,0,1⟩:bX) else eX s w_ x2 x3 (⟨true,x3,bC (s.aQ+1),0,x8,0,0,0,0⟩:bX)) else (if x3.Kind == 4 then (eH 3 0).bind fun x10=>eX s w_ x2 x3 (⟨true,x3,bC (s.aQ+1),0,x10,0,0,0,0⟩:bX) else eX s w_ x2 x3 (⟨true,x3,bC (s.aQ+1),0,(⟨0,0,0,0,0,0,0,0,0,false⟩:Sub),0,0,0,0⟩:bX)))
def vA(s:aC)(w_:Int)(x1:Bool):Option aC:=
  (if x1 then some s else (idx s.cZ w_).bind fun x2=>(idx x2.gH 0).bind fun x3=>need (0≤(1:Int)∧(1:Int)≤(x2.gH.length:Int)) ((if x3.Kind == 1 then (eH 1 x3.eR).bind fun x6=>eX s w_ x2 x3 (⟨true,x3,bC (s.aQ+1),0,x6,0,0,0,0⟩:bX) else (if x3.Kind == 2 then lM s w_ x2 x3 true else lM s w_ x2 x3 (x3.Kind == 5)))))
def DW(s:aC)(w_:Int):Option aC:=
  (idx s.cZ w_).bind fun x11=>(if (x11.gH.length:Int) == 0 then vA s w_ true else vA s w_ (s.aQ == 1000000))
def Y9:Option Int:=
  some (-1)
def iV(size:Int):Int→Option (Step Int (Out Unit Int))
  | x2=>(if decide (x2 < 3) then (mZ x2).bind fun x3=>(bJ size 1 x3).bind fun x4=>(if x4 then some (.stop (Out.ret x2)) else some (.next (bC (x2+1)))) else some (.stop (Out.brk ())))
def ZA:(Out Unit Int)→Option Int
  | .brk ()=>Y9
  | .ret r=>some r
def AJ(size:Int):Option Int:=
  (loop (iV size) 0).bind (ZA)
def ZB(x7:List Int):Option (List Int):=
  some x7
def qY(at_:Int):((List Int)×Int×Int)→Option (Step ((List Int)×Int×Int) (List Int))
  | (x4,x5,x6)=>(if decide (0≤x6) then (idx x4 (bC (at_+x6))).bind fun x8=>some (.next (x4.set ((bC (at_+x6)).toNat) (Int.tmod x5 256),bC (Int.tdiv x5 256),bC (x6 - 1))) else some (.stop (x4)))
def ZC:(List Int)→Option (List Int)
  | x7=>ZB x7
def jE(b:List Int)(at_ width n:Int):Option (List Int):=
  (loop (qY at_) (b,n,bC (width - 1))).bind (ZC)
def ZD(h:aE):Option (aE×(List Int)):=
  some (h,([]:List Int))
def FV(x2:Int):Option (Step Int (Out Unit (aE×(List Int)))):=
  some (.next (bC (x2+1)))
def ZE(h:aE)(c x2:Int)(x14 x15:List Int):Option (Step Int (Out Unit (aE×(List Int)))):=
  some (.stop (Out.ret ((⟨x15,h.Class.set x2.toNat c⟩:aE),x14)))
def FW(x2:Int)(x11:List Int)(x12:Int)(x17:List Int):Option (Step ((List Int)×Int×(List Int)) ((List Int)×(List Int))):=
  (pO x2 x12).bind fun x18=>need (x11.length+([x18]).length≤1073741824) (some (.next (x11++([x18]),bC (x12+1),x17)))
def xY(c x2:Int):((List Int)×Int×(List Int))→Option (Step ((List Int)×Int×(List Int)) ((List Int)×(List Int)))
  | (x11,x12,x13)=>(kX c).bind fun x16=>(if decide (x12 < x16) then (pO x2 x12).bind fun x19=>(pR x19 c).bind fun x20=>(jE x13 x20 4 1).bind fun x21=>FW x2 x11 x12 x21 else some (.stop ((x11,x13))))
def ZF(h:aE)(c x2:Int):((List Int)×(List Int))→Option (Step Int (Out Unit (aE×(List Int))))
  | (x14,x15)=>ZE h c x2 x14 x15
def kE(h:aE)(c:Int):Int→Option (Step Int (Out Unit (aE×(List Int))))
  | x2=>(if decide (x2 < 6) then (idx h.Class x2).bind fun x3=>(if x3 != (-1) then FV x2 else (idx h.Bytes (bC (x2 * 64))).bind fun x4=>(idx (h.Bytes.set ((bC (x2 * 64)).toNat) 171) (bC ((bC (x2 * 64))+1))).bind fun x5=>(kX c).bind fun x6=>(idx ((h.Bytes.set ((bC (x2 * 64)).toNat) 171).set ((bC ((bC (x2 * 64))+1)).toNat) c) (bC ((bC (x2 * 64))+2))).bind fun x7=>(loop (xY c x2) (([]:List Int),0,((h.Bytes.set ((bC (x2 * 64)).toNat) 171).set ((bC ((bC (x2 * 64))+1)).toNat) c).set ((bC ((bC (x2 * 64))+2)).toNat) x6)).bind (ZF h c x2)) else some (.stop (Out.brk ())))
def ZG(h:aE):(Out Unit (aE×(List Int)))→Option (aE×(List Int))
  | .brk ()=>ZD h
  | .ret r=>some r
def pU(h:aE)(c:Int):Option (aE×(List Int)):=
  (loop (kE h c) 0).bind (ZG h)
def FX(m:Mem)(c:Int)(x1:aE×(List Int))(x2:aH)(x3:Int):Option (Mem×Int):=
  some ((⟨x1.1,(⟨m.aB.Global.set c.toNat (⟨x2.aN++((x1.2.take x1.2.length).drop ((1:Int).toNat))⟩:aH),m.aB.bQ⟩:aB)⟩:Mem),x3)
def AK(m:Mem)(c:Int):Option (Mem×Int):=
  (pU m.aE c).bind fun x1=>(if (x1.2.length:Int) == 0 then some ((⟨x1.1,m.aB⟩:Mem),(-1)) else (idx m.aB.Global c).bind fun x2=>need (0≤(1:Int)∧(1:Int)≤(x1.2.length:Int)) (need (x2.aN.length+((x1.2.take x1.2.length).drop ((1:Int).toNat)).length≤1073741824) ((idx x1.2 0).bind fun x4=>FX m c x1 x2 x4)))
def K4(s:aH)(x1:Int):Option (aH×Int):=
  some ((⟨(s.aN.take ((bC ((s.aN.length:Int) - 1)).toNat)).drop 0⟩:aH),x1)
def pW(s:aH):Option (aH×Int):=
  (if (s.aN.length:Int) == 0 then some (s,(-1)) else need (0≤(bC ((s.aN.length:Int) - 1):Int)∧(bC ((s.aN.length:Int) - 1):Int)≤(s.aN.length:Int)) ((idx s.aN (bC ((s.aN.length:Int) - 1))).bind fun x2=>K4 s x2))
def cD(s:Sub)(code:Int):Option Sub:=
  some ({s with Code:=code,cQ:=true}:Sub)
def lN(slot gen:Int)(x1:Bool):Option Int:=
  (if x1 then some 0 else some (bC ((bC (gen * 32))+slot)))
def nG(slot gen:Int):Option Int:=
  (bJ slot 0 23).bind fun x2=>(if !x2 then lN slot gen true else (bJ gen 1 6).bind fun x3=>lN slot gen (!x3))
def wO(m:Mem)(slot:Int):Option Int:=
  (tB m.aE slot).bind fun x1=>(nG slot x1).bind fun x2=>some x2
def NI(b:aD)(s:Sub)(slot pc:Int):Option Sub:=
  (if decide (0≤slot) then (wO b.Mem slot).bind fun x1=>(cD ({s with Out:=x1}:Sub) 0).bind fun x2=>some x2 else some ({s with Pc:=pc}:Sub))
def vB(s:Sub)(x3:Int)(x5:Bool)(x6:aD):Option (aD×Sub):=
  (if x5 then (cD s 3).bind fun x7=>some (x6,x7) else (NI x6 s x3 (bC (s.Pc+1))).bind fun x8=>some (x6,x8))
def lO(s:Sub)(x3:Int)(x4:aD):Option (aD×Sub):=
  (if decide (x3 < 0) then vB s x3 (s.Pc == 3) x4 else vB s x3 false x4)
def vC(b:aD)(s:Sub)(x1:Int)(x12:Bool):Option (aD×Sub):=
  (if x12 then (idx b.Mem.aB.Global x1).bind fun x13=>(pW x13).bind fun x14=>lO s x14.2 ({b with Mem:=(⟨b.Mem.aE,(⟨b.Mem.aB.Global.set x1.toNat x14.1,b.Mem.aB.bQ⟩:aB)⟩:Mem)}:aD) else (if s.Pc == 2 then (AK b.Mem x1).bind fun x15=>lO s x15.2 ({b with Mem:=x15.1}:aD) else (cD s 1).bind fun x16=>some (b,x16)))
def DX(b:aD)(w_:Int)(s:Sub):Option (aD×Sub):=
  (AJ s.A).bind fun x1=>(if decide (x1 < 0) then (cD s 2).bind fun x2=>some (b,x2) else (if s.Pc == 0 then (lV w_ x1).bind fun x9=>(idx b.Mem.aB.bQ x9).bind fun x10=>(pW x10).bind fun x11=>lO s x11.2 ({b with Mem:=(⟨b.Mem.aE,(⟨b.Mem.aB.Global,b.Mem.aB.bQ.set x9.toNat x11.1⟩:aB)⟩:Mem)}:aD) else (if s.Pc == 1 then vC b s x1 true else vC b s x1 (s.Pc == 3))))
def ZH:Option Bool:=
  some false
def qZ(x3:Int)(x4:Bool):Option (Step Int (Out Unit Bool)):=
  (if x4 then some (.stop (Out.ret true)) else some (.next (bC (x3+1))))
def mS(slot:Int)(x1:(List b8)):Int→Option (Step Int (Out Unit Bool))
  | x3=>(if decide (x3 < (x1.length:Int)) then (idx x1 x3).bind fun x5=>(gA x5.Handle).bind fun x6=>(if x6 then (eC x5.Handle).bind fun x7=>qZ x3 (x7 == slot) else qZ x3 false) else some (.stop (Out.brk ())))
def ZI:(Out Unit Bool)→Option Bool
  | .brk ()=>ZH
  | .ret r=>some r
def GZ(l:List aP)(slot:Int):Option Bool:=
  (zP l).bind fun x1=>(loop (mS slot x1) 0).bind (ZI)
def AL(b:aD)(s:Sub)(x5:List aP):Option (aD×Sub):=
  (cD s 0).bind fun x6=>some (({b with bB:=x5}:aD),x6)
def sJ(b:aD)(w_:Int)(s:Sub)(x3:Bool):Option (aD×Sub):=
  (if x3 then (cD s 4).bind fun x4=>some (b,x4) else (idx b.bB w_).bind fun x7=>need (x7.Rows.length+([(⟨s.A,s.E⟩:b8)]).length≤1073741824)<|AL b s (b.bB.set w_.toNat (⟨x7.Rows++([(⟨s.A,s.E⟩:b8)])⟩:aP)))
def AM(b:aD)(w_:Int)(s:Sub):Option (aD×Sub):=
  (if s.Pc == 0 then some (b,({s with Pc:=1,E:=b.aK.aM}:Sub)) else (if s.Pc == 1 then (bJ s.E 0 b.aK.aM).bind fun x1=>(if !x1 then (cD s 1).bind fun x2=>some (b,x2) else (pT b.Mem s.A).bind fun x8=>(if !x8 then sJ b w_ s true else (eC s.A).bind fun x9=>(GZ b.bB x9).bind fun x10=>sJ b w_ s x10)) else (cD s 1).bind fun x11=>some (b,x11)))
def oL(w_:Int)(x1:aK)(x3:iI)(x4:Bool):Option (aK×Bool):=
  (if x4 then some (x1,true) else (if x3.Seen == 2 then (idx x1.bG w_).bind fun x5=>some ((⟨x1.aM,x1.bG.set w_.toNat ({x5 with fG:=true,Seen:=0}:iI)⟩:aK),true) else (idx x1.bG w_).bind fun x6=>some ((⟨x1.aM,x1.bG.set w_.toNat ({x6 with Seen:=bC (x3.Seen+1)}:iI)⟩:aK),false)))
def AN(c:aK)(w_ e_:Int)(x1:aK)(x2:Bool):Option (aK×Bool):=
  (if x2 then some (x1,false) else (idx c.bG w_).bind fun x3=>(if !x3.On then oL w_ x1 x3 true else (if x3.fG then oL w_ x1 x3 true else oL w_ x1 x3 (x3.aM == e_))))
def E1(c:aK)(w_ e_:Int):Option (aK×Bool):=
  (m4 c).bind fun x1=>(mY c).bind fun x7=>(if !x7 then AN c w_ e_ x1 true else (bJ w_ 0 2).bind fun x8=>AN c w_ e_ x1 (!x8))
def AO(e_:Int)(x1:aK)(x2:Bool):Option (aK×Bool):=
  (if x2 then some (x1,false) else some ((⟨bC (e_+1),x1.bG⟩:aK),true))
def MK(c:aK)(e_:Int):Option (aK×Bool):=
  (m4 c).bind fun x1=>(mY c).bind fun x3=>(if !x3 then AO e_ x1 true else (if c.aM != e_ then AO e_ x1 true else AO e_ x1 (e_ == 100000)))
def pX(b:aD)(s:Sub)(x3:aK×Bool)(x5:Int):Option (aD×Sub):=
  some (({b with aK:=x3.1}:aD),({s with Pc:=x5,B:=bC (s.B+1)}:Sub))
def pY(b:aD)(s:Sub)(x6:aK×Bool)(x7:Int):Option (aD×Sub):=
  (cD ({s with Out:=x7}:Sub) 0).bind fun x8=>some (({b with aK:=x6.1}:aD),x8)
def xZ(b:aD)(s:Sub):Option (aD×Sub):=
  (if s.Pc == 0 then some (b,({s with Pc:=1,E:=b.aK.aM,B:=0}:Sub)) else (if s.Pc == 1 then (bJ s.B 0 2).bind fun x1=>(if !x1 then (cD s 1).bind fun x2=>some (b,x2) else (E1 b.aK s.B s.E).bind fun x3=>(if !x3.2 then (cD s 8).bind fun x4=>some (({b with aK:=x3.1}:aD),x4) else (if (bC (s.B+1)) == 3 then pX b s x3 2 else pX b s x3 s.Pc))) else (if s.Pc == 2 then (MK b.aK s.E).bind fun x6=>(if x6.2 then pY b s x6 1 else pY b s x6 s.Out) else (cD s 1).bind fun x9=>some (b,x9))))
def G0(x1:Bool):Option Bool:=
  some x1
def ML(r_:b8)(e_:Int):Option Bool:=
  (if decide (2≤e_) then G0 (decide (r_.aM≤(bC (e_ - 2)))) else G0 false)
def ZJ:Option Int:=
  some (-1)
def gZ(l:List b8)(e_:Int):Int→Option (Step Int (Out Unit Int))
  | x2=>(if decide (x2 < (l.length:Int)) then (idx l x2).bind fun x3=>(ML x3 e_).bind fun x4=>(if x4 then some (.stop (Out.ret x2)) else some (.next (bC (x2+1)))) else some (.stop (Out.brk ())))
def ZK:(Out Unit Int)→Option Int
  | .brk ()=>ZJ
  | .ret r=>some r
def AP(l:List b8)(from_ e_:Int):Option Int:=
  (loop (gZ l e_) (if 0 < from_ then from_ else 0)).bind (ZK)
def AQ(x2 x3:List aH):Option aB:=
  some (⟨x2,x3⟩:aB)
def IC(x:aB)(slot x1:Int)(x4:aH):Option aB:=
  AQ x.Global (x.bQ.set x1.toNat (⟨x4.aN++([slot])⟩:aH))
def ID(x:aB)(x5:List aH):Option aB:=
  AQ x5 x.bQ
def E2(x:aB)(w_ c slot:Int):Option aB:=
  (lV w_ c).bind fun x1=>(idx x.bQ x1).bind fun x4=>(if decide ((x4.aN.length:Int) < 2) then need (x4.aN.length+([slot]).length≤1073741824)<|IC x slot x1 x4 else (idx x.Global c).bind fun x6=>need (x6.aN.length+([slot]).length≤1073741824)<|ID x (x.Global.set c.toNat (⟨x6.aN++([slot])⟩:aH)))
def IE(x:Mem)(x3:List Int)(x4 x5:List aH):Option Mem:=
  some (⟨(⟨x3,x.aE.Class⟩:aE),(⟨x4,x5⟩:aB)⟩:Mem)
def IF(x:Mem)(w_ slot x1 x2:Int)(x3:List Int):Option Mem:=
  (if decide ((bC (x2+1))≤6) then (E2 x.aB w_ x1 slot).bind fun x6=>IE x x3 x6.Global x6.bQ else IE x x3 x.aB.Global x.aB.bQ)
def E3(x:Mem)(w_ slot:Int):Option Mem:=
  (iJ x.aE slot).bind fun x1=>(tB x.aE slot).bind fun x2=>(pR slot x1).bind fun x7=>(jE x.aE.Bytes x7 4 (bC (x2+1))).bind fun x8=>IF x w_ slot x1 x2 x8
def pZ(b:aD)(s:Sub)(x8:Int):Option (aD×Sub):=
  some (b,({s with Pc:=x8,B:=bC (s.B+1)}:Sub))
def eN(b:aD)(s:Sub)(x5:Bool):Option (aD×Sub):=
  (if x5 then (cD s 1).bind fun x6=>some (b,x6) else (idx b.lZ s.B).bind fun x7=>(if x7 == s.H then some (b,({s with Pc:=1,Row:=bC (s.Row+1)}:Sub)) else (if (bC (s.B+1)) == 3 then pZ b s 3 else pZ b s s.Pc)))
def y7(s:Sub)(x14:aD):Option (aD×Sub):=
  some (x14,({s with Pc:=1,Out:=bC (s.Out+1)}:Sub))
def eO(b:aD)(w_:Int)(s:Sub)(x1:aP)(x12:Bool):Option (aD×Sub):=
  (if x12 then (cD s 1).bind fun x13=>some (b,x13) else need (0≤(s.Row:Int)∧(s.Row:Int)≤(x1.Rows.length:Int)) (need (0≤(bC (s.Row+1):Int)∧(bC (s.Row+1):Int)≤(x1.Rows.length:Int)) (need (s.Row.toNat≤(bC (s.Row+1)).toNat) ((eC s.H).bind fun x15=>(E3 b.Mem w_ x15).bind fun x16=>y7 s ({b with Mem:=x16,bB:=b.bB.set w_.toNat (⟨((cY x1.Rows s.Row.toNat (x1.Rows.drop ((bC (s.Row+1)).toNat))).take (s.Row.toNat+(x1.Rows.length - ((bC (s.Row+1)).toNat)))).drop 0⟩:aP)}:aD)))))
def yA(b:aD)(w_:Int)(s:Sub):Option (aD×Sub):=
  (idx b.bB w_).bind fun x1=>(if s.Pc == 0 then some (b,({s with Pc:=1,E:=b.aK.aM,Row:=0}:Sub)) else (if s.Pc == 1 then (AP x1.Rows s.Row s.E).bind fun x2=>(if decide (x2 < 0) then (cD s 0).bind fun x3=>some (b,x3) else (idx x1.Rows x2).bind fun x4=>some (b,({s with Pc:=2,Row:=x2,B:=0,H:=x4.Handle}:Sub))) else (if s.Pc == 2 then (bJ s.B 0 2).bind fun x9=>(if !x9 then eN b s true else (bJ s.Row 0 (bC ((x1.Rows.length:Int) - 1))).bind fun x10=>(if !x10 then eN b s true else (idx x1.Rows s.Row).bind fun x11=>eN b s (x11.Handle != s.H))) else (if s.Pc == 3 then (bJ s.Row 0 (bC ((x1.Rows.length:Int) - 1))).bind fun x17=>(if !x17 then eO b w_ s x1 true else (idx x1.Rows s.Row).bind fun x18=>(if x18.Handle != s.H then eO b w_ s x1 true else (ML x18 s.E).bind fun x19=>eO b w_ s x1 (!x19))) else (cD s 1).bind fun x20=>some (b,x20)))))
def wP(w_ e_:Int)(x1:aK)(x2:Bool):Option (aK×Bool):=
  (if x2 then some (x1,false) else (idx x1.bG w_).bind fun x3=>some ((⟨x1.aM,x1.bG.set w_.toNat (⟨true,e_,false,0⟩:iI)⟩:aK),true))
def IG(c:aK)(w_ e_:Int):Option (aK×Bool):=
  (m4 c).bind fun x1=>(mY c).bind fun x4=>(if !x4 then wP w_ e_ x1 true else (bJ w_ 0 2).bind fun x5=>(if !x5 then wP w_ e_ x1 true else (bJ e_ 0 c.aM).bind fun x6=>wP w_ e_ x1 (!x6)))
def JY(b:aD)(w_:Int)(s:Sub):Option (aD×Sub):=
  (if s.Pc == 0 then some (b,({s with Pc:=1,E:=b.aK.aM}:Sub)) else (if s.Pc == 1 then (IG b.aK w_ s.E).bind fun x1=>(if !x1.2 then (cD s 1).bind fun x2=>some (({b with aK:=x1.1}:aD),x2) else some (({b with aK:=x1.1}:aD),({s with Pc:=2}:Sub))) else (if s.Pc == 2 then (if b.aK.aM == s.E then (cD s 0).bind fun x3=>some (b,x3) else some (b,({s with Pc:=0}:Sub))) else (cD s 1).bind fun x4=>some (b,x4))))
def tJ(b:aD)(w_:Int)(s:Sub):Option (aD×Sub):=
  (if s.cQ then some (b,s) else (if s.Kind == 1 then (DX b w_ s).bind fun x1=>some (x1.1,x1.2) else (if s.Kind == 2 then (AM b w_ s).bind fun x2=>some (x2.1,x2.2) else (if s.Kind == 3 then (xZ b s).bind fun x3=>some (x3.1,x3.2) else (if s.Kind == 4 then (yA b w_ s).bind fun x4=>some (x4.1,x4.2) else (if s.Kind == 5 then (JY b w_ s).bind fun x5=>some (x5.1,x5.2) else (cD s 1).bind fun x6=>some (b,x6)))))))
def bS(j:bX)(pc code:Int):Option bX:=
  some ({j with Pc:=pc,Code:=code}:bX)
def AR(slot c:Int):Option Int:=
  (pR slot c).bind fun x1=>(if decide (x1 < 0) then some (-1) else some (bC (x1+4)))
def tK(at_ x3 x4:Int)(x5:Bool):Option (Int×Int):=
  (if x5 then some (0,2) else (AR x3 x4).bind fun x6=>some (bC (x6+at_),0))
def tL(m:Mem)(h at_ width:Int)(x1:Bool):Option (Int×Int):=
  (if x1 then some (0,1) else (pT m h).bind fun x2=>(if !x2 then some (0,4) else (eC h).bind fun x3=>(iJ m.aE x3).bind fun x4=>(mZ x4).bind fun x7=>(bJ at_ 0 (bC (x7 - 1))).bind fun x8=>(if !x8 then tK at_ x3 x4 true else (mZ x4).bind fun x9=>tK at_ x3 x4 (decide ((bC (x9 - at_)) < width)))))
def JZ(m:Mem)(h at_ width:Int):Option (Int×Int):=
  (tC m).bind fun x10=>(if !x10 then tL m h at_ width true else (bJ width 1 7).bind fun x11=>tL m h at_ width (!x11))
def K5(x8:Int)(x9:List UInt8):Option (List UInt8):=
  (if decide (0 < x8) then some ([]) else some x9)
def wQ(width:Int):(Int×(List UInt8)×Int)→Option (Step (Int×(List UInt8)×Int) (Int×(List UInt8)))
  | (x5,x6,x7)=>(if decide (x7 < width) then need (([u8 (Int.tmod x5 256)]).length+x6.length≤9223372036854775807) (some (.next (bC (Int.tdiv x5 256),([u8 (Int.tmod x5 256)])++x6,bC (x7+1)))) else some (.stop ((x5,x6))))
def K6:(Int×(List UInt8))→Option (List UInt8)
  | (x8,x9)=>K5 x8 x9
def wR(n width:Int)(x1:Bool):Option (List UInt8):=
  (if x1 then some ([]) else (loop (wQ width) (n,[],0)).bind (K6))
def y8(n width:Int):Option (List UInt8):=
  (bJ width 1 7).bind fun x10=>(if !x10 then wR n width true else wR n width (decide (n < 0)))
def m5(m:Mem)(h at_ width n:Int):Option (Mem×Int):=
  (tH m).bind fun x1=>(JZ m h at_ width).bind fun x2=>(if x2.2 != 0 then some (x1,x2.2) else (y8 n width).bind fun x3=>(if x3 == ([]) then some (x1,1) else (jE x1.aE.Bytes x2.1 width n).bind fun x4=>some ((⟨(⟨x4,x1.aE.Class⟩:aE),x1.aB⟩:Mem),0)))
def J0(s:aC)(w_:Int)(j:bX):Option (aC×bX):=
  (if j.Pc == 0 then (tJ s.aD w_ j.Sub).bind fun x1=>(if !x1.2.cQ then some (({s with aD:=x1.1}:aC),({j with Sub:=x1.2}:bX)) else (if x1.2.Code != 0 then (bS ({j with Sub:=x1.2}:bX) 9 x1.2.Code).bind fun x2=>some (({s with aD:=x1.1}:aC),x2) else (gA x1.2.Out).bind fun x3=>(if !x3 then (bS ({j with Sub:=x1.2}:bX) 9 1).bind fun x4=>some (({s with aD:=x1.1}:aC),x4) else (bS ({j with Sub:=x1.2,H:=x1.2.Out}:bX) 1 0).bind fun x5=>some (({s with aD:=x1.1}:aC),x5)))) else (if j.Pc == 1 then (m5 s.aD.Mem j.H 0 4 j.Op.eS).bind fun x6=>(if x6.2 != 0 then (bS j 9 x6.2).bind fun x7=>some (({s with aD:=(⟨x6.1,s.aD.aK,s.aD.bB,s.aD.lZ⟩:aD)}:aC),x7) else (bS j 2 0).bind fun x8=>some (({s with aD:=(⟨x6.1,s.aD.aK,s.aD.bB,s.aD.lZ⟩:aD)}:aC),x8)) else (if j.Pc == 2 then (idx s.Cells j.Op.Cell).bind fun x9=>need (s.Log.length+([(⟨2,w_,j.aQ,j.Op.Cell,j.H,j.Op.eS,0⟩:Ev)]).length≤1073741824) ((if x9 == 0 then (bS ({j with Old:=x9}:bX) 9 0).bind fun x10=>some (({s with Cells:=s.Cells.set j.Op.Cell.toNat j.H,Log:=s.Log++([(⟨2,w_,j.aQ,j.Op.Cell,j.H,j.Op.eS,0⟩:Ev)])}:aC),x10) else (eH 2 x9).bind fun x11=>(bS ({j with Sub:=x11,Old:=x9}:bX) 3 0).bind fun x12=>some (({s with Cells:=s.Cells.set j.Op.Cell.toNat j.H,Log:=s.Log++([(⟨2,w_,j.aQ,j.Op.Cell,j.H,j.Op.eS,0⟩:Ev)])}:aC),x12))) else (if j.Pc == 3 then (tJ s.aD w_ j.Sub).bind fun x13=>(if !x13.2.cQ then some (({s with aD:=x13.1}:aC),({j with Sub:=x13.2}:bX)) else (bS ({j with Sub:=x13.2}:bX) 9 x13.2.Code).bind fun x14=>some (({s with aD:=x13.1}:aC),x14)) else (bS j 9 1).bind fun x15=>some (s,x15)))))
def kY(s:aC)(w_:Int)(j:bX):Option aC:=
  need (s.Log.length+([(⟨3,w_,j.aQ,j.Op.Cell,j.H,0,0⟩:Ev)]).length≤1073741824) (some ({s with Log:=s.Log++([(⟨3,w_,j.aQ,j.Op.Cell,j.H,0,0⟩:Ev)])}:aC))
def oN(h:aE)(x at_ width x3:Int)(x4:Bool):Option (Int×Bool):=
  (if x4 then some (0,false) else (eC x).bind fun x5=>(AR x5 x3).bind fun x6=>(sY h.Bytes (bC (x6+at_)) width).bind fun x7=>some (x7,true))
def AS(h:aE)(x at_ width:Int)(x1:Bool):Option (Int×Bool):=
  (if x1 then some (0,false) else (eC x).bind fun x2=>(iJ h x2).bind fun x3=>(if decide (x3 < 0) then oN h x at_ width x3 true else (mZ x3).bind fun x8=>(bJ at_ 0 (bC (x8 - 1))).bind fun x9=>(if !x9 then oN h x at_ width x3 true else (mZ x3).bind fun x10=>oN h x at_ width x3 (decide ((bC (x10 - at_)) < width)))))
def J1(h:aE)(x at_ width:Int):Option (Int×Bool):=
  (gA x).bind fun x11=>(if !x11 then AS h x at_ width true else (bJ width 1 7).bind fun x12=>AS h x at_ width (!x12))
def p7(s:aC)(j:bX):Option Int:=
  (J1 s.aD.Mem.aE j.H 0 4).bind fun x1=>some x1.1
def oO(j:bX)(pc:Int)(x2:Bool):Option bX:=
  (if x2 then (bS j pc 0).bind fun x3=>some x3 else (bS ({j with eS:=0}:bX) pc 6).bind fun x4=>some x4)
def wS(s:aC)(w_:Int)(j:bX)(pc:Int):Option bX:=
  (idx s.aD.aK.bG w_).bind fun x1=>(if x1.On then oO j pc (!x1.fG) else oO j pc false)
def wT(w_:Int)(x1:aK)(x2:Bool):Option (aK×Bool):=
  (if x2 then some (x1,false) else (idx x1.bG w_).bind fun x3=>some ((⟨x1.aM,x1.bG.set w_.toNat (⟨false,0,false,0⟩:iI)⟩:aK),true))
def y9(c:aK)(w_:Int):Option (aK×Bool):=
  (m4 c).bind fun x1=>(mY c).bind fun x4=>(if !x4 then wT w_ x1 true else (bJ w_ 0 2).bind fun x5=>(if !x5 then wT w_ x1 true else (idx c.bG w_).bind fun x6=>wT w_ x1 (!x6.On)))
def J2(s:aC)(w_:Int)(j:bX):Option (aC×bX):=
  (if j.Pc == 0 then (tJ s.aD w_ j.Sub).bind fun x1=>(if !x1.2.cQ then some (({s with aD:=x1.1}:aC),({j with Sub:=x1.2}:bX)) else (bS ({j with Sub:=x1.2}:bX) 1 0).bind fun x2=>some (({s with aD:=x1.1}:aC),x2)) else (if j.Pc == 1 then (idx s.Cells j.Op.Cell).bind fun x3=>(kY s w_ ({j with H:=x3}:bX)).bind fun x4=>(if x3 == 0 then (bS ({j with H:=x3}:bX) 4 8).bind fun x5=>some (x4,x5) else (bS ({j with H:=x3}:bX) 2 0).bind fun x6=>some (x4,x6)) else (if j.Pc == 2 then (p7 s j).bind fun x7=>(bS ({j with eS:=x7}:bX) 3 0).bind fun x8=>some (s,x8) else (if j.Pc == 3 then (wS s w_ j 4).bind fun x9=>some (s,x9) else (if j.Pc == 4 then (y9 s.aD.aK w_).bind fun x10=>(bS j 9 j.Code).bind fun x11=>some (({s with aD:=(⟨s.aD.Mem,x10.1,s.aD.bB,s.aD.lZ⟩:aD)}:aC),x11) else (bS j 9 1).bind fun x12=>some (s,x12))))))
def rA(w_ h:Int)(x1:(List Int))(x2:Bool):Option ((List Int)×Bool):=
  (if x2 then some (x1,false) else (idx x1 w_).bind fun x3=>some (x1.set w_.toNat h,true))
def vD(z:List Int)(w_ h:Int):Option ((List Int)×Bool):=
  (lG z).bind fun x1=>(DA z).bind fun x4=>(if !x4 then rA w_ h x1 true else (bJ w_ 0 2).bind fun x5=>(if !x5 then rA w_ h x1 true else (gA h).bind fun x6=>rA w_ h x1 (!x6)))
def wU(w_:Int)(x1:(List Int))(x2:Bool):Option ((List Int)×Bool):=
  (if x2 then some (x1,false) else (idx x1 w_).bind fun x3=>some (x1.set w_.toNat 0,true))
def IH(z:List Int)(w_:Int):Option ((List Int)×Bool):=
  (lG z).bind fun x1=>(DA z).bind fun x4=>(if !x4 then wU w_ x1 true else (bJ w_ 0 2).bind fun x5=>(if !x5 then wU w_ x1 true else (idx z w_).bind fun x6=>wU w_ x1 (x6 == 0)))
def J3(s:aC)(w_:Int)(j:bX):Option (aC×bX):=
  (if j.Pc == 0 then (idx s.Cells j.Op.Cell).bind fun x1=>(if x1 == 0 then (kY s w_ ({j with H:=x1}:bX)).bind fun x2=>(bS ({j with H:=x1}:bX) 4 8).bind fun x3=>some (x2,x3) else (bS ({j with H:=x1}:bX) 1 0).bind fun x4=>some (s,x4)) else (if j.Pc == 1 then (vD s.aD.lZ w_ j.H).bind fun x5=>(bS j 2 0).bind fun x6=>some (({s with aD:=(⟨s.aD.Mem,s.aD.aK,s.aD.bB,x5.1⟩:aD)}:aC),x6) else (if j.Pc == 2 then (idx s.Cells j.Op.Cell).bind fun x7=>(if x7 != j.H then (bS j 0 0).bind fun x8=>some (s,x8) else (kY s w_ j).bind fun x9=>(bS j 3 0).bind fun x10=>some (x9,x10)) else (if j.Pc == 3 then (p7 s j).bind fun x11=>(bS ({j with eS:=x11}:bX) 4 0).bind fun x12=>some (s,x12) else (if j.Pc == 4 then (IH s.aD.lZ w_).bind fun x13=>(bS j 9 j.Code).bind fun x14=>some (({s with aD:=(⟨s.aD.Mem,s.aD.aK,s.aD.bB,x13.1⟩:aD)}:aC),x14) else (bS j 9 1).bind fun x15=>some (s,x15))))))
def G3(s:aC)(w_:Int)(j:bX):Option (aC×bX):=
  (idx s.aD.aK.bG w_).bind fun x1=>(if j.Pc == 0 then (if !x1.On then (bS j 9 5).bind fun x2=>some (s,x2) else (if x1.fG then (bS j 9 6).bind fun x3=>some (s,x3) else (idx s.Cells j.Op.Cell).bind fun x4=>(kY s w_ ({j with H:=x4}:bX)).bind fun x5=>(if x4 == 0 then (bS ({j with H:=x4}:bX) 9 8).bind fun x6=>some (x5,x6) else (bS ({j with H:=x4}:bX) 1 0).bind fun x7=>some (x5,x7)))) else (if j.Pc == 1 then (p7 s j).bind fun x8=>(bS ({j with eS:=x8}:bX) 2 0).bind fun x9=>some (s,x9) else (if j.Pc == 2 then (wS s w_ j 9).bind fun x10=>some (s,x10) else (bS j 9 1).bind fun x11=>some (s,x11))))
def lP(s:aC)(w_:Int)(j:bX)(x5:Bool):Option (aC×bX):=
  (if x5 then (bS j 9 1).bind fun x6=>some (s,x6) else (tJ s.aD w_ j.Sub).bind fun x7=>(if !x7.2.cQ then some (({s with aD:=x7.1}:aC),({j with Sub:=x7.2}:bX)) else (if j.Op.Kind == 5 then (bS ({j with Sub:=x7.2}:bX) 9 x7.2.Code).bind fun x8=>some (({s with aD:=x7.1}:aC),x8) else (if j.Pc == 0 then (eH 4 0).bind fun x9=>(bS ({j with Sub:=x9}:bX) 1 0).bind fun x10=>some (({s with aD:=x7.1}:aC),x10) else (bS ({j with Sub:=x7.2,eS:=x7.2.Out}:bX) 9 x7.2.Code).bind fun x11=>some (({s with aD:=x7.1}:aC),x11)))))
def vF(s:aC)(w_:Int)(j:bX)(x1:Bool):Option (aC×bX):=
  (if x1 then (y9 s.aD.aK w_).bind fun x2=>(if !x2.2 then (bS j 9 5).bind fun x3=>some (({s with aD:=(⟨s.aD.Mem,x2.1,s.aD.bB,s.aD.lZ⟩:aD)}:aC),x3) else (bS j 9 0).bind fun x4=>some (({s with aD:=(⟨s.aD.Mem,x2.1,s.aD.bB,s.aD.lZ⟩:aD)}:aC),x4)) else (if j.Op.Kind == 6 then lP s w_ j true else (if j.Pc != 0 then (if j.Pc != 1 then lP s w_ j true else lP s w_ j (j.Op.Kind == 5)) else lP s w_ j false)))
def DY(s:aC)(w_:Int)(j:bX):Option (aC×bX):=
  (if j.Op.Kind == 6 then vF s w_ j (j.Pc == 0) else vF s w_ j false)
def eA(w_:Int)(x3:aC)(x4:bX):Option aC:=
  (idx x3.aT w_).bind fun x5=>some ({x3 with aT:=x3.aT.set w_.toNat x4}:aC)
def DB(s:aC)(w_:Int):Option aC:=
  (idx s.aT w_).bind fun x1=>(if !x1.gG then (DW s w_).bind fun x2=>some x2 else (if x1.Pc == 9 then need (s.Log.length+([(⟨4,w_,x1.aQ,x1.Op.Cell,x1.H,x1.eS,x1.Code⟩:Ev)]).length≤1073741824) (some ({s with aT:=s.aT.set w_.toNat (⟨false,(⟨0,0,0,0⟩:eM),0,0,(⟨0,0,0,0,0,0,0,0,0,false⟩:Sub),0,0,0,0⟩:bX),Log:=s.Log++([(⟨4,w_,x1.aQ,x1.Op.Cell,x1.H,x1.eS,x1.Code⟩:Ev)])}:aC)) else (if x1.Op.Kind == 1 then (J0 s w_ x1).bind fun x6=>eA w_ x6.1 x6.2 else (if x1.Op.Kind == 2 then (J2 s w_ x1).bind fun x7=>eA w_ x7.1 x7.2 else (if x1.Op.Kind == 3 then (J3 s w_ x1).bind fun x8=>eA w_ x8.1 x8.2 else (if x1.Op.Kind == 7 then (G3 s w_ x1).bind fun x9=>eA w_ x9.1 x9.2 else (DY s w_ x1).bind fun x10=>eA w_ x10.1 x10.2))))))
def aCL(x7:aC):Option aC:=
  some x7
def oP(x5:Int)(x8:Bool)(x9:aC):Option (Step (Int×aC) aC):=
  (if x8 then (DB x9 (Int.tmod x5 3)).bind fun x10=>some (.next (bC (x5+1),x10)) else some (.stop (x9)))
def oQ:(Int×aC)→Option (Step (Int×aC) aC)
  | (x5,x6)=>(MJ x6).bind fun x11=>(if !x11 then oP x5 (decide (x5 < 3000)) x6 else oP x5 false x6)
def aCM:aC→Option aC
  | x7=>aCL x7
def E4(s:aC):Option aC:=
  (AI s).bind fun x1=>(m3 s).bind fun x2=>(if !x2 then some x1 else (loop (oQ) (0,x1)).bind (aCM))
def zR:Option Int:=
  some (-1)
def jZ(s:List bX)(f:(bX→Option Bool)):Int→Option (Step Int (Out Unit Int))
  | x2=>(if decide (x2 < (s.length:Int)) then (idx s x2).bind fun x3=>(f x3).bind fun x4=>(if x4 then some (.stop (Out.ret x2)) else some (.next (bC (x2+1)))) else some (.stop (Out.brk ())))
def oR:(Out Unit Int)→Option Int
  | .brk ()=>zR
  | .ret r=>some r
def tM(s:List bX)(f:(bX→Option Bool)):Option Int:=
  (loop (jZ s f) 0).bind (oR)
def hU(s:List bX)(f:(bX→Option Bool)):Option Bool:=
  (tM s f).bind fun x1=>some (decide (0≤x1))
def P6(j:bX):Option Bool:=
  some j.gG
def v5:Option Int:=
  some (-1)
def i4(s:List Queue)(f:(Queue→Option Bool)):Int→Option (Step Int (Out Unit Int))
  | x2=>(if decide (x2 < (s.length:Int)) then (idx s x2).bind fun x3=>(f x3).bind fun x4=>(if x4 then some (.stop (Out.ret x2)) else some (.next (bC (x2+1)))) else some (.stop (Out.brk ())))
def mG:(Out Unit Int)→Option Int
  | .brk ()=>v5
  | .ret r=>some r
def p8(s:List Queue)(f:(Queue→Option Bool)):Option Int:=
  (loop (i4 s f) 0).bind (mG)
def gI(s:List Queue)(f:(Queue→Option Bool)):Option Bool:=
  (p8 s f).bind fun x1=>some (decide (0≤x1))
def P7(q:Queue):Option Bool:=
  some (decide (0 < (q.gH.length:Int)))
def G4(x1:Bool):Option Bool:=
  some x1
def HZ(s:aC):Option Bool:=
  (hU s.aT (fun y0=>P6 y0)).bind fun x2=>(if !x2 then (gI s.cZ (fun y0=>P7 y0)).bind fun x3=>G4 (!x3) else G4 false)
def eY(s:List Int):Option (List Int):=
  need (([]:List Int).length+s.length≤1073741824) (some (([]:List Int)++s))
def rX(h:aE):Option aE:=
  (eY h.Bytes).bind fun x1=>(eY h.Class).bind fun x2=>some (⟨x1,x2⟩:aE)
def U9(x5 x10:List aH):Option aB:=
  some (⟨x5,x10⟩:aB)
def AT(x8:Int)(x12:List aH):Option (Step (Int×(List aH)) (List aH)):=
  some (.next (bC (x8+1),x12))
def AU(l:aB):(Int×(List aH))→Option (Step (Int×(List aH)) (List aH))
  | (x8,x9)=>(if decide (x8 < (l.bQ.length:Int)) then (idx l.bQ x8).bind fun x11=>(eY x11.aN).bind fun x13=>need (x9.length+([(⟨x13⟩:aH)]).length≤1073741824)<|AT x8 (x9++([(⟨x13⟩:aH)])) else some (.stop (x9)))
def VA(x5:List aH):(List aH)→Option aB
  | x10=>U9 x5 x10
def J4(l:aB)(x5:List aH):Option aB:=
  (loop (AU l) (0,[])).bind (VA x5)
def AV(x3:Int)(x15:List aH):Option (Step (Int×(List aH)) (List aH)):=
  some (.next (bC (x3+1),x15))
def AW(l:aB):(Int×(List aH))→Option (Step (Int×(List aH)) (List aH))
  | (x3,x4)=>(if decide (x3 < (l.Global.length:Int)) then (idx l.Global x3).bind fun x14=>(eY x14.aN).bind fun x16=>need (x4.length+([(⟨x16⟩:aH)]).length≤1073741824)<|AV x3 (x4++([(⟨x16⟩:aH)])) else some (.stop (x4)))
def J5(l:aB):(List aH)→Option aB
  | x5=>J4 l x5
def gR(l:aB):Option aB:=
  (loop (AW l) (0,[])).bind (J5 l)
def AX(m:Mem):Option Mem:=
  (rX m.aE).bind fun x1=>(gR m.aB).bind fun x2=>some (⟨x1,x2⟩:Mem)
def vG(s:List iI):Option (List iI):=
  need (([]:List iI).length+s.length≤1073741824) (some (([]:List iI)++s))
def jN(c:aK):Option aK:=
  (vG c.bG).bind fun x1=>some (⟨c.aM,x1⟩:aK)
def sK(s:List b8):Option (List b8):=
  need (([]:List b8).length+s.length≤1073741824) (some (([]:List b8)++s))
def VB(x5:List aP):Option (List aP):=
  some x5
def AY(l:List aP):((List aP)×Int)→Option (Step ((List aP)×Int) (List aP))
  | (x3,x4)=>(if decide (x4 < (l.length:Int)) then (idx l x4).bind fun x6=>(sK x6.Rows).bind fun x7=>need (x3.length+([(⟨x7⟩:aP)]).length≤1073741824) (some (.next (x3++([(⟨x7⟩:aP)]),bC (x4+1)))) else some (.stop (x3)))
def VC:(List aP)→Option (List aP)
  | x5=>VB x5
def jO(l:List aP):Option (List aP):=
  (loop (AY l) (([]:List aP),0)).bind (VC)
def DZ(b:aD):Option aD:=
  (AX b.Mem).bind fun x1=>(jN b.aK).bind fun x2=>(jO b.bB).bind fun x3=>(eY b.lZ).bind fun x4=>some (⟨x1,x2,x3,x4⟩:aD)
def DC(s:List bX):Option (List bX):=
  need (([]:List bX).length+s.length≤1073741824) (some (([]:List bX)++s))
def FY(s:List eM):Option (List eM):=
  need (([]:List eM).length+s.length≤1073741824) (some (([]:List eM)++s))
def XB(x5:List Queue):Option (List Queue):=
  some x5
def DD(todo:List Queue):((List Queue)×Int)→Option (Step ((List Queue)×Int) (List Queue))
  | (x3,x4)=>(if decide (x4 < (todo.length:Int)) then (idx todo x4).bind fun x6=>(FY x6.gH).bind fun x7=>need (x3.length+([(⟨x7⟩:Queue)]).length≤1073741824) (some (.next (x3++([(⟨x7⟩:Queue)]),bC (x4+1)))) else some (.stop (x3)))
def XC:(List Queue)→Option (List Queue)
  | x5=>XB x5
def wV(todo:List Queue):Option (List Queue):=
  (loop (DD todo) (([]:List Queue),0)).bind (XC)
def FZ(s:List Ev):Option (List Ev):=
  need (([]:List Ev).length+s.length≤1073741824) (some (([]:List Ev)++s))
def oT(s:aC):Option aC:=
  (DZ s.aD).bind fun x1=>(eY s.Cells).bind fun x2=>(DC s.aT).bind fun x3=>(wV s.cZ).bind fun x4=>(FZ s.Log).bind fun x5=>some (⟨x1,x2,x3,x4,x5,s.aQ⟩:aC)
def oV(x1:Bool):Option Bool:=
  some x1
def cK(n low high:Int):Option Bool:=
  (if decide (low≤n) then oV (decide (n≤high)) else oV false)
def zT:Option Int:=
  some (-1)
def hY(s:List iI)(f:(iI→Option Bool)):Int→Option (Step Int (Out Unit Int))
  | x2=>(if decide (x2 < (s.length:Int)) then (idx s x2).bind fun x3=>(f x3).bind fun x4=>(if x4 then some (.stop (Out.ret x2)) else some (.next (bC (x2+1)))) else some (.stop (Out.brk ())))
def oW:(Out Unit Int)→Option Int
  | .brk ()=>zT
  | .ret r=>some r
def tN(s:List iI)(f:(iI→Option Bool)):Option Int:=
  (loop (hY s f) 0).bind (oW)
def j4(s:List iI)(f:(iI→Option Bool)):Option Bool:=
  (tN s f).bind fun x1=>some (decide (0≤x1))
def j5(x1:Bool):Option Bool:=
  some x1
def tO(p:iI)(k0:aK):Option Bool:=
  (cK p.aM 0 k0.aM).bind fun x2=>(if !x2 then j5 true else (cK p.Seen 0 2).bind fun x3=>(if !x3 then j5 true else (if !p.On then j5 (!(decide (p=(⟨false,0,false,0⟩:iI)))) else j5 false)))
def rB(x1:Bool):Option Bool:=
  some x1
def m6(c:aK):Option Bool:=
  (cK c.aM 0 100000).bind fun x2=>(if x2 then (if (c.bG.length:Int) == 3 then (j4 c.bG (fun y0=>tO y0 c)).bind fun x3=>rB (!x3) else rB false) else rB false)
def lH(slot:Int):Option Bool:=
  (cK slot 0 23).bind fun x1=>some x1
def qA(x10:List Raw):Option (List Raw):=
  some x10
def gE(slices:List (List Raw)):((List Raw)×Int)→Option (Step ((List Raw)×Int) (List Raw))
  | (x8,x9)=>(if decide (x9 < (slices.length:Int)) then (idx slices x9).bind fun x11=>need (x8.length+x11.length≤1073741824) (some (.next (x8++x11,bC (x9+1)))) else some (.stop (x8)))
def NJ:(List Raw)→Option (List Raw)
  | x10=>qA x10
def kZ(slices:List (List Raw))(x5:Int):Option (List Raw):=
  need (0≤x5∧x5≤1073741824) ((loop (gE slices) ([],0)).bind (NJ))
def fF(slices:List (List Raw)):(Int×Int)→Option (Step (Int×Int) Int)
  | (x3,x4)=>(if decide (x4 < (slices.length:Int)) then (idx slices x4).bind fun x12=>(if decide ((bC (x3+(x12.length:Int))) < 0) then none else some (.next (bC (x3+(x12.length:Int)),bC (x4+1)))) else some (.stop (x3)))
def AZ(slices:List (List Raw)):Int→Option (List Raw)
  | x5=>kZ slices x5
def nR(slices:List (List Raw)):Option (List Raw):=
  (loop (fF slices) (0,0)).bind (AZ slices)
theorem JK{u1 u2:List Raw}(h:u1.length+u2.length≤1073741824):loop (fF [u1,u2]) (0,0)=some ((u1.length+u2.length:Nat):Int):=by
  have e1:bC (u1.length:Int)=u1.length:=H7 (by omega)
  have e2:bC ((u1.length:Int)+(u2.length:Int))=((u1.length+u2.length:Nat):Int):=by rw [H7 (by omega)];rfl
  have e3:bC (0+1)=1:=H7 (by omega)
  have e4:bC 2=2:=H7 (by omega)
  have n1:¬(u1.length:Int) < 0:=by omega
  have n2:¬((u1.length+u2.length:Nat):Int) < 0:=by omega
  rw [cM (s':=((u1.length:Int),1)) ?_,cM (s':=(((u1.length+u2.length:Nat):Int),2)) ?_,cA (r:=((u1.length+u2.length:Nat):Int)) ?_]
  · simp [fF]
  · simp [fF,idx,e2,e4]
    omega
  · simp [fF,idx,e1,n1]
    exact e3
theorem MM{u1 u2:List Raw}{n1 n2:Nat}(hl:u1.length=n1∧u2.length=n2)(h:n1+n2≤1073741824):nR [u1,u2]=some (u1++u2):=by
  obtain⟨rfl,rfl⟩:=hl
  have e3:bC (0+1)=1:=H7 (by omega)
  have e4:bC 2=2:=H7 (by omega)
  unfold nR
  rw [JK h]
  simp only [aI,AZ,kZ]
  rw [aS (by omega),cM (s':=(u1,1)) ?_,cM (s':=(u1++u2,2)) ?_,cA (r:=u1++u2) ?_]
  · rfl
  · simp [gE]
  · simp [gE,idx,e4,aS h]
  · have h1:u1.length≤1073741824:=by omega
    simp [gE,idx,aS h1]
    exact e3
def F5:Option Bool:=
  some true
def yC(x4:Int)(x12:List Bool):Option (Step (Int×(List Bool)) (Out Unit Bool)):=
  some (.next (bC (x4+1),x12))
def mT(x10:Int)(x11:List Bool)(x13:Int)(x14:Bool):Option (Step (Int×(List Bool)) (Out (List Bool) Bool)):=
  (if x14 then some (.stop (Out.ret false)) else need (0≤(x13:Int)∧(x13:Int) < 24) ((idx (x11:List Bool) x13).bind fun x15=>some (.next (bC (x10+1),x11.set (x13.toNat) true))))
def kG(x6:aH):(Int×(List Bool))→Option (Step (Int×(List Bool)) (Out (List Bool) Bool))
  | (x10,x11)=>(if decide (x10 < (x6.aN.length:Int)) then (idx x6.aN x10).bind fun x13=>(lH x13).bind fun x16=>(if !x16 then mT x10 x11 x13 true else need (0≤(x13:Int)∧(x13:Int) < 24) ((idx (x11:List Bool) x13).bind fun x17=>mT x10 x11 x13 x17)) else some (.stop (Out.brk x11)))
def OU(x4:Int):(Out (List Bool) Bool)→Option (Step (Int×(List Bool)) (Out Unit Bool))
  | .brk x12=>yC x4 x12
  | .ret r=>some (.stop (Out.ret r))
def kH(x4:Int)(x5:List Bool)(x6:aH)(x7:Bool):Option (Step (Int×(List Bool)) (Out Unit Bool)):=
  (if x7 then some (.stop (Out.ret false)) else (loop (kG x6) (0,x5)).bind (OU x4))
def kI(l:aB):(Int×(List Bool))→Option (Step (Int×(List Bool)) (Out Unit Bool))
  | (x4,x5)=>(if decide (x4 < ((l.bQ++l.Global).length:Int)) then (idx (l.bQ++l.Global) x4).bind fun x6=>(if decide (x4 < (l.bQ.length:Int)) then kH x4 x5 x6 (decide (2 < (x6.aN.length:Int))) else kH x4 x5 x6 false) else some (.stop (Out.brk ())))
def ZL:(Out Unit Bool)→Option Bool
  | .brk ()=>F5
  | .ret r=>some r
def rC(l:aB)(x1:Bool):Option Bool:=
  (if x1 then some false else need (l.bQ.length+l.Global.length≤1073741824) ((loop (kI l) (0,[false,false,false,false,false,false,false,false,false,false,false,false,false,false,false,false,false,false,false,false,false,false,false,false])).bind (ZL)))
def jF(l:aB):Option Bool:=
  (if (l.Global.length:Int) != 3 then rC l true else rC l ((l.bQ.length:Int) != 9))
def zU:Option Int:=
  some (-1)
def iA(s:List Int)(f:(Int→Option Bool)):Int→Option (Step Int (Out Unit Int))
  | x2=>(if decide (x2 < (s.length:Int)) then (idx s x2).bind fun x3=>(f x3).bind fun x4=>(if x4 then some (.stop (Out.ret x2)) else some (.next (bC (x2+1)))) else some (.stop (Out.brk ())))
def oX:(Out Unit Int)→Option Int
  | .brk ()=>zU
  | .ret r=>some r
def tP(s:List Int)(f:(Int→Option Bool)):Option Int:=
  (loop (iA s f) 0).bind (oX)
def d6(s:List Int)(f:(Int→Option Bool)):Option Bool:=
  (tP s f).bind fun x1=>some (decide (0≤x1))
def P8(x:Int):Option Bool:=
  (cK x 0 255).bind fun x1=>some x1
def A0(x:Int):Option Bool:=
  (P8 x).bind fun x1=>some (!x1)
def yD(x1:Bool):Option Bool:=
  some x1
def G5(b:List Int):Option Bool:=
  (if decide ((b.length:Int)≤1000) then (d6 b (fun y0=>A0 y0)).bind fun x2=>yD (!x2) else yD false)
def D0(c:Int):Option Bool:=
  (cK c (-1) 2).bind fun x1=>some (!x1)
def oY(x1:Bool):Option Bool:=
  some x1
def E5(h:aE):Option Bool:=
  (if (h.Bytes.length:Int) == 384 then (G5 h.Bytes).bind fun x2=>(if x2 then (if (h.Class.length:Int) == 6 then (d6 h.Class (fun y0=>D0 y0)).bind fun x3=>oY (!x3) else oY false) else oY false) else oY false)
def jG(c:Int):Option Bool:=
  (cK c 0 2).bind fun x1=>some x1
def zV(c:Int):Option Int:=
  (jG c).bind fun x1=>(if !x1 then some 0 else (idx ([8,16,40]:List Int) c).bind fun x2=>some x2)
def rY(c:Int):Option Int:=
  (jG c).bind fun x1=>(if !x1 then some 0 else (zV c).bind fun x2=>some (bC (4+x2)))
def m7(c:Int):Option Int:=
  (jG c).bind fun x1=>(if !x1 then some 0 else (rY c).bind fun x2=>need (x2≠0) (some (bC (Int.tdiv 56 x2))))
def ZM(x5:Int):Option Int:=
  some x5
def rD(b:List Int)(at_ width:Int):(Int×Int)→Option (Step (Int×Int) Int)
  | (x3,x4)=>(if decide (x4 < (((b.take ((bC (at_+width)).toNat)).drop at_.toNat).length:Int)) then (idx ((b.take ((bC (at_+width)).toNat)).drop at_.toNat) x4).bind fun x6=>some (.next (bC ((bC (256 * x3))+x6),bC (x4+1))) else some (.stop (x3)))
def ZN:Int→Option Int
  | x5=>ZM x5
def k9(b:List Int)(at_ width:Int):Option Int:=
  need (0≤(at_:Int)∧(at_:Int)≤(bC (at_+width):Int)∧(bC (at_+width):Int)≤(b.length:Int)) ((loop (rD b at_ width) (0,0)).bind (ZN))
def D1(x:Int):Option Bool:=
  some (x != 0)
def E6(b:List Int):Option Bool:=
  (d6 b (fun y0=>D1 y0)).bind fun x1=>some (!x1)
def aCN:Option Bool:=
  some true
def oZ(h:aE)(page x1 x4:Int):Int→Option (Step Int (Out Unit Bool))
  | x6=>(if decide (x6 < x4) then (rY x1).bind fun x7=>(k9 ((h.Bytes.take ((bC ((bC (page+1)) * 64)).toNat)).drop ((bC (page * 64)).toNat)) (bC (8+(bC (x6 * x7)))) 4).bind fun x8=>(cK x8 1 7).bind fun x9=>(if !x9 then some (.stop (Out.ret false)) else some (.next (bC (x6+1)))) else some (.stop (Out.brk ())))
def aCO:(Out Unit Bool)→Option Bool
  | .brk ()=>aCN
  | .ret r=>some r
def iK(h:aE)(page x1:Int)(x3:Bool):Option Bool:=
  (if x3 then some false else (m7 x1).bind fun x4=>(loop (oZ h page x1 x4) 0).bind (aCO))
def J6(h:aE)(page:Int):Option Bool:=
  (idx h.Class page).bind fun x1=>need (0≤(bC (page * 64):Int)∧(bC (page * 64):Int)≤(bC ((bC (page+1)) * 64):Int)∧(bC ((bC (page+1)) * 64):Int)≤(h.Bytes.length:Int)) ((if decide (x1 < 0) then (E6 ((h.Bytes.take ((bC ((bC (page+1)) * 64)).toNat)).drop ((bC (page * 64)).toNat))).bind fun x2=>some x2 else (idx ((h.Bytes.take ((bC ((bC (page+1)) * 64)).toNat)).drop ((bC (page * 64)).toNat)) 0).bind fun x10=>(if x10 != 171 then iK h page x1 true else (idx ((h.Bytes.take ((bC ((bC (page+1)) * 64)).toNat)).drop ((bC (page * 64)).toNat)) 1).bind fun x11=>(if x11 != x1 then iK h page x1 true else (idx ((h.Bytes.take ((bC ((bC (page+1)) * 64)).toNat)).drop ((bC (page * 64)).toNat)) 2).bind fun x12=>(m7 x1).bind fun x13=>(if x12 != x13 then iK h page x1 true else need (0≤(3:Int)∧(3:Int)≤(8:Int)∧(8:Int)≤(((h.Bytes.take ((bC ((bC (page+1)) * 64)).toNat)).drop ((bC (page * 64)).toNat)).length:Int)) ((E6 ((((h.Bytes.take ((bC ((bC (page+1)) * 64)).toNat)).drop ((bC (page * 64)).toNat)).take ((8:Int).toNat)).drop ((3:Int).toNat))).bind fun x14=>iK h page x1 (!x14)))))))
def aCP:Option Bool:=
  some true
def tQ(h:aE):Int→Option (Step Int (Out Unit Bool))
  | x3=>(if decide (x3 < 6) then (J6 h x3).bind fun x4=>(if !x4 then some (.stop (Out.ret false)) else some (.next (bC (x3+1)))) else some (.stop (Out.brk ())))
def aCQ:(Out Unit Bool)→Option Bool
  | .brk ()=>aCP
  | .ret r=>some r
def E7(h:aE):Option Bool:=
  (E5 h).bind fun x1=>(if !x1 then some false else (loop (tQ h) 0).bind (aCQ))
def wW(slot c:Int)(x1:Bool):Option Int:=
  (if x1 then some (-1) else (rY c).bind fun x2=>some (bC ((bC ((bC ((bC (Int.tdiv slot 4)) * 64))+8))+(bC ((Int.tmod slot 4) * x2)))))
def tR(slot c:Int):Option Int:=
  (lH slot).bind fun x3=>(if !x3 then wW slot c true else (jG c).bind fun x4=>(if !x4 then wW slot c true else (m7 c).bind fun x5=>wW slot c (decide (x5≤(Int.tmod slot 4)))))
def yE(h:aE)(slot:Int)(x1:Bool):Option Int:=
  (if x1 then some (-1) else (idx h.Class (bC (Int.tdiv slot 4))).bind fun x2=>some x2)
def m8(h:aE)(slot:Int):Option Int:=
  (lH slot).bind fun x3=>(if !x3 then yE h slot true else (idx h.Class (bC (Int.tdiv slot 4))).bind fun x4=>(tR slot x4).bind fun x5=>yE h slot (decide (x5 < 0)))
def qB(h:aE)(slot:Int):Option Int:=
  (E5 h).bind fun x1=>(if !x1 then some (-1) else (m8 h slot).bind fun x2=>some x2)
def zA(h:aE)(slot:Int):Option Int:=
  (qB h slot).bind fun x1=>(if decide (x1 < 0) then some 0 else (tR slot x1).bind fun x2=>(k9 h.Bytes x2 4).bind fun x3=>some x3)
def XD:Option Bool:=
  some true
def vH(x2:Int)(x4:Bool):Option (Step Int (Out Unit Bool)):=
  (if x4 then some (.stop (Out.ret false)) else some (.next (bC (x2+1))))
def lQ(h:aE)(s:aH)(c:Int):Int→Option (Step Int (Out Unit Bool))
  | x2=>(if decide (x2 < (s.aN.length:Int)) then (idx s.aN x2).bind fun x3=>(m8 h x3).bind fun x5=>(if x5 != c then vH x2 true else (zA h x3).bind fun x6=>vH x2 (decide (6 < x6))) else some (.stop (Out.brk ())))
def XE:(Out Unit Bool)→Option Bool
  | .brk ()=>XD
  | .ret r=>some r
def wX(h:aE)(s:aH)(c:Int):Option Bool:=
  (loop (lQ h s c) 0).bind (XE)
def aET:Option Bool:=
  some true
def rZ(m:Mem):Int→Option (Step Int (Out Unit Bool))
  | x5=>(if decide (x5 < (m.aB.bQ.length:Int)) then (idx m.aB.bQ x5).bind fun x6=>(wX m.aE x6 (Int.tmod x5 3)).bind fun x7=>(if !x7 then some (.stop (Out.ret false)) else some (.next (bC (x5+1)))) else some (.stop (Out.brk ())))
def aEU:(Out Unit Bool)→Option Bool
  | .brk ()=>aET
  | .ret r=>some r
def S2(m:Mem):Option Bool:=
  (loop (rZ m) 0).bind (aEU)
def r9(m:Mem):Int→Option (Step Int (Out Unit Bool))
  | x3=>(if decide (x3 < (m.aB.Global.length:Int)) then (idx m.aB.Global x3).bind fun x8=>(wX m.aE x8 x3).bind fun x9=>(if !x9 then some (.stop (Out.ret false)) else some (.next (bC (x3+1)))) else some (.stop (Out.brk ())))
def S3(m:Mem):(Out Unit Bool)→Option Bool
  | .brk ()=>S2 m
  | .ret r=>some r
def D2(m:Mem)(x1:Bool):Option Bool:=
  (if x1 then some false else (loop (r9 m) 0).bind (S3 m))
def II(m:Mem):Option Bool:=
  (E7 m.aE).bind fun x10=>(if !x10 then D2 m true else (jF m.aB).bind fun x11=>D2 m (!x11))
def A1(x5:Int):Option Int:=
  some x5
def iL(l:List aP):(Int×Int)→Option (Step (Int×Int) Int)
  | (x3,x4)=>(if decide (x4 < (l.length:Int)) then (idx l x4).bind fun x6=>some (.next (bC (x3+(x6.Rows.length:Int)),bC (x4+1))) else some (.stop (x3)))
def VD:Int→Option Int
  | x5=>A1 x5
def tS(l:List aP):Option Int:=
  (loop (iL l) (0,0)).bind (VD)
def lR(x1:Bool):Option Bool:=
  some x1
def gC(h:Int):Option Bool:=
  (cK h 32 223).bind fun x2=>(if x2 then lR (decide ((Int.tmod h 32) < 24)) else lR false)
def yF(l:List aP):Option Bool:=
  (tS l).bind fun x5=>some (decide (x5≤24))
def yG(x3:Int)(x11:List Bool):Option (Step (Int×(List Bool)) (Out Unit Bool)):=
  some (.next (bC (x3+1),x11))
def iW(x9:Int)(x10:List Bool)(x12:b8)(x13:Bool):Option (Step (Int×(List Bool)) (Out (List Bool) Bool)):=
  (if x13 then some (.stop (Out.ret false)) else need (0≤(Int.tmod x12.Handle 32:Int)∧(Int.tmod x12.Handle 32:Int) < 24) ((idx (x10:List Bool) (Int.tmod x12.Handle 32)).bind fun x14=>some (.next (bC (x9+1),x10.set ((Int.tmod x12.Handle 32).toNat) true))))
def kJ(x6:aP):(Int×(List Bool))→Option (Step (Int×(List Bool)) (Out (List Bool) Bool))
  | (x9,x10)=>(if decide (x9 < (x6.Rows.length:Int)) then (idx x6.Rows x9).bind fun x12=>(gC x12.Handle).bind fun x15=>(if !x15 then iW x9 x10 x12 true else (cK x12.aM 0 100000).bind fun x16=>(if !x16 then iW x9 x10 x12 true else need (0≤(Int.tmod x12.Handle 32:Int)∧(Int.tmod x12.Handle 32:Int) < 24) ((idx (x10:List Bool) (Int.tmod x12.Handle 32)).bind fun x17=>iW x9 x10 x12 x17))) else some (.stop (Out.brk x10)))
def OV(x3:Int):(Out (List Bool) Bool)→Option (Step (Int×(List Bool)) (Out Unit Bool))
  | .brk x11=>yG x3 x11
  | .ret r=>some (.stop (Out.ret r))
def kK(l:List aP):(Int×(List Bool))→Option (Step (Int×(List Bool)) (Out Unit Bool))
  | (x3,x4)=>(if decide (x3 < (l.length:Int)) then (idx l x3).bind fun x6=>(loop (kJ x6) (0,x4)).bind (OV x3) else some (.stop (Out.brk ())))
def OW(l:List aP):(Out Unit Bool)→Option Bool
  | .brk ()=>yF l
  | .ret r=>some r
def lA(l:List aP):Option Bool:=
  (if (l.length:Int) != 3 then some false else (loop (kK l) (0,[false,false,false,false,false,false,false,false,false,false,false,false,false,false,false,false,false,false,false,false,false,false,false,false])).bind (OW l))
def tT(x1:Bool):Option Bool:=
  some x1
def pP(h:Int):Option Bool:=
  (if h == 0 then tT true else (gC h).bind fun x2=>tT x2)
def G6(h:Int):Option Bool:=
  (pP h).bind fun x1=>some (!x1)
def D3(x1:Bool):Option Bool:=
  some x1
def DE(z:List Int):Option Bool:=
  (if (z.length:Int) == 3 then (d6 z (fun y0=>G6 y0)).bind fun x2=>D3 (!x2) else D3 false)
def v7:Option Int:=
  some (-1)
def i5(s:List aP)(f:(aP→Option Bool)):Int→Option (Step Int (Out Unit Int))
  | x2=>(if decide (x2 < (s.length:Int)) then (idx s x2).bind fun x3=>(f x3).bind fun x4=>(if x4 then some (.stop (Out.ret x2)) else some (.next (bC (x2+1)))) else some (.stop (Out.brk ())))
def mH:(Out Unit Int)→Option Int
  | .brk ()=>v7
  | .ret r=>some r
def qC(s:List aP)(f:(aP→Option Bool)):Option Int:=
  (loop (i5 s f) 0).bind (mH)
def gJ(s:List aP)(f:(aP→Option Bool)):Option Bool:=
  (qC s f).bind fun x1=>some (decide (0≤x1))
def wY:Option Int:=
  some (-1)
def jH(s:List b8)(f:(b8→Option Bool)):Int→Option (Step Int (Out Unit Int))
  | x2=>(if decide (x2 < (s.length:Int)) then (idx s x2).bind fun x3=>(f x3).bind fun x4=>(if x4 then some (.stop (Out.ret x2)) else some (.next (bC (x2+1)))) else some (.stop (Out.brk ())))
def nH:(Out Unit Int)→Option Int
  | .brk ()=>wY
  | .ret r=>some r
def sE(s:List b8)(f:(b8→Option Bool)):Option Int:=
  (loop (jH s f) 0).bind (nH)
def gT(s:List b8)(f:(b8→Option Bool)):Option Bool:=
  (sE s f).bind fun x1=>some (decide (0≤x1))
def GO:Option Int:=
  some (-1)
def eB(s:List Int)(v:Int):Int→Option (Step Int (Out Unit Int))
  | x2=>(if decide (x2 < (s.length:Int)) then (idx s x2).bind fun x3=>(if v == x3 then some (.stop (Out.ret x2)) else some (.next (bC (x2+1)))) else some (.stop (Out.brk ())))
def nS:(Out Unit Int)→Option Int
  | .brk ()=>GO
  | .ret r=>some r
def lS(s:List Int)(v:Int):Option Int:=
  (loop (eB s v) 0).bind (nS)
def nT(s:List Int)(v:Int):Option Bool:=
  (lS s v).bind fun x1=>some (decide (0≤x1))
def nI(s:aH)(k0:Int):Option Bool:=
  (nT s.aN k0).bind fun x1=>some x1
def v8:Option Int:=
  some (-1)
def i6(s:List aH)(f:(aH→Option Bool)):Int→Option (Step Int (Out Unit Int))
  | x2=>(if decide (x2 < (s.length:Int)) then (idx s x2).bind fun x3=>(f x3).bind fun x4=>(if x4 then some (.stop (Out.ret x2)) else some (.next (bC (x2+1)))) else some (.stop (Out.brk ())))
def mI:(Out Unit Int)→Option Int
  | .brk ()=>v8
  | .ret r=>some r
def qD(s:List aH)(f:(aH→Option Bool)):Option Int:=
  (loop (i6 s f) 0).bind (mI)
def gK(s:List aH)(f:(aH→Option Bool)):Option Bool:=
  (qD s f).bind fun x1=>some (decide (0≤x1))
def A2(x1:Bool):Option Bool:=
  some x1
def E8(l:aB)(slot:Int):Option Bool:=
  (gK l.Global (fun y0=>nI y0 slot)).bind fun x2=>(if x2 then A2 true else (gK l.bQ (fun y0=>nI y0 slot)).bind fun x3=>A2 x3)
def G7(m:Mem)(slot:Int):Option Int:=
  (m8 m.aE slot).bind fun x1=>(if decide (x1 < 0) then some 0 else (E8 m.aB slot).bind fun x2=>(if x2 then some 1 else (zA m.aE slot).bind fun x3=>(if decide (6 < x3) then some 2 else some 3)))
def tU(x1:Bool):Option Bool:=
  some x1
def zW(m:Mem)(h:Int):Option Bool:=
  (gC h).bind fun x2=>(if x2 then (G7 m (Int.tmod h 32)).bind fun x3=>(if x3 == 3 then (zA m.aE (Int.tmod h 32)).bind fun x4=>tU (x4 == (bC (Int.tdiv h 32))) else tU false) else tU false)
def qE(x1:Bool):Option Bool:=
  some x1
def yH(r_:b8)(k0:aD):Option Bool:=
  (zW k0.Mem r_.Handle).bind fun x2=>(if !x2 then qE true else qE (decide (k0.aK.aM < r_.aM)))
def D4(l:aP)(k0:aD):Option Bool:=
  (gT l.Rows (fun y0=>yH y0 k0)).bind fun x1=>some x1
def o4(b:aD)(x1:Bool):Option Bool:=
  (if x1 then some false else (gJ b.bB (fun y0=>D4 y0 b)).bind fun x2=>some (!x2))
def J7(b:aD):Option Bool:=
  (II b.Mem).bind fun x3=>(if !x3 then o4 b true else (m6 b.aK).bind fun x4=>(if !x4 then o4 b true else (lA b.bB).bind fun x5=>(if !x5 then o4 b true else (DE b.lZ).bind fun x6=>o4 b (!x6))))
def A3:Option Int:=
  some (-1)
def lB(s:List eM)(f:(eM→Option Bool)):Int→Option (Step Int (Out Unit Int))
  | x2=>(if decide (x2 < (s.length:Int)) then (idx s x2).bind fun x3=>(f x3).bind fun x4=>(if x4 then some (.stop (Out.ret x2)) else some (.next (bC (x2+1)))) else some (.stop (Out.brk ())))
def qF:(Out Unit Int)→Option Int
  | .brk ()=>A3
  | .ret r=>some r
def wD(s:List eM)(f:(eM→Option Bool)):Option Int:=
  (loop (lB s f) 0).bind (qF)
def lC(s:List eM)(f:(eM→Option Bool)):Option Bool:=
  (wD s f).bind fun x1=>some (decide (0≤x1))
def G8(x4:Bool):Option Bool:=
  some x4
def G9(x7:Bool):Option Bool:=
  some x7
def A4(o_:eM)(x3:Bool):Option Bool:=
  (if x3 then some false else (if o_.Kind == 1 then (cK o_.eR 0 100).bind fun x5=>(if x5 then (cK o_.eS 0 65535).bind fun x6=>G8 x6 else G8 false) else (if o_.eR == 0 then G9 (o_.eS == 0) else G9 false)))
def m9(o_:eM)(x1:Bool):Option Bool:=
  (cK o_.Kind 1 7).bind fun x2=>(if !x2 then some false else (if x1 then (cK o_.Cell 0 1).bind fun x8=>(if !x8 then A4 o_ true else A4 o_ false) else A4 o_ (o_.Cell != 0)))
def H0(o_:eM):Option Bool:=
  (if o_.Kind == 1 then m9 o_ true else (if o_.Kind == 2 then m9 o_ true else (if o_.Kind == 3 then m9 o_ true else m9 o_ (o_.Kind == 7))))
def yI(o_:eM):Option Bool:=
  (H0 o_).bind fun x1=>some (!x1)
def vI(x1:Bool):Option Bool:=
  some x1
def D5(q:Queue):Option Bool:=
  (if decide (12 < (q.gH.length:Int)) then vI true else (lC q.gH (fun y0=>yI y0)).bind fun x2=>vI x2)
def A5(x1:Bool):Option Bool:=
  some x1
def E9(todo:List Queue):Option Bool:=
  (if (todo.length:Int) == 3 then (gI todo (fun y0=>D5 y0)).bind fun x2=>A5 (!x2) else A5 false)
def tV(h:Int):Option Bool:=
  (pP h).bind fun x1=>some (!x1)
def wZ(x1:Bool):Option Bool:=
  some x1
def NL(j:bX):Option Bool:=
  (if !j.gG then some (decide (j=(⟨false,(⟨0,0,0,0⟩:eM),0,0,(⟨0,0,0,0,0,0,0,0,0,false⟩:Sub),0,0,0,0⟩:bX))) else (H0 j.Op).bind fun x2=>(if x2 then (pP j.H).bind fun x3=>(if x3 then (pP j.Old).bind fun x4=>wZ x4 else wZ false) else wZ false))
def A6(j:bX):Option Bool:=
  (NL j).bind fun x1=>some (!x1)
def g7(x1:Bool):Option Bool:=
  some x1
def qG(s:aC):Option Bool:=
  (J7 s.aD).bind fun x2=>(if x2 then (if (s.Cells.length:Int) == 2 then (if (s.aT.length:Int) == 3 then (E9 s.cZ).bind fun x3=>(if x3 then (cK s.aQ 0 1000000).bind fun x4=>(if x4 then (d6 s.Cells (fun y0=>tV y0)).bind fun x5=>(if !x5 then (hU s.aT (fun y0=>A6 y0)).bind fun x6=>g7 (!x6) else g7 false) else g7 false) else g7 false) else g7 false) else g7 false) else g7 false)
def OX(x y:Int):Option (Int×Int):=
  some (IntKind.u64.wrap ((IntKind.u64.wrap ((IntKind.u64.wrap ((sU .u64 x 32) * (sU .u64 y 32)))+(sU .u64 (IntKind.u64.wrap ((IntKind.u64.wrap ((sU .u64 x 32) * (fV .and .u64 y 4294967295)))+(sU .u64 (IntKind.u64.wrap ((fV .and .u64 x 4294967295) * (fV .and .u64 y 4294967295))) 32))) 32)))+(sU .u64 (IntKind.u64.wrap ((fV .and .u64 (IntKind.u64.wrap ((IntKind.u64.wrap ((sU .u64 x 32) * (fV .and .u64 y 4294967295)))+(sU .u64 (IntKind.u64.wrap ((fV .and .u64 x 4294967295) * (fV .and .u64 y 4294967295))) 32))) 4294967295)+(IntKind.u64.wrap ((fV .and .u64 x 4294967295) * (sU .u64 y 32))))) 32)),IntKind.u64.wrap (x * y))
def sA(x y:Int):Option (Int×Int):=
  (OX x y).bind fun x1=>some (x1.1,x1.2)
def SK(x7:List eM):Option (List eM):=
  some x7
def kR:((List eM)×Int)→Option (Step ((List eM)×Int) (List eM))
  | (x5,x6)=>(if decide (x6 < (x5.length:Int)) then need (0≤(x6:Int)∧(x6:Int)≤(x5.length:Int)) (need (0≤(x6:Int)∧(x6:Int)≤(x5.length:Int)) (some (.next (cY x5 x6.toNat ((x5.take x6.toNat).drop 0),bC (x6+((min ((x5.take x6.toNat).drop 0).length (x5.length - x6.toNat):Nat):Int)))))) else some (.stop (x5)))
def SL:(List eM)→Option (List eM)
  | x7=>SK x7
def nU(x:List eM)(x1:Int×Int)(x2:Bool):Option (List eM):=
  (if x2 then none else need (0≤(IntKind.i64.wrap x1.2:Int)∧(IntKind.i64.wrap x1.2:Int)≤4294967296) ((loop (kR) (cY (List.replicate ((IntKind.i64.wrap x1.2).toNat) (⟨0,0,0,0⟩:eM)) 0 x,((min x.length ((List.replicate ((IntKind.i64.wrap x1.2).toNat) (⟨0,0,0,0⟩:eM):List eM).length - 0):Nat):Int))).bind (SL)))
def vJ(x:List eM)(count:Int):Option (List eM):=
  (if decide (count < 0) then none else (sA (IntKind.u64.wrap (x.length:Int)) (IntKind.u64.wrap count)).bind fun x1=>(if decide (0 < x1.1) then nU x x1 true else nU x x1 (decide (9223372036854775807 < x1.2))))
def IJ(x8:aC):Option aC:=
  some x8
def zC(x6:Int)(x9:aC):Option (Step (Int×aC) aC):=
  some (.next (bC (x6+1),x9))
def lW(n:Int)(x3:aC):(Int×aC)→Option (Step (Int×aC) aC)
  | (x6,x7)=>(if decide (x6 < (x3.cZ.length:Int)) then (idx x7.cZ x6).bind fun x10=>(vJ ([(⟨4,0,0,0⟩:eM)]) n).bind fun x11=>need (x10.gH.length+x11.length≤1073741824)<|zC x6 ({x7 with cZ:=x7.cZ.set x6.toNat (⟨x10.gH++x11⟩:Queue)}:aC) else some (.stop (x7)))
def IK:aC→Option aC
  | x8=>IJ x8
def lX(n:Int)(x2:Bool)(x3:aC):Option aC:=
  (if x2 then some x3 else (loop (lW n x3) (0,x3)).bind (IK))
def rE(s:aC)(n:Int):Option aC:=
  (oT s).bind fun x1=>(qG s).bind fun x12=>(if !x12 then lX n true x1 else (HZ s).bind fun x13=>(if !x13 then lX n true x1 else (cK n 0 12).bind fun x14=>lX n (!x14) x1))
def iX(kind a_:Int):Option Sub:=
  some (⟨kind,a_,0,0,0,0,0,0,0,false⟩:Sub)
def dL(s:aC)(kind w_ handle val code:Int)(x1:bX):Option aC:=
  some ({s with Log:=s.Log++([(⟨kind,w_,x1.aQ,x1.Op.Cell,handle,val,code⟩:Ev)])}:aC)
def dA(s:aC)(kind w_ handle val code:Int):Option aC:=
  (idx s.aT w_).bind fun x1=>need (s.Log.length+([(⟨kind,w_,x1.aQ,x1.Op.Cell,handle,val,code⟩:Ev)]).length≤1073741824)<|dL s kind w_ handle val code x1
def vK(s:List eM)(i j:Int):Option (List eM):=
  need (0≤(i:Int)∧(i:Int)≤(j:Int)∧(j:Int)≤((s.length:Int):Int)∧((s.length:Int):Int)≤(s.length:Int)) ((if i == j then some s else need (0≤(i:Int)∧(i:Int)≤(s.length:Int)) (need (0≤(j:Int)∧(j:Int)≤(s.length:Int)) (need (i.toNat≤j.toNat) (need (0≤(((((cY s i.toNat (s.drop j.toNat)).take (i.toNat+(s.length - j.toNat))).drop 0).length:Int):Int)∧(((((cY s i.toNat (s.drop j.toNat)).take (i.toNat+(s.length - j.toNat))).drop 0).length:Int):Int)≤((s.length:Int):Int)∧((s.length:Int):Int)≤((cY s i.toNat (s.drop j.toNat)).length:Int)) (some (((cY s i.toNat (s.drop j.toNat)).take (i.toNat+(s.length - j.toNat))).drop 0)))))))
def bP(j:bX)(code:Int):Option bX:=
  some ({j with Pc:=9,Code:=code}:bX)
def dU(s:aC)(w_:Int)(x4:(List eM))(x5:bX):Option aC:=
  (idx s.aT w_).bind fun x6=>(dA ({s with aT:=s.aT.set w_.toNat x5,cZ:=s.cZ.set w_.toNat (⟨x4⟩:Queue),aQ:=bC (s.aQ+1)}:aC) 1 w_ 0 0 0).bind fun x7=>some x7
def iU(s:aC)(w_:Int)(x3:eM)(x4:(List eM))(x9:Bool):Option aC:=
  (if x9 then (iX 5 0).bind fun x10=>(idx s.aD.aK.bG w_).bind fun x11=>(if x11.On then (bP (⟨true,x3,bC (s.aQ+1),0,x10,0,0,0,0⟩:bX) 1).bind fun x12=>dU s w_ x4 x12 else dU s w_ x4 (⟨true,x3,bC (s.aQ+1),0,x10,0,0,0,0⟩:bX)) else (if x3.Kind == 4 then (iX 3 0).bind fun x13=>dU s w_ x4 (⟨true,x3,bC (s.aQ+1),0,x13,0,0,0,0⟩:bX) else dU s w_ x4 (⟨true,x3,bC (s.aQ+1),0,(⟨0,0,0,0,0,0,0,0,0,false⟩:Sub),0,0,0,0⟩:bX)))
def nV(s:aC)(w_:Int)(x1:Bool):Option aC:=
  (if x1 then some s else (idx s.cZ w_).bind fun x2=>(idx x2.gH 0).bind fun x3=>(vK x2.gH 0 1).bind fun x4=>(if x3.Kind == 1 then (iX 1 x3.eR).bind fun x8=>dU s w_ x4 (⟨true,x3,bC (s.aQ+1),0,x8,0,0,0,0⟩:bX) else (if x3.Kind == 2 then iU s w_ x3 x4 true else iU s w_ x3 x4 (x3.Kind == 5))))
def vL(s:aC)(w_:Int):Option aC:=
  (idx s.cZ w_).bind fun x14=>(if (x14.gH.length:Int) == 0 then nV s w_ true else nV s w_ (s.aQ == 1000000))
def bI(s:Sub)(code:Int):Option Sub:=
  some ({s with Code:=code,cQ:=true}:Sub)
def ZO:Option Int:=
  some (-1)
def yJ(x2:Int)(x3:Bool):Option (Step Int (Out Unit Int)):=
  (if x3 then some (.stop (Out.ret x2)) else some (.next (bC (x2+1))))
def iY(size:Int):Int→Option (Step Int (Out Unit Int))
  | x2=>(if decide (x2 < 3) then (if decide (1≤size) then (zV x2).bind fun x4=>yJ x2 (decide (size≤x4)) else yJ x2 false) else some (.stop (Out.brk ())))
def ZP:(Out Unit Int)→Option Int
  | .brk ()=>ZO
  | .ret r=>some r
def HA(size:Int):Option Int:=
  (loop (iY size) 0).bind (ZP)
def fA(w_:Int):Option Bool:=
  (cK w_ 0 2).bind fun x1=>some x1
def D6(w_ c:Int)(x1:Bool):Option Int:=
  (if x1 then some (-1) else some (bC ((bC (w_ * 3))+c)))
def IL(w_ c:Int):Option Int:=
  (fA w_).bind fun x2=>(if !x2 then D6 w_ c true else (jG c).bind fun x3=>D6 w_ c (!x3))
def tW(s:aH):Option (Int×aH):=
  (if decide ((bC ((s.aN.length:Int) - 1)) < 0) then some ((-1),s) else (idx s.aN (bC ((s.aN.length:Int) - 1))).bind fun x1=>need (0≤(bC ((s.aN.length:Int) - 1):Int)∧(bC ((s.aN.length:Int) - 1):Int)≤(bC ((s.aN.length:Int) - 1):Int)∧(bC ((s.aN.length:Int) - 1):Int)≤(s.aN.length:Int)) (some (x1,(⟨(s.aN.take ((bC ((s.aN.length:Int) - 1)).toNat)).drop 0⟩:aH))))
def yK(x1:aB)(x2:Int)(x3:Bool):Option (aB×Int):=
  (if x3 then some (x1,(-1)) else (idx x1.bQ x2).bind fun x4=>(tW x4).bind fun x5=>some ((⟨x1.Global,x1.bQ.set x2.toNat x5.2⟩:aB),x5.1))
def HB(l:aB)(w_ c:Int):Option (aB×Int):=
  (gR l).bind fun x1=>(IL w_ c).bind fun x2=>(jF l).bind fun x6=>(if !x6 then yK x1 x2 true else yK x1 x2 (decide (x2 < 0)))
def qH(c:Int)(x1:aB)(x2:Bool):Option (aB×Int):=
  (if x2 then some (x1,(-1)) else (idx x1.Global c).bind fun x3=>(tW x3).bind fun x4=>some ((⟨x1.Global.set c.toNat x4.2,x1.bQ⟩:aB),x4.1))
def yL(l:aB)(c:Int):Option (aB×Int):=
  (gR l).bind fun x1=>(jF l).bind fun x5=>(if !x5 then qH c x1 true else (jG c).bind fun x6=>qH c x1 (!x6))
def jI(width:Int):Option Bool:=
  (cK width 1 7).bind fun x1=>some x1
def aEV(x8:List UInt8):Option (List UInt8):=
  some x8
def D7:(Int×(List UInt8)×Int)→Option (Step (Int×(List UInt8)×Int) (List UInt8))
  | (x5,x6,x7)=>(if decide (0≤x7) then (idx x6 x7).bind fun x9=>some (.next (sU .i64 x5 8,x6.set x7.toNat (u8 x5),bC (x7 - 1))) else some (.stop (x6)))
def aEW:(List UInt8)→Option (List UInt8)
  | x8=>aEV x8
def xA(n width:Int)(x1:Bool):Option (List UInt8):=
  (if x1 then some ([]) else need (0≤(width:Int)∧(width:Int)≤4294967296) ((loop (D7) (n,List.replicate (width.toNat) 0,bC (width - 1))).bind (aEW)))
def zD(n width:Int):Option (List UInt8):=
  (jI width).bind fun x10=>(if !x10 then xA n width true else (if decide (n < 0) then xA n width true else need (0≤(IntKind.u64.wrap (bC (8 * width)):Int)) (xA n width (decide ((aFY .i64 1 (IntKind.u64.wrap (bC (8 * width))))≤n)))))
def P9(b x5:List Int):Option (List Int):=
  need (x5.length=b.length) (some x5)
def A7(b:List Int)(at_:Int)(text:List UInt8):((List Int)×Int)→Option (Step ((List Int)×Int) (List Int))
  | (x3,x4)=>need (x3.length=b.length) ((if decide (x4 < (text.length:Int)) then (idx text x4).bind fun x6=>(idx x3 (bC (at_+x4))).bind fun x7=>some (.next (x3.set ((bC (at_+x4)).toNat) (x6.toNat:Int),bC (x4+1))) else some (.stop (x3))))
def QA(b:List Int):(List Int)→Option (List Int)
  | x5=>P9 b x5
def tX(b:List Int)(at_:Int)(text:List UInt8):Option (List Int):=
  (loop (A7 b at_ text) (b,0)).bind (QA b)
def A8(page index:Int)(x1:Bool):Option Int:=
  (if x1 then some (-1) else some (bC ((bC (page * 4))+index)))
def J8(page index:Int):Option Int:=
  (cK page 0 5).bind fun x2=>(if !x2 then A8 page index true else (cK index 0 3).bind fun x3=>A8 page index (!x3))
def aEX(c:Int)(x1:aE)(x2:Int)(x13 x14:List Int):Option (aE×(List Int)):=
  some ((⟨x14,x1.Class.set x2.toNat c⟩:aE),x13)
def K7(x10:List Int)(x11 x15:Int)(x16:List Int):Option (Step ((List Int)×Int×(List Int)) ((List Int)×(List Int))):=
  need (x10.length+([x15]).length≤1073741824) (some (.next (x10++([x15]),bC (x11+1),x16)))
def D8(c x2 x6:Int):((List Int)×Int×(List Int))→Option (Step ((List Int)×Int×(List Int)) ((List Int)×(List Int)))
  | (x10,x11,x12)=>(if decide (x11 < x6) then (J8 x2 x11).bind fun x15=>(tR x15 c).bind fun x17=>(zD 1 4).bind fun x18=>(tX x12 x17 x18).bind fun x19=>K7 x10 x11 x15 x19 else some (.stop ((x10,x12))))
def aEY(c:Int)(x1:aE)(x2:Int):((List Int)×(List Int))→Option (aE×(List Int))
  | (x13,x14)=>aEX c x1 x2 x13 x14
def K8(c:Int)(x1:aE)(x2:Int)(x5:List Int):Option (aE×(List Int)):=
  (m7 c).bind fun x6=>(loop (D8 c x2 x6) (([]:List Int),0,x5)).bind (aEY c x1 x2)
def xB(c:Int)(x1:aE)(x2:Int)(x3:Bool):Option (aE×(List Int)):=
  (if x3 then some (x1,([]:List Int)) else (idx x1.Class x2).bind fun x4=>need (0≤(bC (x2 * 64):Int)∧(bC (x2 * 64):Int)≤(x1.Bytes.length:Int))<|(m7 c).bind fun x20=>K8 c x1 x2 (cY x1.Bytes ((bC (x2 * 64)).toNat) ([171,c,x20]:List Int)))
def DF(h:aE)(c:Int):Option (aE×(List Int)):=
  (rX h).bind fun x1=>(lS h.Class (-1)).bind fun x2=>(E7 h).bind fun x21=>(if !x21 then xB c x1 x2 true else (jG c).bind fun x22=>(if !x22 then xB c x1 x2 true else xB c x1 x2 (decide (x2 < 0))))
def F6(x4:Int)(x5:Mem):Option (Mem×Int):=
  some (x5,x4)
def F7(c:Int)(x1:aE×(List Int))(x2:Mem):Option (Mem×Int):=
  (if (x1.2.length:Int) == 0 then some (x2,(-1)) else (idx x2.aB.Global c).bind fun x3=>need (0≤(1:Int)∧(1:Int)≤(x1.2.length:Int)) (need (x3.aN.length+((x1.2.take x1.2.length).drop ((1:Int).toNat)).length≤1073741824) ((idx x1.2 0).bind fun x6=>F6 x6 (⟨x2.aE,(⟨x2.aB.Global.set c.toNat (⟨x3.aN++((x1.2.take x1.2.length).drop ((1:Int).toNat))⟩:aH),x2.aB.bQ⟩:aB)⟩:Mem))))
def HC(m:Mem)(c:Int):Option (Mem×Int):=
  (DF m.aE c).bind fun x1=>(gR m.aB).bind fun x7=>F7 c x1 (⟨x1.1,x7⟩:Mem)
def vM(slot gen:Int)(x1:Bool):Option Int:=
  (if x1 then some 0 else some (bC ((bC (gen * 32))+slot)))
def K9(slot gen:Int):Option Int:=
  (lH slot).bind fun x2=>(if !x2 then vM slot gen true else (cK gen 1 6).bind fun x3=>vM slot gen (!x3))
def D9(m:Mem)(slot:Int):Option Int:=
  (zA m.aE slot).bind fun x1=>(K9 slot x1).bind fun x2=>some x2
def gQ(s:Sub)(x3:Int)(x4:aD):Option (Sub×aD):=
  (if decide (0≤x3) then (D9 x4.Mem x3).bind fun x5=>(bI ({s with Out:=x5}:Sub) 0).bind fun x6=>some (x6,x4) else (if s.Pc == 3 then (bI s 3).bind fun x7=>some (x7,x4) else some (({s with Pc:=bC (s.Pc+1)}:Sub),x4)))
def mB(s:Sub)(b:aD)(x1:Int)(x9:Bool):Option (Sub×aD):=
  (if x9 then (yL b.Mem.aB x1).bind fun x10=>gQ s x10.2 ({b with Mem:=(⟨b.Mem.aE,x10.1⟩:Mem)}:aD) else (if s.Pc == 2 then (HC b.Mem x1).bind fun x11=>gQ s x11.2 ({b with Mem:=x11.1}:aD) else (bI s 1).bind fun x12=>some (x12,b)))
def qI(s:Sub)(b:aD)(w_:Int):Option (Sub×aD):=
  (HA s.A).bind fun x1=>(if decide (x1 < 0) then (bI s 2).bind fun x2=>some (x2,b) else (if s.Pc == 0 then (HB b.Mem.aB w_ x1).bind fun x8=>gQ s x8.2 ({b with Mem:=(⟨b.Mem.aE,x8.1⟩:Mem)}:aD) else (if s.Pc == 1 then mB s b x1 true else mB s b x1 (s.Pc == 3))))
def nW(x1:Bool):Option Bool:=
  some x1
def o5(r_:b8)(k0:Int):Option Bool:=
  (gC r_.Handle).bind fun x2=>(if x2 then nW ((Int.tmod r_.Handle 32) == k0) else nW false)
def A9(own:aP)(k0:Int):Option Bool:=
  (gT own.Rows (fun y0=>o5 y0 k0)).bind fun x1=>some x1
def HD(l:List aP)(slot:Int):Option Bool:=
  (gJ l (fun y0=>A9 y0 slot)).bind fun x1=>some x1
def vN(l:List aP)(w_ h e_:Int)(x1:Bool):Option ((List aP)×Bool):=
  (if x1 then (jO l).bind fun x2=>some (x2,false) else (jO l).bind fun x3=>(idx x3 w_).bind fun x4=>need (x4.Rows.length+([(⟨h,e_⟩:b8)]).length≤1073741824) ((lA (x3.set w_.toNat (⟨x4.Rows++([(⟨h,e_⟩:b8)])⟩:aP))).bind fun x5=>(if !x5 then (jO l).bind fun x6=>some (x6,false) else some (x3.set w_.toNat (⟨x4.Rows++([(⟨h,e_⟩:b8)])⟩:aP),true))))
def EA(l:List aP)(w_ h e_:Int):Option ((List aP)×Bool):=
  (lA l).bind fun x7=>(if !x7 then vN l w_ h e_ true else (fA w_).bind fun x8=>vN l w_ h e_ (!x8))
def lD(s:Sub)(b:aD)(w_:Int)(x3:Bool):Option (Sub×aD):=
  (if x3 then (bI s 4).bind fun x4=>some (x4,b) else (EA b.bB w_ s.A s.E).bind fun x5=>(bI s 0).bind fun x6=>some (x6,({b with bB:=x5.1}:aD)))
def lE(s:Sub)(b:aD)(w_:Int)(x1:Bool):Option (Sub×aD):=
  (if x1 then (bI s 1).bind fun x2=>some (x2,b) else (zW b.Mem s.A).bind fun x7=>(if !x7 then lD s b w_ true else (HD b.bB (Int.tmod s.A 32)).bind fun x8=>lD s b w_ x8))
def nX(s:Sub)(b:aD)(w_:Int):Option (Sub×aD):=
  (if s.Pc == 0 then some (({s with Pc:=1,E:=b.aK.aM}:Sub),b) else (if s.Pc != 1 then lE s b w_ true else (cK s.E 0 b.aK.aM).bind fun x9=>lE s b w_ (!x9)))
def o6(w_:Int)(x1:aK)(x4:Bool):Option (aK×Bool):=
  (if x4 then some (x1,true) else (idx x1.bG w_).bind fun x5=>(if decide (x5.Seen < 2) then some ((⟨x1.aM,x1.bG.set w_.toNat ({x5 with Seen:=bC (x5.Seen+1)}:iI)⟩:aK),false) else some ((⟨x1.aM,x1.bG.set w_.toNat ({x5 with fG:=true,Seen:=0}:iI)⟩:aK),true)))
def BA(w_ e_:Int)(x1:aK)(x2:Bool):Option (aK×Bool):=
  (if x2 then some (x1,false) else (idx x1.bG w_).bind fun x3=>(if !x3.On then o6 w_ x1 true else (if x3.fG then o6 w_ x1 true else o6 w_ x1 (x3.aM == e_))))
def J9(c:aK)(w_ e_:Int):Option (aK×Bool):=
  (jN c).bind fun x1=>(m6 c).bind fun x6=>(if !x6 then BA w_ e_ x1 true else (fA w_).bind fun x7=>BA w_ e_ x1 (!x7))
def BC(x1:aK)(x2:Bool):Option (aK×Bool):=
  (if x2 then some (x1,false) else some ((⟨bC (x1.aM+1),x1.bG⟩:aK),true))
def R9(c:aK)(e_:Int):Option (aK×Bool):=
  (jN c).bind fun x1=>(m6 c).bind fun x3=>(if !x3 then BC x1 true else (if c.aM != e_ then BC x1 true else BC x1 (c.aM == 100000)))
def j6(s:Sub)(b:aD)(x4:aK×Bool)(x5:Int):Option (Sub×aD):=
  (bI ({s with Out:=x5}:Sub) 0).bind fun x6=>some (x6,({b with aK:=x4.1}:aD))
def j7(s:Sub)(b:aD)(x1:Bool):Option (Sub×aD):=
  (if x1 then (J9 b.aK s.B s.E).bind fun x2=>(if !x2.2 then (bI s 8).bind fun x3=>some (x3,({b with aK:=x2.1}:aD)) else (if (bC (s.B+1)) == 3 then some (({s with Pc:=2,B:=bC (s.B+1)}:Sub),({b with aK:=x2.1}:aD)) else some (({s with B:=bC (s.B+1)}:Sub),({b with aK:=x2.1}:aD)))) else (if s.Pc == 2 then (R9 b.aK s.E).bind fun x4=>(if x4.2 then j6 s b x4 1 else j6 s b x4 s.Out) else (bI s 1).bind fun x7=>some (x7,b)))
def nA(s:Sub)(b:aD):Option (Sub×aD):=
  (if s.Pc == 0 then some (({s with Pc:=1,E:=b.aK.aM,B:=0}:Sub),b) else (if s.Pc == 1 then (fA s.B).bind fun x8=>j7 s b x8 else j7 s b false))
def BD(x1:Bool):Option Bool:=
  some x1
def FA(l:List aP)(w_ i:Int):Option Bool:=
  (fA w_).bind fun x2=>(if x2 then (idx l w_).bind fun x3=>(cK i 0 (bC ((x3.Rows.length:Int) - 1))).bind fun x4=>BD x4 else BD false)
def HE(x1:Bool):Option Bool:=
  some x1
def MN(r_:b8)(e_:Int):Option Bool:=
  (if decide (2≤e_) then HE (decide (r_.aM≤(bC (e_ - 2)))) else HE false)
def FB(s:Sub)(b:aD):Option (Sub×aD):=
  (bI s 0).bind fun x3=>some (x3,b)
def eI(s:Sub)(b:aD)(w_:Int):Int→Option (Step Int (Out Unit (Sub×aD)))
  | x2=>(idx b.bB w_).bind fun x4=>(if decide (x2 < (x4.Rows.length:Int)) then (idx x4.Rows x2).bind fun x5=>(MN x5 s.E).bind fun x6=>(if x6 then some (.stop (Out.ret (({s with Pc:=2,Row:=x2,B:=0,H:=x5.Handle}:Sub),b))) else some (.next (bC (x2+1)))) else some (.stop (Out.brk ())))
def QB(s:Sub)(b:aD):(Out Unit (Sub×aD))→Option (Sub×aD)
  | .brk ()=>FB s b
  | .ret r=>some r
def nB(s:Sub)(b:aD)(w_:Int):Option (Sub×aD):=
  (loop (eI s b w_) (if s.Row < 0 then 0 else s.Row)).bind (QB s b)
def zE(s:List b8)(i j:Int):Option (List b8):=
  need (0≤(i:Int)∧(i:Int)≤(j:Int)∧(j:Int)≤((s.length:Int):Int)∧((s.length:Int):Int)≤(s.length:Int)) ((if i == j then some s else need (0≤(i:Int)∧(i:Int)≤(s.length:Int)) (need (0≤(j:Int)∧(j:Int)≤(s.length:Int)) (need (i.toNat≤j.toNat) (need (0≤(((((cY s i.toNat (s.drop j.toNat)).take (i.toNat+(s.length - j.toNat))).drop 0).length:Int):Int)∧(((((cY s i.toNat (s.drop j.toNat)).take (i.toNat+(s.length - j.toNat))).drop 0).length:Int):Int)≤((s.length:Int):Int)∧((s.length:Int):Int)≤((cY s i.toNat (s.drop j.toNat)).length:Int)) (some (((cY s i.toNat (s.drop j.toNat)).take (i.toNat+(s.length - j.toNat))).drop 0)))))))
def yN(w_ i:Int)(x1:(List aP))(x2:Bool):Option ((List aP)×Bool):=
  (if x2 then some (x1,false) else (idx x1 w_).bind fun x3=>(zE x3.Rows i (bC (i+1))).bind fun x4=>some (x1.set w_.toNat (⟨x4⟩:aP),true))
def HF(l:List aP)(w_ i:Int):Option ((List aP)×Bool):=
  (jO l).bind fun x1=>(lA l).bind fun x5=>(if !x5 then yN w_ i x1 true else (FA l w_ i).bind fun x6=>yN w_ i x1 (!x6))
def IM(x3 x5:List Int):Option (aE×Bool):=
  some ((⟨x5,x3⟩:aE),true)
def BE(slot gen x1:Int)(x2 x3:List Int)(x4:Bool):Option (aE×Bool):=
  (if x4 then some ((⟨x2,x3⟩:aE),false) else (tR slot x1).bind fun x6=>(zD gen 4).bind fun x7=>(tX x2 x6 x7).bind fun x8=>IM x3 x8)
def IN(slot gen x1:Int)(x2 x3:List Int):Option (aE×Bool):=
  (if decide (x1 < 0) then BE slot gen x1 x2 x3 true else (cK gen 1 7).bind fun x9=>BE slot gen x1 x2 x3 (!x9))
def QC(h:aE)(slot gen:Int):Option (aE×Bool):=
  (rX h).bind fun x10=>(qB h slot).bind fun x11=>IN slot gen x11 x10.Bytes x10.Class
def vO(c slot:Int)(x1:aB)(x2:Int)(x3:Bool):Option (aB×Bool):=
  (if x3 then some (x1,false) else (idx x1.bQ x2).bind fun x4=>(if decide (2≤(x4.aN.length:Int)) then (idx x1.Global c).bind fun x5=>need (x5.aN.length+([slot]).length≤1073741824) (some ((⟨x1.Global.set c.toNat (⟨x5.aN++([slot])⟩:aH),x1.bQ⟩:aB),true)) else need (x4.aN.length+([slot]).length≤1073741824) (some ((⟨x1.Global,x1.bQ.set x2.toNat (⟨x4.aN++([slot])⟩:aH)⟩:aB),true))))
def XF(l:aB)(w_ c slot:Int):Option (aB×Bool):=
  (gR l).bind fun x1=>(IL w_ c).bind fun x2=>(jF l).bind fun x6=>(if !x6 then vO c slot x1 x2 true else (if decide (x2 < 0) then vO c slot x1 x2 true else (lH slot).bind fun x7=>(if !x7 then vO c slot x1 x2 true else (E8 l slot).bind fun x8=>vO c slot x1 x2 x8)))
def LA(x3:Mem):Option Mem:=
  some x3
def LB(m:Mem)(w_ h:Int)(x2:Mem):Option Mem:=
  (if decide ((bC ((bC (Int.tdiv h 32))+1))≤6) then (m8 m.aE (Int.tmod h 32)).bind fun x4=>(XF m.aB w_ x4 (Int.tmod h 32)).bind fun x5=>LA (⟨x2.aE,x5.1⟩:Mem) else LA x2)
def NM(m:Mem)(w_ h:Int):Option Mem:=
  (QC m.aE (Int.tmod h 32) (bC ((bC (Int.tdiv h 32))+1))).bind fun x1=>(gR m.aB).bind fun x6=>LB m w_ h (⟨x1.1,x6⟩:Mem)
def dI(s:Sub)(b:aD)(w_:Int)(x5:Bool):Option (Sub×aD):=
  (if x5 then (HF b.bB w_ s.Row).bind fun x6=>(NM b.Mem w_ s.H).bind fun x7=>some (({s with Pc:=1,Out:=bC (s.Out+1)}:Sub),({b with Mem:=x7,bB:=x6.1}:aD)) else (bI s 1).bind fun x8=>some (x8,b))
def d7(s:Sub)(b:aD)(w_:Int)(x1 x3:Bool):Option (Sub×aD):=
  (if x3 then (idx b.lZ s.B).bind fun x4=>(if x4 == s.H then some (({s with Pc:=1,Row:=bC (s.Row+1)}:Sub),b) else (if (bC (s.B+1)) == 3 then some (({s with Pc:=3,B:=bC (s.B+1)}:Sub),b) else some (({s with B:=bC (s.B+1)}:Sub),b))) else (if s.Pc == 3 then (if x1 then (idx b.bB w_).bind fun x9=>(idx x9.Rows s.Row).bind fun x10=>(MN x10 s.E).bind fun x11=>dI s b w_ x11 else dI s b w_ false) else dI s b w_ false))
def eZ(s:Sub)(b:aD)(w_:Int)(x1:Bool):Option (Sub×aD):=
  (if s.Pc == 0 then some (({s with Pc:=1,E:=b.aK.aM,Row:=0}:Sub),b) else (if s.Pc == 1 then (nB s b w_).bind fun x2=>some (x2.1,x2.2) else (if s.Pc == 2 then (fA s.B).bind fun x12=>(if x12 then d7 s b w_ x1 x1 else d7 s b w_ x1 false) else d7 s b w_ x1 false)))
def nC(s:Sub)(b:aD)(w_:Int):Option (Sub×aD):=
  (FA b.bB w_ s.Row).bind fun x13=>(if x13 then (idx b.bB w_).bind fun x14=>(idx x14.Rows s.Row).bind fun x15=>eZ s b w_ (x15.Handle == s.H) else eZ s b w_ false)
def xC(w_ e_:Int)(x1:aK)(x2:Bool):Option (aK×Bool):=
  (if x2 then some (x1,false) else (idx x1.bG w_).bind fun x3=>some ((⟨x1.aM,x1.bG.set w_.toNat (⟨true,e_,false,0⟩:iI)⟩:aK),true))
def NN(c:aK)(w_ e_:Int):Option (aK×Bool):=
  (jN c).bind fun x1=>(m6 c).bind fun x4=>(if !x4 then xC w_ e_ x1 true else (fA w_).bind fun x5=>(if !x5 then xC w_ e_ x1 true else (cK e_ 0 c.aM).bind fun x6=>xC w_ e_ x1 (!x6)))
def wE(s:Sub)(b:aD)(x1:Bool)(x2:Int)(x3:List iI):Option (Sub×aD):=
  (if !x1 then (bI s 1).bind fun x4=>some (x4,b) else some (({s with Pc:=2}:Sub),({b with aK:=(⟨x2,x3⟩:aK)}:aD)))
def vP(s:Sub)(b:aD)(w_:Int):Option (Sub×aD):=
  (if s.Pc == 0 then some (({s with Pc:=1,E:=b.aK.aM}:Sub),b) else (if s.Pc == 1 then (NN b.aK w_ s.E).bind fun x5=>wE s b x5.2 x5.1.aM x5.1.bG else (if s.Pc == 2 then (if b.aK.aM == s.E then (bI s 0).bind fun x6=>some (x6,b) else some (({s with Pc:=0}:Sub),b)) else (bI s 1).bind fun x7=>some (x7,b))))
def jJ(s:Sub)(b:aD)(w_:Int):Option (Sub×aD):=
  (if s.cQ then some (s,b) else (if s.Kind == 1 then (qI s b w_).bind fun x1=>some (x1.1,x1.2) else (if s.Kind == 2 then (nX s b w_).bind fun x2=>some (x2.1,x2.2) else (if s.Kind == 3 then (nA s b).bind fun x3=>some (x3.1,x3.2) else (if s.Kind == 4 then (nC s b w_).bind fun x4=>some (x4.1,x4.2) else (if s.Kind == 5 then (vP s b w_).bind fun x5=>some (x5.1,x5.2) else (bI s 1).bind fun x6=>some (x6,b)))))))
def dE(j:bX)(pc:Int):Option bX:=
  some ({j with Pc:=pc,Code:=0}:bX)
def HH(slot c:Int):Option Int:=
  (tR slot c).bind fun x1=>(if decide (x1 < 0) then some (-1) else some (bC (x1+4)))
def NO(slot c:Int):Option Span:=
  (HH slot c).bind fun x1=>(if decide (x1 < 0) then some (⟨0,0⟩:Span) else (zV c).bind fun x2=>some (⟨x1,bC (x1+x2)⟩:Span))
def vQ(h:aE)(slot at_ width:Int):Option Int:=
  (m8 h slot).bind fun x1=>(NO slot x1).bind fun x2=>(cK at_ 0 (bC ((bC (x2.To - x2.aQ1)) - width))).bind fun x3=>(if !x3 then some (-1) else some (bC (x2.aQ1+at_)))
def BF(m:Mem)(h at_ width:Int)(x1:Bool):Option (Int×Int):=
  (if x1 then some (0,1) else (zW m h).bind fun x2=>(if !x2 then some (0,4) else (vQ m.aE (Int.tmod h 32) at_ width).bind fun x3=>(if decide (x3 < 0) then some (0,2) else (k9 m.aE.Bytes x3 width).bind fun x4=>some (x4,0))))
def QD(m:Mem)(h at_ width:Int):Option (Int×Int):=
  (II m).bind fun x5=>(if !x5 then BF m h at_ width true else (jI width).bind fun x6=>BF m h at_ width (!x6))
def OY(x4:Mem):Option (Mem×Int):=
  some (x4,0)
def HI(m:Mem)(h at_ width n:Int):Option (Mem×Int):=
  (AX m).bind fun x1=>(zD n width).bind fun x2=>(QD m h at_ width).bind fun x3=>(if x3.2 != 0 then some (x1,x3.2) else (if x2 == ([]) then some (x1,1) else (vQ m.aE (Int.tmod h 32) at_ width).bind fun x5=>(tX x1.aE.Bytes x5 x2).bind fun x6=>OY (⟨(⟨x6,x1.aE.Class⟩:aE),x1.aB⟩:Mem)))
def BG(s:aC)(w_ x7:Int)(x8:Mem):Option aC:=
  (if x7 != 0 then (idx s.aT w_).bind fun x9=>(bP x9 x7).bind fun x10=>some ({s with aT:=s.aT.set w_.toNat x10}:aC) else (idx s.aT w_).bind fun x11=>(dE x11 2).bind fun x12=>some ({s with aD:=(⟨x8,s.aD.aK,s.aD.bB,s.aD.lZ⟩:aD),aT:=s.aT.set w_.toNat x12}:aC))
def BH(w_:Int)(x17:aC):Option aC:=
  (idx x17.aT w_).bind fun x18=>(if x18.Old == 0 then (bP x18 0).bind fun x19=>some ({x17 with aT:=x17.aT.set w_.toNat x19}:aC) else (iX 2 x18.Old).bind fun x20=>(dE ({x18 with Sub:=x20}:bX) 3).bind fun x21=>some ({x17 with aT:=x17.aT.set w_.toNat x21}:aC))
def BI(s:aC)(w_:Int)(x14:bX)(x15:Int)(x16:List Int):Option aC:=
  (idx (s.aT.set w_.toNat ({x14 with Old:=x15}:bX)) w_).bind fun x22=>(dA ({s with Cells:=x16,aT:=s.aT.set w_.toNat ({x14 with Old:=x15}:bX)}:aC) 2 w_ x22.H x22.Op.eS 0).bind fun x23=>BH w_ x23
def BJ(s:aC)(w_:Int):Option aC:=
  (idx s.aT w_).bind fun x1=>(if x1.Pc == 0 then (jJ x1.Sub s.aD w_).bind fun x2=>(if !x2.1.cQ then some ({s with aD:=x2.2,aT:=s.aT.set w_.toNat ({x1 with Sub:=x2.1}:bX)}:aC) else (if x2.1.Code != 0 then (bP ({x1 with Sub:=x2.1}:bX) x2.1.Code).bind fun x3=>some ({s with aD:=x2.2,aT:=s.aT.set w_.toNat x3}:aC) else (gC x2.1.Out).bind fun x4=>(if !x4 then (bP ({x1 with Sub:=x2.1}:bX) 1).bind fun x5=>some ({s with aD:=x2.2,aT:=s.aT.set w_.toNat x5}:aC) else (dE ({x1 with Sub:=x2.1,H:=x2.1.Out}:bX) 1).bind fun x6=>some ({s with aD:=x2.2,aT:=s.aT.set w_.toNat x6}:aC)))) else (if x1.Pc == 1 then (HI s.aD.Mem x1.H 0 4 x1.Op.eS).bind fun x13=>BG s w_ x13.2 x13.1 else (if x1.Pc == 2 then (idx s.aT w_).bind fun x14=>(idx s.Cells x14.Op.Cell).bind fun x15=>(idx (s.aT.set w_.toNat ({x14 with Old:=x15}:bX)) w_).bind fun x24=>(idx s.Cells x24.Op.Cell).bind fun x25=>BI s w_ x14 x15 (s.Cells.set x24.Op.Cell.toNat x24.H) else (if x1.Pc == 3 then (jJ x1.Sub s.aD w_).bind fun x26=>(if x26.1.cQ then (bP ({x1 with Sub:=x26.1}:bX) x26.1.Code).bind fun x27=>some ({s with aD:=x26.2,aT:=s.aT.set w_.toNat x27}:aC) else some ({s with aD:=x26.2,aT:=s.aT.set w_.toNat ({x1 with Sub:=x26.1}:bX)}:aC)) else (bP x1 1).bind fun x28=>some ({s with aT:=s.aT.set w_.toNat x28}:aC)))))
def tY(s:aC)(w_:Int):Option aC:=
  (idx s.aT w_).bind fun x1=>(idx s.aT w_).bind fun x2=>(idx s.Cells x2.Op.Cell).bind fun x3=>(dA ({s with aT:=s.aT.set w_.toNat ({x2 with H:=x3}:bX)}:aC) 3 w_ x3 0 0).bind fun x4=>some x4
def rF(b:aD)(h at_ width:Int)(x1:Bool):Option (Int×Bool):=
  (if x1 then some (0,false) else (vQ b.Mem.aE (Int.tmod h 32) at_ width).bind fun x2=>(if decide (x2 < 0) then some (0,false) else (k9 b.Mem.aE.Bytes x2 width).bind fun x3=>some (x3,true)))
def HJ(b:aD)(h at_ width:Int):Option (Int×Bool):=
  (gC h).bind fun x4=>(if !x4 then rF b h at_ width true else (qB b.Mem.aE (Int.tmod h 32)).bind fun x5=>(if decide (x5 < 0) then rF b h at_ width true else (jI width).bind fun x6=>rF b h at_ width (!x6)))
def kL(s:aC)(w_:Int):Option aC:=
  (idx s.aT w_).bind fun x1=>(HJ s.aD x1.H 0 4).bind fun x2=>some ({s with aT:=s.aT.set w_.toNat ({x1 with eS:=x2.1}:bX)}:aC)
def i7(x1:Bool):Option Bool:=
  some x1
def qJ(p:iI):Option Bool:=
  (if p.On then i7 (!p.fG) else i7 false)
def kS(s:aC)(w_ pc:Int):Option aC:=
  (idx s.aT w_).bind fun x1=>(dE x1 pc).bind fun x2=>(idx s.aD.aK.bG w_).bind fun x3=>(qJ x3).bind fun x4=>(if !x4 then some ({s with aT:=s.aT.set w_.toNat ({x2 with eS:=0,Code:=6}:bX)}:aC) else some ({s with aT:=s.aT.set w_.toNat x2}:aC))
def xD(w_:Int)(x1:aK)(x2:Bool):Option (aK×Bool):=
  (if x2 then some (x1,false) else (idx x1.bG w_).bind fun x3=>some ((⟨x1.aM,x1.bG.set w_.toNat (⟨false,0,false,0⟩:iI)⟩:aK),true))
def NP(c:aK)(w_:Int):Option (aK×Bool):=
  (jN c).bind fun x1=>(m6 c).bind fun x4=>(if !x4 then xD w_ x1 true else (fA w_).bind fun x5=>(if !x5 then xD w_ x1 true else (idx c.bG w_).bind fun x6=>xD w_ x1 (!x6.On)))
def rG(b:aD)(w_:Int):Option (Bool×aD):=
  (NP b.aK w_).bind fun x1=>some (x1.2,({b with aK:=x1.1}:aD))
def BK(s:aC)(w_:Int):Option aC:=
  (idx s.aT w_).bind fun x1=>(if x1.Pc == 0 then (jJ x1.Sub s.aD w_).bind fun x2=>(if x2.1.cQ then (dE ({x1 with Sub:=x2.1}:bX) 1).bind fun x3=>some ({s with aD:=x2.2,aT:=s.aT.set w_.toNat x3}:aC) else some ({s with aD:=x2.2,aT:=s.aT.set w_.toNat ({x1 with Sub:=x2.1}:bX)}:aC)) else (if x1.Pc == 1 then (tY s w_).bind fun x4=>(idx x4.aT w_).bind fun x5=>(dE x5 2).bind fun x6=>(if x6.H == 0 then some ({x4 with aT:=x4.aT.set w_.toNat ({x6 with Pc:=4,Code:=8}:bX)}:aC) else some ({x4 with aT:=x4.aT.set w_.toNat x6}:aC)) else (if x1.Pc == 2 then (kL s w_).bind fun x7=>(idx x7.aT w_).bind fun x8=>(dE x8 3).bind fun x9=>some ({x7 with aT:=x7.aT.set w_.toNat x9}:aC) else (if x1.Pc == 3 then (kS s w_ 4).bind fun x10=>some x10 else (if x1.Pc == 4 then (rG s.aD w_).bind fun x11=>(bP x1 x1.Code).bind fun x12=>some ({s with aD:=x11.2,aT:=s.aT.set w_.toNat x12}:aC) else (bP x1 1).bind fun x13=>some ({s with aT:=s.aT.set w_.toNat x13}:aC))))))
def rH(w_ h:Int)(x1:(List Int))(x2:Bool):Option ((List Int)×Bool):=
  (if x2 then some (x1,false) else (idx x1 w_).bind fun x3=>some (x1.set w_.toNat h,true))
def HK(z:List Int)(w_ h:Int):Option ((List Int)×Bool):=
  (eY z).bind fun x1=>(DE z).bind fun x4=>(if !x4 then rH w_ h x1 true else (fA w_).bind fun x5=>(if !x5 then rH w_ h x1 true else (gC h).bind fun x6=>rH w_ h x1 (!x6)))
def xE(w_:Int)(x1:(List Int))(x2:Bool):Option ((List Int)×Bool):=
  (if x2 then some (x1,false) else (idx x1 w_).bind fun x3=>some (x1.set w_.toNat 0,true))
def NQ(z:List Int)(w_:Int):Option ((List Int)×Bool):=
  (eY z).bind fun x1=>(DE z).bind fun x4=>(if !x4 then xE w_ x1 true else (fA w_).bind fun x5=>(if !x5 then xE w_ x1 true else (idx z w_).bind fun x6=>xE w_ x1 (x6 == 0)))
def BL(s:aC)(w_:Int)(x7:List Int):Option aC:=
  (idx s.aT w_).bind fun x8=>(dE x8 2).bind fun x9=>some ({s with aD:=(⟨s.aD.Mem,s.aD.aK,s.aD.bB,x7⟩:aD),aT:=s.aT.set w_.toNat x9}:aC)
def BM(s:aC)(w_:Int)(x11:Bool):Option aC:=
  (if x11 then (idx s.aT w_).bind fun x12=>(dE x12 0).bind fun x13=>some ({s with aT:=s.aT.set w_.toNat x13}:aC) else (idx s.aT w_).bind fun x14=>(dA s 3 w_ x14.H 0 0).bind fun x15=>(idx x15.aT w_).bind fun x16=>(dE x16 3).bind fun x17=>some ({x15 with aT:=x15.aT.set w_.toNat x17}:aC))
def BN(s:aC)(w_:Int):Option aC:=
  (idx s.aT w_).bind fun x1=>(if x1.Pc == 0 then (idx s.aT w_).bind fun x2=>(idx s.Cells x2.Op.Cell).bind fun x3=>(dE ({x2 with H:=x3}:bX) 1).bind fun x4=>(if x4.H == 0 then (dA ({s with aT:=s.aT.set w_.toNat x4}:aC) 3 w_ 0 0 0).bind fun x5=>(idx x5.aT w_).bind fun x6=>some ({x5 with aT:=x5.aT.set w_.toNat ({x6 with Pc:=4,Code:=8}:bX)}:aC) else some ({s with aT:=s.aT.set w_.toNat x4}:aC)) else (if x1.Pc == 1 then (HK s.aD.lZ w_ x1.H).bind fun x10=>BL s w_ x10.1 else (if x1.Pc == 2 then (idx s.aT w_).bind fun x18=>(idx s.Cells x18.Op.Cell).bind fun x19=>BM s w_ (x19 != x18.H) else (if x1.Pc == 3 then (kL s w_).bind fun x20=>(idx x20.aT w_).bind fun x21=>(dE x21 4).bind fun x22=>some ({x20 with aT:=x20.aT.set w_.toNat x22}:aC) else (if x1.Pc == 4 then (NQ s.aD.lZ w_).bind fun x23=>(bP x1 x1.Code).bind fun x24=>some ({s with aD:=(⟨s.aD.Mem,s.aD.aK,s.aD.bB,x23.1⟩:aD),aT:=s.aT.set w_.toNat x24}:aC) else (bP x1 1).bind fun x25=>some ({s with aT:=s.aT.set w_.toNat x25}:aC))))))
def qK(s:aC)(w_:Int)(x5:Bool):Option aC:=
  (if x5 then (idx s.aT w_).bind fun x6=>(bP x6 6).bind fun x7=>some ({s with aT:=s.aT.set w_.toNat x7}:aC) else (idx s.aT w_).bind fun x8=>(if x8.Pc == 0 then (tY s w_).bind fun x9=>(idx x9.aT w_).bind fun x10=>(dE x10 1).bind fun x11=>(if x11.H == 0 then (bP x11 8).bind fun x12=>some ({x9 with aT:=x9.aT.set w_.toNat x12}:aC) else some ({x9 with aT:=x9.aT.set w_.toNat x11}:aC)) else (if x8.Pc == 1 then (kL s w_).bind fun x13=>(idx x13.aT w_).bind fun x14=>(dE x14 2).bind fun x15=>some ({x13 with aT:=x13.aT.set w_.toNat x15}:aC) else (if x8.Pc == 2 then (kS s w_ 9).bind fun x16=>some x16 else (bP x8 1).bind fun x17=>some ({s with aT:=s.aT.set w_.toNat x17}:aC)))))
def qL(s:aC)(w_:Int)(x1:iI)(x2:Bool):Option aC:=
  (if x2 then (idx s.aT w_).bind fun x3=>(bP x3 5).bind fun x4=>some ({s with aT:=s.aT.set w_.toNat x4}:aC) else (idx s.aT w_).bind fun x18=>(if x18.Pc == 0 then qK s w_ x1.fG else qK s w_ false))
def zF(s:aC)(w_:Int)(x1:iI):Option aC:=
  (idx s.aT w_).bind fun x19=>(if x19.Pc == 0 then qL s w_ x1 (!x1.On) else qL s w_ x1 false)
def yO(s:aC)(w_:Int):Option aC:=
  (idx s.aT w_).bind fun x20=>(idx s.aD.aK.bG w_).bind fun x21=>zF s w_ x21
def nY(w_ x3:Int)(x4:aC):Option aC:=
  (idx x4.aT w_).bind fun x5=>(bP x5 x3).bind fun x6=>some ({x4 with aT:=x4.aT.set w_.toNat x6}:aC)
def nZ(s:aC)(w_:Int)(x17:Bool):Option aC:=
  (if x17 then (idx s.aT w_).bind fun x18=>(jJ x18.Sub s.aD w_).bind fun x19=>(if x19.1.cQ then (bP ({x18 with Sub:=x19.1,eS:=x19.1.Out}:bX) x19.1.Code).bind fun x20=>some ({s with aD:=x19.2,aT:=s.aT.set w_.toNat x20}:aC) else some ({s with aD:=x19.2,aT:=s.aT.set w_.toNat ({x18 with Sub:=x19.1}:bX)}:aC)) else (idx s.aT w_).bind fun x21=>(bP x21 1).bind fun x22=>some ({s with aT:=s.aT.set w_.toNat x22}:aC))
def n9(s:aC)(w_:Int)(x12:Bool):Option aC:=
  (if x12 then (idx s.aT w_).bind fun x13=>(jJ x13.Sub s.aD w_).bind fun x14=>(if x14.1.cQ then (iX 4 0).bind fun x15=>(dE ({x13 with Sub:=x15}:bX) 1).bind fun x16=>some ({s with aD:=x14.2,aT:=s.aT.set w_.toNat x16}:aC) else some ({s with aD:=x14.2,aT:=s.aT.set w_.toNat ({x13 with Sub:=x14.1}:bX)}:aC)) else (idx s.aT w_).bind fun x23=>(if x23.Op.Kind == 4 then nZ s w_ (x23.Pc == 1) else nZ s w_ false))
def oA(s:aC)(w_:Int)(x8:Bool):Option aC:=
  (if x8 then (idx s.aT w_).bind fun x9=>(jJ x9.Sub s.aD w_).bind fun x10=>(if x10.1.cQ then (bP ({x9 with Sub:=x10.1}:bX) x10.1.Code).bind fun x11=>some ({s with aD:=x10.2,aT:=s.aT.set w_.toNat x11}:aC) else some ({s with aD:=x10.2,aT:=s.aT.set w_.toNat ({x9 with Sub:=x10.1}:bX)}:aC)) else (idx s.aT w_).bind fun x24=>(if x24.Op.Kind == 4 then n9 s w_ (x24.Pc == 0) else n9 s w_ false))
def oC(s:aC)(w_:Int)(x2:Bool):Option aC:=
  (if x2 then (rG s.aD w_).bind fun x7=>(if !x7.1 then nY w_ 5 ({s with aD:=x7.2}:aC) else nY w_ 0 ({s with aD:=x7.2}:aC)) else (idx s.aT w_).bind fun x25=>(if x25.Op.Kind == 5 then oA s w_ (x25.Pc == 0) else oA s w_ false))
def vR(s:aC)(w_:Int):Option aC:=
  (idx s.aT w_).bind fun x1=>(if x1.Op.Kind == 6 then oC s w_ (x1.Pc == 0) else oC s w_ false)
def rI(s:aC)(w_:Int):Option aC:=
  (idx s.aT w_).bind fun x1=>(if !x1.gG then (vL s w_).bind fun x2=>some x2 else (if x1.Pc == 9 then (dA s 4 w_ x1.H x1.eS x1.Code).bind fun x3=>(idx x3.aT w_).bind fun x4=>some ({x3 with aT:=x3.aT.set w_.toNat (⟨false,(⟨0,0,0,0⟩:eM),0,0,(⟨0,0,0,0,0,0,0,0,0,false⟩:Sub),0,0,0,0⟩:bX)}:aC) else (if x1.Op.Kind == 1 then (BJ s w_).bind fun x5=>some x5 else (if x1.Op.Kind == 2 then (BK s w_).bind fun x6=>some x6 else (if x1.Op.Kind == 3 then (BN s w_).bind fun x7=>some x7 else (if x1.Op.Kind == 7 then (yO s w_).bind fun x8=>some x8 else (vR s w_).bind fun x9=>some x9))))))
def aCR(x7:aC):Option aC:=
  some x7
def o7(x5:Int)(x8:Bool)(x9:aC):Option (Step (Int×aC) aC):=
  (if x8 then (rI x9 (Int.tmod x5 3)).bind fun x10=>some (.next (bC (x5+1),x10)) else some (.stop (x9)))
def o8:(Int×aC)→Option (Step (Int×aC) aC)
  | (x5,x6)=>(if decide (x5 < 3000) then (HZ x6).bind fun x11=>o7 x5 (!x11) x6 else o7 x5 false x6)
def aCS:aC→Option aC
  | x7=>aCR x7
def KA(s:aC):Option aC:=
  (oT s).bind fun x1=>(qG s).bind fun x2=>(if !x2 then some x1 else (loop (o8) (0,x1)).bind (aCS))
def NR(s:aC)(n:Int):Option aC:=
  (rE s n).bind fun x1=>(KA x1).bind fun x2=>some x2
def aCT(code:List UInt8):Option Bool:=
  some (decide (1048576 < (code.length:Int)))
def aEZ(x5:Int):Option (Int×Int):=
  some (0,x5)
def EB(code:List UInt8)(x3 x4:Int)(x6:Bool):Option (Step (Int×Int) Int):=
  (if x6 then (idx code x4).bind fun x7=>some (.next (fV .and .i64 (bC ((bC ((bC (x3 * 131))+(x7.toNat:Int)))+7)) 1073741823,bC (x4+1))) else some (.stop (x3)))
def S4(code:List UInt8):(Int×Int)→Option (Step (Int×Int) Int)
  | (x3,x4)=>(if decide (x4 < (code.length:Int)) then EB code x3 x4 (decide (x4 < 4000)) else EB code x3 x4 false)
def aE0:Int→Option (Int×Int)
  | x5=>aEZ x5
def NS(code:List UInt8):Option (Int×Int):=
  (loop (S4 code) (bC (10101+(code.length:Int)),0)).bind (aE0)
def BO(c:aJ)(x1 x2:Int):Option (Int×(Int×Int)):=
  some (x1,(x2,bC ((bC (c.h * 6364136223846793005))+1442695040888963407)))
def pQ(c:aJ):Option (Int×(Int×Int)):=
  (if decide (c.i < (c.b.length:Int)) then (idx c.b c.i).bind fun x3=>BO c (fV .and .i64 (bC ((fV .and .i64 (fV .xor .i64 (sU .i64 (bC ((bC (c.h * 6364136223846793005))+1442695040888963407)) 33) (sU .i64 (bC ((bC (c.h * 6364136223846793005))+1442695040888963407)) 45)) 255)+(x3.toNat:Int))) 255) (bC (c.i+1)) else BO c (fV .and .i64 (fV .xor .i64 (sU .i64 (bC ((bC (c.h * 6364136223846793005))+1442695040888963407)) 33) (sU .i64 (bC ((bC (c.h * 6364136223846793005))+1442695040888963407)) 45)) 255) c.i)
def aO(c:aJ)(n:Int):Option (Int×(Int×Int)):=
  (if decide (n≤0) then some (0,(c.i,c.h)) else (if decide (n≤256) then (pQ c).bind fun x1=>need (n≠0) (some (Int.tmod x1.1 n,(x1.2.1,x1.2.2))) else (pQ c).bind fun x2=>(pQ (⟨c.b,x2.2.1,x2.2.2⟩:aJ)).bind fun x3=>(pQ (⟨c.b,x3.2.1,x3.2.2⟩:aJ)).bind fun x4=>(pQ (⟨c.b,x4.2.1,x4.2.2⟩:aJ)).bind fun x5=>need (n≠0) (some (Int.tmod (bC ((bC ((bC ((bC (x2.1 * 16777216))+(bC (x3.1 * 65536))))+(bC (x4.1 * 256))))+x5.1)) n,(x5.2.1,x5.2.2)))))
def eJ(c:aJ)(list:List Int):Option (Int×(Int×Int)):=
  (aO c (list.length:Int)).bind fun x1=>(idx list x1.1).bind fun x2=>some (x2,(x1.2.1,x1.2.2))
def nD(c:aJ)(n:Int):Option (Bool×(Int×Int)):=
  (aO c n).bind fun x1=>some (x1.1 == 0,(x1.2.1,x1.2.2))
def ZQ(x5:List Int):Option aE:=
  some (⟨List.replicate ((384:Int).toNat) 0,x5⟩:aE)
def rJ:(Int×(List Int))→Option (Step (Int×(List Int)) (List Int))
  | (x3,x4)=>(if decide (x3 < 6) then need (x4.length+([(-1)]).length≤1073741824) (some (.next (bC (x3+1),x4++([(-1)])))) else some (.stop (x4)))
def ZR:(List Int)→Option aE
  | x5=>ZQ x5
def BP:Option aE:=
  need (0≤(384:Int)∧(384:Int)≤4294967296) ((loop (rJ) (0,[])).bind (ZR))
def vS:Option aB:=
  some (⟨List.replicate ((3:Int).toNat) (⟨[]⟩:aH),List.replicate ((9:Int).toNat) (⟨[]⟩:aH)⟩:aB)
def sB:Option aB:=
  need (0≤(3:Int)∧(3:Int)≤4294967296)<|need (0≤(9:Int)∧(9:Int)≤4294967296)<|vS
def FC:Option Mem:=
  (BP).bind fun x1=>(sB).bind fun x2=>some (⟨x1,x2⟩:Mem)
def xF:Option aK:=
  need (0≤(3:Int)∧(3:Int)≤4294967296) (some (⟨0,List.replicate ((3:Int).toNat) (⟨false,0,false,0⟩:iI)⟩:aK))
def xG:Option (List aP):=
  need (0≤(3:Int)∧(3:Int)≤4294967296) (some (List.replicate ((3:Int).toNat) (⟨[]⟩:aP)))
def FD:Option (List Int):=
  need (0≤(3:Int)∧(3:Int)≤4294967296) (some (List.replicate ((3:Int).toNat) 0))
def BQ:Option aD:=
  (FC).bind fun x1=>(xF).bind fun x2=>(xG).bind fun x3=>(FD).bind fun x4=>some (⟨x1,x2,x3,x4⟩:aD)
def aCU(x10:Sub)(x11:aD):Option (aD×Sub):=
  some (x11,x10)
def o9(w_ x7:Int)(x8:Sub)(x12:Bool)(x13:aD):Option (Step (Int×Sub×aD) (Sub×aD)):=
  (if x12 then (tJ x13 w_ x8).bind fun x14=>some (.next (bC (x7+1),x14.2,x14.1)) else some (.stop ((x8,x13))))
def tZ(w_:Int):(Int×Sub×aD)→Option (Step (Int×Sub×aD) (Sub×aD))
  | (x7,x8,x9)=>(if decide (x7 < 200) then o9 w_ x7 x8 (!x8.cQ) x9 else o9 w_ x7 x8 false x9)
def aCV:(Sub×aD)→Option (aD×Sub)
  | (x10,x11)=>aCU x10 x11
def BR(w_:Int)(s:Sub)(x2:Bool)(x3:aD):Option (aD×Sub):=
  (if x2 then some (x3,s) else (loop (tZ w_) (0,s,x3)).bind (aCV))
def nE(b:aD)(w_:Int)(s:Sub):Option (aD×Sub):=
  (AG b).bind fun x1=>(EZ b).bind fun x15=>(if !x15 then BR w_ s true x1 else (bJ w_ 0 2).bind fun x16=>BR w_ s (!x16) x1)
def F8(x17 x18 x19:Int)(x20:aD):Option (aD×Int×(Int×Int)):=
  some (x20,x17,(x18,x19))
def OZ(c:aJ)(x13:List Int)(x14 x15:Int)(x16:aD):Option (aD×Int×(Int×Int)):=
  (aO (⟨c.b,x14,x15⟩:aJ) (x13.length:Int)).bind fun x21=>(idx x13 x21.1).bind fun x22=>F8 x22 x21.2.1 x21.2.2 x16
def eE(x9:Int)(x23:List Int)(x24 x25:Int)(x26:aD):Option (Step ((List Int)×Int×Int×Int×aD) ((List Int)×Int×Int×aD)):=
  some (.next (x23,bC (x9 - 1),x24,x25,x26))
def F9(x8:List Int)(x9:Int)(x37:Sub)(x38 x39:Int)(x40:aD)(x41:Mem):Option (Step ((List Int)×Int×Int×Int×aD) ((List Int)×Int×Int×aD)):=
  eE x9 (x8++([x37.Out])) x38 x39 ({x40 with Mem:=x41}:aD)
def GA(c:aJ)(x8:List Int)(x9 x33 x34:Int)(x35 x36:aD)(x37:Sub):Option (Step ((List Int)×Int×Int×Int×aD) ((List Int)×Int×Int×aD)):=
  (if x37.Out != 0 then need (x8.length+([x37.Out]).length≤1073741824) ((aO (⟨c.b,x33,x34⟩:aJ) 60000).bind fun x42=>(m5 x36.Mem x37.Out 0 4 x42.1).bind fun x43=>F9 x8 x9 x37 x42.2.1 x42.2.2 x36 x43.1) else eE x9 x8 x33 x34 x36)
def GB(x8:List Int)(x9:Int)(x30:Int×(Int×Int))(x49:aD):Option (Step ((List Int)×Int×Int×Int×aD) ((List Int)×Int×Int×aD)):=
  eE x9 x8 x30.2.1 x30.2.2 x49
def DG(x8:List Int)(x9:Int)(x30:Int×(Int×Int))(x54:aD):Option (Step ((List Int)×Int×Int×Int×aD) ((List Int)×Int×Int×aD)):=
  eE x9 x8 x30.2.1 x30.2.2 x54
def DH(x8:List Int)(x9:Int)(x30:Int×(Int×Int))(x57:aD):Option (Step ((List Int)×Int×Int×Int×aD) ((List Int)×Int×Int×aD)):=
  eE x9 x8 x30.2.1 x30.2.2 x57
def DI(x8:List Int)(x9:Int)(x30:Int×(Int×Int))(x60:aD):Option (Step ((List Int)×Int×Int×Int×aD) ((List Int)×Int×Int×aD)):=
  eE x9 x8 x30.2.1 x30.2.2 x60
def rK(c:aJ)(x8:List Int)(x9:Int)(x27:Int×(Int×Int))(x29:Int)(x30:Int×(Int×Int))(x52:Bool)(x53:aD):Option (Step ((List Int)×Int×Int×Int×aD) ((List Int)×Int×Int×aD)):=
  (if x52 then (eH 3 0).bind fun x55=>(nE x53 x27.1 x55).bind fun x56=>DG x8 x9 x30 x56.1 else (if x30.1 == 8 then (eH 4 0).bind fun x58=>(nE x53 x27.1 x58).bind fun x59=>DH x8 x9 x30 x59.1 else (if x30.1 == 9 then (eH 5 0).bind fun x61=>(nE x53 x27.1 x61).bind fun x62=>DI x8 x9 x30 x62.1 else (if x30.1 == 10 then (y9 x53.aK x27.1).bind fun x63=>eE x9 x8 x30.2.1 x30.2.2 ({x53 with aK:=x63.1}:aD) else (vD x53.lZ x27.1 x29).bind fun x64=>(nD (⟨c.b,x30.2.1,x30.2.2⟩:aJ) 3).bind fun x65=>(if x65.1 then (IH x64.1 x27.1).bind fun x66=>eE x9 x8 x65.2.1 x65.2.2 ({x53 with lZ:=x66.1}:aD) else eE x9 x8 x65.2.1 x65.2.2 ({x53 with lZ:=x64.1}:aD))))))
def rL(c:aJ)(x8:List Int)(x9:Int)(x27:Int×(Int×Int))(x29:Int)(x30:Int×(Int×Int))(x47:Bool)(x48:aD):Option (Step ((List Int)×Int×Int×Int×aD) ((List Int)×Int×Int×aD)):=
  (if x47 then (eH 2 x29).bind fun x50=>(nE x48 x27.1 x50).bind fun x51=>GB x8 x9 x30 x51.1 else (if x30.1 == 6 then rK c x8 x9 x27 x29 x30 true x48 else rK c x8 x9 x27 x29 x30 (x30.1 == 7) x48))
def kM(c:aJ)(x8:List Int)(x9:Int)(x27:Int×(Int×Int))(x29:Int)(x30:Int×(Int×Int))(x31:Bool)(x32:aD):Option (Step ((List Int)×Int×Int×Int×aD) ((List Int)×Int×Int×aD)):=
  (if x31 then (aO (⟨c.b,x30.2.1,x30.2.2⟩:aJ) 40).bind fun x44=>(eH 1 (bC (1+x44.1))).bind fun x45=>(nE x32 x27.1 x45).bind fun x46=>GA c x8 x9 x44.2.1 x44.2.2 x32 x46.1 x46.2 else (if x30.1 == 4 then rL c x8 x9 x27 x29 x30 true x32 else rL c x8 x9 x27 x29 x30 (x30.1 == 5) x32))
def O0(c:aJ):((List Int)×Int×Int×Int×aD)→Option (Step ((List Int)×Int×Int×Int×aD) ((List Int)×Int×Int×aD))
  | (x8,x9,x10,x11,x12)=>(if decide (0 < x9) then (aO (⟨c.b,x10,x11⟩:aJ) 3).bind fun x27=>(aO (⟨c.b,x27.2.1,x27.2.2⟩:aJ) (x8.length:Int)).bind fun x28=>(idx x8 x28.1).bind fun x29=>(aO (⟨c.b,x28.2.1,x28.2.2⟩:aJ) 12).bind fun x30=>(if x30.1 == 0 then kM c x8 x9 x27 x29 x30 true x12 else (if x30.1 == 1 then kM c x8 x9 x27 x29 x30 true x12 else (if x30.1 == 2 then kM c x8 x9 x27 x29 x30 true x12 else kM c x8 x9 x27 x29 x30 (x30.1 == 3) x12))) else some (.stop ((x8,x10,x11,x12))))
def O1(c:aJ):((List Int)×Int×Int×aD)→Option (aD×Int×(Int×Int))
  | (x13,x14,x15,x16)=>OZ c x13 x14 x15 x16
def HL(c:aJ)(most:Int):Option (aD×Int×(Int×Int)):=
  (BQ).bind fun x1=>(aO c most).bind fun x2=>(loop (O0 c) ([0],x2.1,x2.2.1,x2.2.2,x1)).bind (O1 c)
def nJ(c:aJ):Option (Int×(Int×Int)):=
  (nD c 8).bind fun x1=>(if x1.1 then (eJ (⟨c.b,x1.2.1,x1.2.2⟩:aJ) ([0,(-1),31,32,55,56,63,64,192,215,216,223,224]:List Int)).bind fun x2=>some (x2.1,(x2.2.1,x2.2.2)) else (aO (⟨c.b,x1.2.1,x1.2.2⟩:aJ) 24).bind fun x3=>(aO (⟨c.b,x3.2.1,x3.2.2⟩:aJ) 6).bind fun x4=>(nG x3.1 (bC (1+x4.1))).bind fun x5=>some (x5,(x4.2.1,x4.2.2)))
def yP(x1:aB)(x2:Int)(x3:Bool):Option (aB×Int):=
  (if x3 then some (x1,(-1)) else (idx x1.bQ x2).bind fun x4=>(pW x4).bind fun x5=>some ((⟨x1.Global,x1.bQ.set x2.toNat x5.1⟩:aB),x5.2))
def HM(l:aB)(w_ c:Int):Option (aB×Int):=
  (tG l).bind fun x1=>(lV w_ c).bind fun x2=>(pS l).bind fun x6=>(if !x6 then yP x1 x2 true else yP x1 x2 (decide (x2 < 0)))
def qM(c:Int)(x1:aB)(x2:Bool):Option (aB×Int):=
  (if x2 then some (x1,(-1)) else (idx x1.Global c).bind fun x3=>(pW x3).bind fun x4=>some ((⟨x1.Global.set c.toNat x4.1,x1.bQ⟩:aB),x4.2))
def yQ(l:aB)(c:Int):Option (aB×Int):=
  (tG l).bind fun x1=>(pS l).bind fun x5=>(if !x5 then qM c x1 true else (bJ c 0 2).bind fun x6=>qM c x1 (!x6))
def pA(x10:Int)(x11:Mem):Option (Mem×Int×Int):=
  (if decide (x10 < 0) then some (x11,0,3) else (wO x11 x10).bind fun x12=>some (x11,x12,0))
def pB(x2 x6:Int)(x7:Mem)(x8 x9:List aH):Option (Mem×Int×Int):=
  (if decide (x6 < 0) then (AK (⟨x7.aE,(⟨x8,x9⟩:aB)⟩:Mem) x2).bind fun x13=>pA x13.2 x13.1 else pA x6 (⟨x7.aE,(⟨x8,x9⟩:aB)⟩:Mem))
def vT(w_ x2:Int)(x3:Bool)(x4:Mem):Option (Mem×Int×Int):=
  (if x3 then some (x4,0,1) else (if decide (x2 < 0) then some (x4,0,2) else (HM x4.aB w_ x2).bind fun x5=>(if decide (x5.2 < 0) then (yQ x5.1 x2).bind fun x14=>pB x2 x14.2 x4 x14.1.Global x14.1.bQ else pB x2 x5.2 x4 x5.1.Global x5.1.bQ)))
def EC(m:Mem)(w_ size:Int):Option (Mem×Int×Int):=
  (tH m).bind fun x1=>(AJ size).bind fun x2=>(tC m).bind fun x15=>(if !x15 then vT w_ x2 true x1 else (bJ w_ 0 2).bind fun x16=>vT w_ x2 (!x16) x1)
def yR(m:Mem)(w_ h:Int)(x2:Bool)(x3:Mem):Option (Mem×Int):=
  (if x2 then some (x3,1) else (pT m h).bind fun x4=>(if !x4 then some (x3,4) else (eC h).bind fun x5=>(E3 x3 w_ x5).bind fun x6=>some (x6,0)))
def HN(m:Mem)(w_ h:Int):Option (Mem×Int):=
  (tH m).bind fun x1=>(tC m).bind fun x7=>(if !x7 then yR m w_ h true x1 else (bJ w_ 0 2).bind fun x8=>yR m w_ h (!x8) x1)
def IP(x17 x18 x19:Int)(x20:Mem):Option (Mem×Int×(Int×Int)):=
  some (x20,x17,(x18,x19))
def QE(c:aJ)(x13:List Int)(x14 x15:Int)(x16:Mem):Option (Mem×Int×(Int×Int)):=
  (aO (⟨c.b,x14,x15⟩:aJ) (x13.length:Int)).bind fun x21=>(idx x13 x21.1).bind fun x22=>IP x22 x21.2.1 x21.2.2 x16
def pC(x9:Int)(x23:List Int)(x24 x25:Int)(x26:Mem):Option (Step ((List Int)×Int×Int×Int×Mem) ((List Int)×Int×Int×Mem)):=
  some (.next (x23,bC (x9 - 1),x24,x25,x26))
def IQ(x8:List Int)(x9 x31 x32:Int)(x33 x34:Mem):Option (Step ((List Int)×Int×Int×Int×Mem) ((List Int)×Int×Int×Mem)):=
  pC x9 x8 x31 x32 x34
def IS(x8:List Int)(x9 x39 x45 x46:Int)(x47 x48:Mem):Option (Step ((List Int)×Int×Int×Int×Mem) ((List Int)×Int×Int×Mem)):=
  pC x9 (x8++([x39])) x45 x46 x48
def IT(c:aJ)(x8:List Int)(x9 x39 x40 x41 x42:Int)(x43 x44:Mem):Option (Step ((List Int)×Int×Int×Int×Mem) ((List Int)×Int×Int×Mem)):=
  (if x40 == 0 then need (x8.length+([x39]).length≤1073741824) ((aO (⟨c.b,x41,x42⟩:aJ) 5).bind fun x49=>(aO (⟨c.b,x49.2.1,x49.2.2⟩:aJ) 3).bind fun x50=>(aO (⟨c.b,x50.2.1,x50.2.2⟩:aJ) 256).bind fun x51=>(m5 x44 x39 x49.1 (bC (1+x50.1)) x51.1).bind fun x52=>IS x8 x9 x39 x51.2.1 x51.2.2 x44 x52.1) else pC x9 x8 x41 x42 x44)
def t7(c:aJ)(x8:List Int)(x9:Int)(x27:Bool)(x28 x29:Int)(x30:Mem):Option (Step ((List Int)×Int×Int×Int×Mem) ((List Int)×Int×Int×Mem)):=
  (if x27 then (aO (⟨c.b,x28,x29⟩:aJ) 3).bind fun x35=>(aO (⟨c.b,x35.2.1,x35.2.2⟩:aJ) (x8.length:Int)).bind fun x36=>(idx x8 x36.1).bind fun x37=>(HN x30 x35.1 x37).bind fun x38=>IQ x8 x9 x36.2.1 x36.2.2 x30 x38.1 else (aO (⟨c.b,x28,x29⟩:aJ) 3).bind fun x53=>(aO (⟨c.b,x53.2.1,x53.2.2⟩:aJ) 40).bind fun x54=>(EC x30 x53.1 (bC (1+x54.1))).bind fun x55=>IT c x8 x9 x55.2.1 x55.2.2 x54.2.1 x54.2.2 x30 x55.1)
def QF(c:aJ):((List Int)×Int×Int×Int×Mem)→Option (Step ((List Int)×Int×Int×Int×Mem) ((List Int)×Int×Int×Mem))
  | (x8,x9,x10,x11,x12)=>(if decide (0 < x9) then (nD (⟨c.b,x10,x11⟩:aJ) 3).bind fun x56=>(if x56.1 then t7 c x8 x9 (decide (1 < (x8.length:Int))) x56.2.1 x56.2.2 x12 else t7 c x8 x9 false x56.2.1 x56.2.2 x12) else some (.stop ((x8,x10,x11,x12))))
def QG(c:aJ):((List Int)×Int×Int×Mem)→Option (Mem×Int×(Int×Int))
  | (x13,x14,x15,x16)=>QE c x13 x14 x15 x16
def KB(c:aJ)(most:Int):Option (Mem×Int×(Int×Int)):=
  (FC).bind fun x1=>(aO c most).bind fun x2=>(loop (QF c) ([0],x2.1,x2.2.1,x2.2.2,x1)).bind (QG c)
def ED(c:Int)(x1:aE)(x2:Bool):Option (aE×(List Int)):=
  (if x2 then some (x1,([]:List Int)) else (pU x1 c).bind fun x3=>some (x3.1,x3.2))
def NT(h:aE)(c:Int):Option (aE×(List Int)):=
  (zQ h).bind fun x1=>(zO h).bind fun x4=>(if !x4 then ED c x1 true else (bJ c 0 2).bind fun x5=>ED c x1 (!x5))
def NU(h:aE)(slot:Int):Option Int:=
  (AA h).bind fun x1=>(if !x1 then some (-1) else (iJ h slot).bind fun x2=>some x2)
def QH(x1:aE)(x3:List Int):Option (aE×Bool):=
  some ((⟨x3,x1.Class⟩:aE),true)
def BS(h:aE)(slot gen:Int)(x1:aE)(x2:Bool):Option (aE×Bool):=
  (if x2 then some (x1,false) else (iJ h slot).bind fun x4=>(pR slot x4).bind fun x5=>(jE x1.Bytes x5 4 gen).bind fun x6=>QH x1 x6)
def KC(h:aE)(slot gen:Int):Option (aE×Bool):=
  (zQ h).bind fun x1=>(NU h slot).bind fun x7=>(if decide (x7 < 0) then BS h slot gen x1 true else (bJ gen 1 7).bind fun x8=>BS h slot gen x1 (!x8))
def aCW(x13 x14:Int)(x15 x16:List Int):Option (aE×(Int×Int)):=
  some ((⟨x15,x16⟩:aE),(x13,x14))
def QI(x8 x32 x33:Int)(x34 x35:List Int):Option (Step (Int×Int×Int×(List Int)×(List Int)) (Int×Int×(List Int)×(List Int))):=
  some (.next (bC (x8 - 1),x32,x33,x34,x35))
def BT(x27 x36 x37:Int)(x38 x39:List Int):Option (Step (Int×Int×Int×(List Int)×(List Int)) (Int×Int×(List Int)×(List Int))):=
  some (.next (bC (x27+1),x36,x37,x38,x39))
def IU(x27 x41 x42:Int)(x43 x44:List Int):Option (Step (Int×Int×Int×(List Int)×(List Int)) (Int×Int×(List Int)×(List Int))):=
  BT x27 x41 x42 x43 x44
def QJ(c:aJ)(x17:List Int):(Int×Int×Int×(List Int)×(List Int))→Option (Step (Int×Int×Int×(List Int)×(List Int)) (Int×Int×(List Int)×(List Int)))
  | (x27,x28,x29,x30,x31)=>(if decide (x27 < (x17.length:Int)) then (nD (⟨c.b,x28,x29⟩:aJ) 3).bind fun x40=>(if x40.1 then (idx x17 x27).bind fun x45=>(aO (⟨c.b,x40.2.1,x40.2.2⟩:aJ) 7).bind fun x46=>(KC (⟨x30,x31⟩:aE) x45 (bC (1+x46.1))).bind fun x47=>IU x27 x46.2.1 x46.2.2 x47.1.Bytes x47.1.Class else BT x27 x40.2.1 x40.2.2 x30 x31) else some (.stop ((x28,x29,x30,x31))))
def QK(x8:Int):(Int×Int×(List Int)×(List Int))→Option (Step (Int×Int×Int×(List Int)×(List Int)) (Int×Int×(List Int)×(List Int)))
  | (x32,x33,x34,x35)=>QI x8 x32 x33 x34 x35
def IV(c:aJ)(x8:Int)(x17:List Int)(x18 x19:Int)(x20 x21:List Int):Option (Step (Int×Int×Int×(List Int)×(List Int)) (Int×Int×(List Int)×(List Int))):=
  (loop (QJ c x17) (0,x18,x19,x20,x21)).bind (QK x8)
def QL(c:aJ):(Int×Int×Int×(List Int)×(List Int))→Option (Step (Int×Int×Int×(List Int)×(List Int)) (Int×Int×(List Int)×(List Int)))
  | (x8,x9,x10,x11,x12)=>(if decide (0 < x8) then (aO (⟨c.b,x9,x10⟩:aJ) 3).bind fun x48=>(NT (⟨x11,x12⟩:aE) x48.1).bind fun x49=>IV c x8 x49.2 x48.2.1 x48.2.2 x49.1.Bytes x49.1.Class else some (.stop ((x9,x10,x11,x12))))
def aCX:(Int×Int×(List Int)×(List Int))→Option (aE×(Int×Int))
  | (x13,x14,x15,x16)=>aCW x13 x14 x15 x16
def KD(c:aJ):Option (aE×(Int×Int)):=
  (BP).bind fun x1=>(aO c 7).bind fun x2=>(loop (QL c) (x2.1,x2.2.1,x2.2.2,x1.Bytes,x1.Class)).bind (aCX)
def lI(x2 x3:Int)(x4 x5:List Int):Option (aE×(Int×Int)):=
  some ((⟨x4,x5⟩:aE),(x2,x3))
def LC(x1:aE×(Int×Int))(x7 x8:Int)(x9:List Int):Option (aE×(Int×Int)):=
  lI x7 x8 x9 x1.1.Class
def LD(x1:aE×(Int×Int))(x11 x12:Int)(x13:List Int):Option (aE×(Int×Int)):=
  lI x11 x12 x1.1.Bytes x13
def LF(x1:aE×(Int×Int))(x17 x18:Int)(x19:List Int):Option (aE×(Int×Int)):=
  lI x17 x18 x19 x1.1.Class
def NV(c:aJ):Option (aE×(Int×Int)):=
  (KD c).bind fun x1=>(aO (⟨c.b,x1.2.1,x1.2.2⟩:aJ) 24).bind fun x6=>(if x6.1 == 0 then (aO (⟨c.b,x6.2.1,x6.2.2⟩:aJ) (x1.1.Bytes.length:Int)).bind fun x10=>need (0≤(x10.1:Int)∧(x10.1:Int)≤(x1.1.Bytes.length:Int))<|LC x1 x10.2.1 x10.2.2 ((x1.1.Bytes.take x10.1.toNat).drop 0) else (if x6.1 == 1 then need (x1.1.Class.length+([0]).length≤1073741824) (lI x6.2.1 x6.2.2 x1.1.Bytes (x1.1.Class++([0]))) else (if x6.1 == 2 then (aO (⟨c.b,x6.2.1,x6.2.2⟩:aJ) (x1.1.Class.length:Int)).bind fun x14=>(eJ (⟨c.b,x14.2.1,x14.2.2⟩:aJ) ([(-2),3,0,(-1)]:List Int)).bind fun x15=>(idx x1.1.Class x14.1).bind fun x16=>LD x1 x15.2.1 x15.2.2 (x1.1.Class.set x14.1.toNat x15.1) else (if x6.1 == 3 then (aO (⟨c.b,x6.2.1,x6.2.2⟩:aJ) (x1.1.Bytes.length:Int)).bind fun x20=>(eJ (⟨c.b,x20.2.1,x20.2.2⟩:aJ) ([(-1),256,171,1]:List Int)).bind fun x21=>(idx x1.1.Bytes x20.1).bind fun x22=>LF x1 x21.2.1 x21.2.2 (x1.1.Bytes.set x20.1.toNat x21.1) else (if x6.1 == 4 then (aO (⟨c.b,x6.2.1,x6.2.2⟩:aJ) 6).bind fun x23=>(aO (⟨c.b,x23.2.1,x23.2.2⟩:aJ) 12).bind fun x24=>(aO (⟨c.b,x24.2.1,x24.2.2⟩:aJ) 9).bind fun x25=>(idx x1.1.Bytes (bC ((bC (x23.1 * 64))+x24.1))).bind fun x26=>lI x25.2.1 x25.2.2 (x1.1.Bytes.set ((bC ((bC (x23.1 * 64))+x24.1)).toNat) x25.1) x1.1.Class else lI x6.2.1 x6.2.2 x1.1.Bytes x1.1.Class)))))
def vU(w_ c slot:Int)(x1:aB)(x2:Bool):Option (aB×Bool):=
  (if x2 then some (x1,false) else (E2 x1 w_ c slot).bind fun x3=>some (x3,true))
def SA(l:aB)(w_ c slot:Int):Option (aB×Bool):=
  (tG l).bind fun x1=>(pS l).bind fun x4=>(if !x4 then vU w_ c slot x1 true else (lV w_ c).bind fun x5=>(if decide (x5 < 0) then vU w_ c slot x1 true else (bJ slot 0 23).bind fun x6=>(if !x6 then vU w_ c slot x1 true else (C9 l).bind fun x7=>(y6 x7 slot).bind fun x8=>vU w_ c slot x1 x8)))
def ZS(x13 x14:Int)(x15 x16:List aH):Option (aB×(Int×Int)):=
  some ((⟨x15,x16⟩:aB),(x13,x14))
def GC(x8 x17 x18:Int)(x19 x20:List aH):Option (Step (Int×Int×Int×(List aH)×(List aH)) (Int×Int×(List aH)×(List aH))):=
  some (.next (bC (x8 - 1),x17,x18,x19,x20))
def O2(c:aJ):(Int×Int×Int×(List aH)×(List aH))→Option (Step (Int×Int×Int×(List aH)×(List aH)) (Int×Int×(List aH)×(List aH)))
  | (x8,x9,x10,x11,x12)=>(if decide (0 < x8) then (aO (⟨c.b,x9,x10⟩:aJ) 3).bind fun x21=>(aO (⟨c.b,x21.2.1,x21.2.2⟩:aJ) 3).bind fun x22=>(aO (⟨c.b,x22.2.1,x22.2.2⟩:aJ) 24).bind fun x23=>(SA (⟨x11,x12⟩:aB) x21.1 x22.1 x23.1).bind fun x24=>GC x8 x23.2.1 x23.2.2 x24.1.Global x24.1.bQ else some (.stop ((x9,x10,x11,x12))))
def ZT:(Int×Int×(List aH)×(List aH))→Option (aB×(Int×Int))
  | (x13,x14,x15,x16)=>ZS x13 x14 x15 x16
def HO(c:aJ):Option (aB×(Int×Int)):=
  (sB).bind fun x1=>(aO c 14).bind fun x2=>(loop (O2 c) (x2.1,x2.2.1,x2.2.2,x1.Global,x1.bQ)).bind (ZT)
def nK(x2 x3:Int)(x4 x5:List aH):Option (aB×(Int×Int)):=
  some ((⟨x4,x5⟩:aB),(x2,x3))
def LG(x1:aB×(Int×Int))(x7 x8:Int)(x9:List aH):Option (aB×(Int×Int)):=
  nK x7 x8 x1.1.Global x9
def LH(x1:aB×(Int×Int))(x13 x14:Int)(x15:List aH):Option (aB×(Int×Int)):=
  nK x13 x14 x15 x1.1.bQ
def NW(c:aJ):Option (aB×(Int×Int)):=
  (HO c).bind fun x1=>(aO (⟨c.b,x1.2.1,x1.2.2⟩:aJ) 20).bind fun x6=>(if x6.1 == 0 then need (0≤(2:Int)∧(2:Int)≤(x1.1.Global.length:Int)) (nK x6.2.1 x6.2.2 ((x1.1.Global.take ((2:Int).toNat)).drop 0) x1.1.bQ) else (if x6.1 == 1 then need (x1.1.bQ.length+([(⟨[]⟩:aH)]).length≤1073741824) (nK x6.2.1 x6.2.2 x1.1.Global (x1.1.bQ++([(⟨[]⟩:aH)]))) else (if x6.1 == 2 then (aO (⟨c.b,x6.2.1,x6.2.2⟩:aJ) (x1.1.bQ.length:Int)).bind fun x10=>(idx x1.1.bQ x10.1).bind fun x11=>LG x1 x10.2.1 x10.2.2 (x1.1.bQ.set x10.1.toNat (⟨([1,2,3]:List Int)⟩:aH)) else (if x6.1 == 3 then (aO (⟨c.b,x6.2.1,x6.2.2⟩:aJ) 3).bind fun x12=>(idx x1.1.Global x12.1).bind fun x16=>(eJ (⟨c.b,x12.2.1,x12.2.2⟩:aJ) ([(-1),24,5,6]:List Int)).bind fun x17=>need (x16.aN.length+([x17.1]).length≤1073741824)<|LH x1 x17.2.1 x17.2.2 (x1.1.Global.set x12.1.toNat (⟨x16.aN++([x17.1])⟩:aH)) else nK x6.2.1 x6.2.2 x1.1.Global x1.1.bQ))))
def xH(x2 x6 x7:Int)(x8:Mem):Option (Mem×Int×(Int×Int)):=
  some (x8,x2,(x6,x7))
def xI(c:aJ)(x2 x3 x4:Int)(x5:Mem):Option (Mem×Int×(Int×Int)):=
  (aO (⟨c.b,x3,x4⟩:aJ) 24).bind fun x9=>(if x9.1 == 0 then (NV (⟨c.b,x9.2.1,x9.2.2⟩:aJ)).bind fun x10=>xH x2 x10.2.1 x10.2.2 (⟨x10.1,x5.aB⟩:Mem) else (if x9.1 == 1 then (NW (⟨c.b,x9.2.1,x9.2.2⟩:aJ)).bind fun x11=>xH x2 x11.2.1 x11.2.2 (⟨x5.aE,x11.1⟩:Mem) else xH x2 x9.2.1 x9.2.2 x5))
def NX(c:aJ):Option (Mem×Int×(Int×Int)):=
  (KB c 22).bind fun x1=>(nD (⟨c.b,x1.2.2.1,x1.2.2.2⟩:aJ) 6).bind fun x12=>(if x12.1 then (nJ (⟨c.b,x12.2.1,x12.2.2⟩:aJ)).bind fun x13=>xI c x13.1 x13.2.1 x13.2.2 x1.1 else xI c x1.2.1 x12.2.1 x12.2.2 x1.1)
def XG(x13 x14 x15:Int)(x16:List iI):Option (aK×(Int×Int)):=
  some ((⟨x15,x16⟩:aK),(x13,x14))
def lT(x8 x18 x19 x20:Int)(x21:List iI):Option (Step (Int×Int×Int×Int×(List iI)) (Int×Int×Int×(List iI))):=
  some (.next (bC (x8 - 1),x18,x19,x20,x21))
def vV(x8 x11:Int)(x12:List iI)(x17 x22:Int×(Int×Int))(x25:Bool):Option (Step (Int×Int×Int×Int×(List iI)) (Int×Int×Int×(List iI))):=
  (if x25 then (E1 (⟨x11,x12⟩:aK) x17.1 x11).bind fun x26=>lT x8 x22.2.1 x22.2.2 x26.1.aM x26.1.bG else (MK (⟨x11,x12⟩:aK) x11).bind fun x27=>lT x8 x22.2.1 x22.2.2 x27.1.aM x27.1.bG)
def MO(c:aJ):(Int×Int×Int×Int×(List iI))→Option (Step (Int×Int×Int×Int×(List iI)) (Int×Int×Int×(List iI)))
  | (x8,x9,x10,x11,x12)=>(if decide (0 < x8) then (aO (⟨c.b,x9,x10⟩:aJ) 3).bind fun x17=>(aO (⟨c.b,x17.2.1,x17.2.2⟩:aJ) 6).bind fun x22=>(if x22.1 == 0 then (IG (⟨x11,x12⟩:aK) x17.1 x11).bind fun x23=>lT x8 x22.2.1 x22.2.2 x23.1.aM x23.1.bG else (if x22.1 == 1 then (y9 (⟨x11,x12⟩:aK) x17.1).bind fun x24=>lT x8 x22.2.1 x22.2.2 x24.1.aM x24.1.bG else (if x22.1 == 2 then vV x8 x11 x12 x17 x22 true else vV x8 x11 x12 x17 x22 (x22.1 == 3)))) else some (.stop ((x9,x10,x11,x12))))
def XH:(Int×Int×Int×(List iI))→Option (aK×(Int×Int))
  | (x13,x14,x15,x16)=>XG x13 x14 x15 x16
def EE(c:aJ):Option (aK×(Int×Int)):=
  (xF).bind fun x1=>(aO c 16).bind fun x2=>(loop (MO c) (x2.1,x2.2.1,x2.2.2,x1.aM,x1.bG)).bind (XH)
def iM(x3 x4 x5:Int)(x6:List iI):Option (aK×(Int×Int)):=
  some ((⟨x5,x6⟩:aK),(x3,x4))
def KE(c:aJ):Option (aK×(Int×Int)):=
  (EE c).bind fun x1=>(aO (⟨c.b,x1.2.1,x1.2.2⟩:aJ) 3).bind fun x2=>(aO (⟨c.b,x2.2.1,x2.2.2⟩:aJ) 24).bind fun x7=>(if x7.1 == 0 then (eJ (⟨c.b,x7.2.1,x7.2.2⟩:aJ) ([(-1),100000,100001]:List Int)).bind fun x8=>iM x8.2.1 x8.2.2 x8.1 x1.1.bG else (if x7.1 == 1 then need (0≤(x2.1:Int)∧(x2.1:Int)≤(x1.1.bG.length:Int)) (iM x7.2.1 x7.2.2 x1.1.aM ((x1.1.bG.take x2.1.toNat).drop 0)) else (if x7.1 == 2 then (idx x1.1.bG x2.1).bind fun x9=>iM x7.2.1 x7.2.2 x1.1.aM (x1.1.bG.set x2.1.toNat (⟨false,1,false,0⟩:iI)) else (if x7.1 == 3 then (idx x1.1.bG x2.1).bind fun x10=>iM x7.2.1 x7.2.2 x1.1.aM (x1.1.bG.set x2.1.toNat (⟨true,bC (x1.1.aM+1),false,0⟩:iI)) else (if x7.1 == 4 then (idx x1.1.bG x2.1).bind fun x11=>iM x7.2.1 x7.2.2 x1.1.aM (x1.1.bG.set x2.1.toNat (⟨true,0,false,3⟩:iI)) else (if x7.1 == 5 then (idx x1.1.bG x2.1).bind fun x12=>iM x7.2.1 x7.2.2 x1.1.aM (x1.1.bG.set x2.1.toNat (⟨true,0,true,0⟩:iI)) else iM x7.2.1 x7.2.2 x1.1.aM x1.1.bG))))))
def vW(l:List aP)(w_ h e_:Int)(x1:(List aP))(x2:Bool):Option ((List aP)×Bool):=
  (if x2 then some (x1,false) else (idx x1 w_).bind fun x3=>need (x3.Rows.length+([(⟨h,e_⟩:b8)]).length≤1073741824) ((uW (x1.set w_.toNat (⟨x3.Rows++([(⟨h,e_⟩:b8)])⟩:aP))).bind fun x4=>(if !x4 then (uZ l).bind fun x5=>some (x5,false) else some (x1.set w_.toNat (⟨x3.Rows++([(⟨h,e_⟩:b8)])⟩:aP),true))))
def EF(l:List aP)(w_ h e_:Int):Option ((List aP)×Bool):=
  (uZ l).bind fun x1=>(uW l).bind fun x6=>(if !x6 then vW l w_ h e_ x1 true else (bJ w_ 0 2).bind fun x7=>vW l w_ h e_ x1 (!x7))
def XI(x11:List aP)(x12 x13:Int):Option ((List aP)×(Int×Int)):=
  some (x11,(x12,x13))
def MP(c:aJ):((List aP)×Int×Int×Int)→Option (Step ((List aP)×Int×Int×Int) ((List aP)×Int×Int))
  | (x7,x8,x9,x10)=>(if decide (0 < x8) then (aO (⟨c.b,x9,x10⟩:aJ) 3).bind fun x14=>(nJ (⟨c.b,x14.2.1,x14.2.2⟩:aJ)).bind fun x15=>(aO (⟨c.b,x15.2.1,x15.2.2⟩:aJ) 6).bind fun x16=>(EF x7 x14.1 x15.1 x16.1).bind fun x17=>some (.next (x17.1,bC (x8 - 1),x16.2.1,x16.2.2)) else some (.stop ((x7,x9,x10))))
def XJ:((List aP)×Int×Int)→Option ((List aP)×(Int×Int))
  | (x11,x12,x13)=>XI x11 x12 x13
def EG(c:aJ):Option ((List aP)×(Int×Int)):=
  (xG).bind fun x1=>(aO c 10).bind fun x2=>(loop (MP c) (x1,x2.1,x2.2.1,x2.2.2)).bind (XJ)
def pD(x2:List aP)(x3 x4:Int):Option ((List aP)×(Int×Int)):=
  some (x2,(x3,x4))
def IW(x7:List aP)(x8 x9:Int):Option ((List aP)×(Int×Int)):=
  pD x7 x8 x9
def KF(c:aJ):Option ((List aP)×(Int×Int)):=
  (EG c).bind fun x1=>(aO (⟨c.b,x1.2.1,x1.2.2⟩:aJ) 20).bind fun x5=>(if x5.1 == 0 then need (0≤(1:Int)∧(1:Int)≤(x1.1.length:Int)) (some ((x1.1.take ((1:Int).toNat)).drop 0,(x5.2.1,x5.2.2))) else (if x5.1 == 1 then (idx x1.1 0).bind fun x6=>need (x6.Rows.length+([(⟨33,1⟩:b8),(⟨65,1⟩:b8)]:List b8).length≤1073741824) (pD (x1.1.set ((0:Int).toNat) (⟨x6.Rows++([(⟨33,1⟩:b8),(⟨65,1⟩:b8)]:List b8)⟩:aP)) x5.2.1 x5.2.2) else (if x5.1 == 2 then (idx x1.1 1).bind fun x10=>(nJ (⟨c.b,x5.2.1,x5.2.2⟩:aJ)).bind fun x11=>need (x10.Rows.length+([(⟨x11.1,(-1)⟩:b8)]).length≤1073741824)<|IW (x1.1.set ((1:Int).toNat) (⟨x10.Rows++([(⟨x11.1,(-1)⟩:b8)])⟩:aP)) x11.2.1 x11.2.2 else (if x5.1 == 3 then (idx x1.1 2).bind fun x12=>need (x12.Rows.length+([(⟨0,0⟩:b8)]).length≤1073741824) (pD (x1.1.set ((2:Int).toNat) (⟨x12.Rows++([(⟨0,0⟩:b8)])⟩:aP)) x5.2.1 x5.2.2) else pD x1.1 x5.2.1 x5.2.2))))
def BU(x14:List Int)(x15 x16:Int):Option ((List Int)×(Int×Int)):=
  some (x14,(x15,x16))
def QM(c:aJ)(x11:List Int)(x12 x13:Int):Option ((List Int)×(Int×Int)):=
  (aO (⟨c.b,x12,x13⟩:aJ) 20).bind fun x17=>(if x17.1 == 0 then need (0≤(2:Int)∧(2:Int)≤(x11.length:Int)) (some ((x11.take ((2:Int).toNat)).drop 0,(x17.2.1,x17.2.2))) else (if x17.1 == 1 then (aO (⟨c.b,x17.2.1,x17.2.2⟩:aJ) 3).bind fun x18=>(eJ (⟨c.b,x18.2.1,x18.2.2⟩:aJ) ([(-1),31,56,224]:List Int)).bind fun x19=>(idx x11 x18.1).bind fun x20=>BU (x11.set x18.1.toNat x19.1) x19.2.1 x19.2.2 else BU x11 x17.2.1 x17.2.2))
def QN(c:aJ):((List Int)×Int×Int×Int)→Option (Step ((List Int)×Int×Int×Int) ((List Int)×Int×Int))
  | (x7,x8,x9,x10)=>(if decide (0 < x8) then (aO (⟨c.b,x9,x10⟩:aJ) 3).bind fun x21=>(aO (⟨c.b,x21.2.1,x21.2.2⟩:aJ) 4).bind fun x22=>(aO (⟨c.b,x22.2.1,x22.2.2⟩:aJ) 2).bind fun x23=>(nG x22.1 (bC (1+x23.1))).bind fun x24=>(vD x7 x21.1 x24).bind fun x25=>some (.next (x25.1,bC (x8 - 1),x23.2.1,x23.2.2)) else some (.stop ((x7,x9,x10))))
def QO(c:aJ):((List Int)×Int×Int)→Option ((List Int)×(Int×Int))
  | (x11,x12,x13)=>QM c x11 x12 x13
def KG(c:aJ):Option ((List Int)×(Int×Int)):=
  (FD).bind fun x1=>(aO c 4).bind fun x2=>(loop (QN c) (x1,x2.1,x2.2.1,x2.2.2)).bind (QO c)
def lY(x1:aD×Int×(Int×Int))(x2 x3:Int)(x4:aD):Option (aD×Int×(Int×Int)):=
  some (x4,x1.2.1,(x2,x3))
def KH(c:aJ):Option (aD×Int×(Int×Int)):=
  (HL c 26).bind fun x1=>(aO (⟨c.b,x1.2.2.1,x1.2.2.2⟩:aJ) 28).bind fun x5=>(if x5.1 == 0 then (NX (⟨c.b,x5.2.1,x5.2.2⟩:aJ)).bind fun x6=>lY x1 x6.2.2.1 x6.2.2.2 (⟨x6.1,x1.1.aK,x1.1.bB,x1.1.lZ⟩:aD) else (if x5.1 == 1 then (KE (⟨c.b,x5.2.1,x5.2.2⟩:aJ)).bind fun x7=>lY x1 x7.2.1 x7.2.2 (⟨x1.1.Mem,x7.1,x1.1.bB,x1.1.lZ⟩:aD) else (if x5.1 == 2 then (KF (⟨c.b,x5.2.1,x5.2.2⟩:aJ)).bind fun x8=>lY x1 x8.2.1 x8.2.2 (⟨x1.1.Mem,x1.1.aK,x8.1,x1.1.lZ⟩:aD) else (if x5.1 == 3 then (KG (⟨c.b,x5.2.1,x5.2.2⟩:aJ)).bind fun x9=>lY x1 x9.2.1 x9.2.2 (⟨x1.1.Mem,x1.1.aK,x1.1.bB,x9.1⟩:aD) else lY x1 x5.2.1 x5.2.2 x1.1))))
def EH(x1:Int×(Int×Int))(x4 x5 x6 x7 x8:Int):Option (eM×(Int×Int)):=
  some ((⟨x1.1,x4,x7,x8⟩:eM),(x5,x6))
def EI(c:aJ)(x1:Int×(Int×Int))(x4 x10 x11 x12:Int):Option (eM×(Int×Int)):=
  (aO (⟨c.b,x10,x11⟩:aJ) 60000).bind fun x13=>EH x1 x4 x13.2.1 x13.2.2 x12 x13.1
def xJ(c:aJ)(x1:Int×(Int×Int))(x2 x3 x4:Int):Option (eM×(Int×Int)):=
  (if x1.1 == 1 then (aO (⟨c.b,x2,x3⟩:aJ) 40).bind fun x9=>(nD (⟨c.b,x9.2.1,x9.2.2⟩:aJ) 12).bind fun x14=>(if x14.1 then (eJ (⟨c.b,x14.2.1,x14.2.2⟩:aJ) ([0,41,100]:List Int)).bind fun x15=>EI c x1 x4 x15.2.1 x15.2.2 x15.1 else EI c x1 x4 x14.2.1 x14.2.2 (bC (1+x9.1))) else EH x1 x4 x2 x3 0 0)
def IX(c:aJ):Option (eM×(Int×Int)):=
  (eJ c ([1,1,1,2,2,3,3,4,4,5,6,7,7]:List Int)).bind fun x1=>(tF x1.1).bind fun x16=>(if x16 then (eJ (⟨c.b,x1.2.1,x1.2.2⟩:aJ) ([0,0,0,1]:List Int)).bind fun x17=>xJ c x1 x17.2.1 x17.2.2 x17.1 else xJ c x1 x1.2.1 x1.2.2 0)
def VE(x9:List Queue)(x10 x11:Int):Option ((List Queue)×(Int×Int)):=
  some (x9,(x10,x11))
def KI(x5:List Queue)(x6 x21 x22:Int)(x23:List eM):Option (Step ((List Queue)×Int×Int×Int) ((List Queue)×Int×Int)):=
  need (x5.length+([(⟨x23⟩:Queue)]).length≤1073741824) (some (.next (x5++([(⟨x23⟩:Queue)]),bC (x6+1),x21,x22)))
def BV(x17 x24 x25:Int)(x26:List eM):Option (Step (Int×Int×Int×(List eM)) (Int×Int×(List eM))):=
  some (.next (bC (x17 - 1),x24,x25,x26))
def KJ(c:aJ):(Int×Int×Int×(List eM))→Option (Step (Int×Int×Int×(List eM)) (Int×Int×(List eM)))
  | (x17,x18,x19,x20)=>(if decide (0 < x17) then (IX (⟨c.b,x18,x19⟩:aJ)).bind fun x27=>need (x20.length+([x27.1]).length≤1073741824)<|BV x17 x27.2.1 x27.2.2 (x20++([x27.1])) else some (.stop ((x18,x19,x20))))
def KK(x5:List Queue)(x6:Int):(Int×Int×(List eM))→Option (Step ((List Queue)×Int×Int×Int) ((List Queue)×Int×Int))
  | (x21,x22,x23)=>KI x5 x6 x21 x22 x23
def KL(c:aJ)(most:Int):((List Queue)×Int×Int×Int)→Option (Step ((List Queue)×Int×Int×Int) ((List Queue)×Int×Int))
  | (x5,x6,x7,x8)=>(if decide (x6 < 3) then (aO (⟨c.b,x7,x8⟩:aJ) (bC (most+1))).bind fun x12=>(loop (KJ c) (x12.1,x12.2.1,x12.2.2,[])).bind (KK x5 x6) else some (.stop ((x5,x7,x8))))
def VF:((List Queue)×Int×Int)→Option ((List Queue)×(Int×Int))
  | (x9,x10,x11)=>VE x9 x10 x11
def BW(c:aJ)(most:Int):Option ((List Queue)×(Int×Int)):=
  (loop (KL c most) (([]:List Queue),0,c.i,c.h)).bind (VF)
def MQ(x2:aC):Option aC:=
  some ({x2 with Log:=[]}:aC)
def EJ(todo:List Queue):Option aC:=
  (AF todo).bind fun x1=>(if !x1 then some (⟨(⟨(⟨(⟨[],[]⟩:aE),(⟨[],[]⟩:aB)⟩:Mem),(⟨0,[]⟩:aK),[],[]⟩:aD),[],[],[],[],0⟩:aC) else (BQ).bind fun x3=>need (0≤(2:Int)∧(2:Int)≤4294967296)<|need (0≤(3:Int)∧(3:Int)≤4294967296)<|(tI todo).bind fun x4=>MQ (⟨x3,List.replicate ((2:Int).toNat) 0,List.replicate ((3:Int).toNat) (⟨false,(⟨0,0,0,0⟩:eM),0,0,(⟨0,0,0,0,0,0,0,0,0,false⟩:Sub),0,0,0,0⟩:bX),x4,[],0⟩:aC))
def sL(w_:Int)(x2:Bool)(x3:aC):Option aC:=
  (if x2 then some x3 else (DB x3 w_).bind fun x4=>some x4)
def BX(s:aC)(w_:Int):Option aC:=
  (AI s).bind fun x1=>(m3 s).bind fun x5=>(if !x5 then sL w_ true x1 else (bJ w_ 0 2).bind fun x6=>sL w_ (!x6) x1)
def XL(x12 x13:Int)(x14:aC):Option (aC×(Int×Int)):=
  some (x14,(x12,x13))
def DJ(x8 x15 x16:Int)(x17:aC):Option (Step (Int×Int×Int×aC) (Int×Int×aC)):=
  some (.next (bC (x8 - 1),x15,x16,x17))
def MR(c:aJ):(Int×Int×Int×aC)→Option (Step (Int×Int×Int×aC) (Int×Int×aC))
  | (x8,x9,x10,x11)=>(if decide (0 < x8) then (aO (⟨c.b,x9,x10⟩:aJ) 3).bind fun x18=>(BX x11 x18.1).bind fun x19=>DJ x8 x18.2.1 x18.2.2 x19 else some (.stop ((x9,x10,x11))))
def XM:(Int×Int×aC)→Option (aC×(Int×Int))
  | (x12,x13,x14)=>XL x12 x13 x14
def EK(c:aJ)(most:Int):Option (aC×(Int×Int)):=
  (BW c 7).bind fun x1=>(EJ x1.1).bind fun x2=>(aO (⟨c.b,x1.2.1,x1.2.2⟩:aJ) most).bind fun x3=>(loop (MR c) (x3.1,x3.2.1,x3.2.2,x2)).bind (XM)
def fY(x3 x4:Int)(x5:aC):Option (aC×(Int×Int)):=
  some (x5,(x3,x4))
def KM(c:aJ)(most:Int):Option (aC×(Int×Int)):=
  (EK c most).bind fun x1=>(aO (⟨c.b,x1.2.1,x1.2.2⟩:aJ) 3).bind fun x2=>(aO (⟨c.b,x2.2.1,x2.2.2⟩:aJ) 30).bind fun x6=>(if x6.1 == 0 then (KH (⟨c.b,x6.2.1,x6.2.2⟩:aJ)).bind fun x7=>fY x7.2.2.1 x7.2.2.2 (⟨x7.1,x1.1.Cells,x1.1.aT,x1.1.cZ,x1.1.Log,x1.1.aQ⟩:aC) else (if x6.1 == 1 then need (x1.1.Cells.length+([0]).length≤1073741824) (fY x6.2.1 x6.2.2 (⟨x1.1.aD,x1.1.Cells++([0]),x1.1.aT,x1.1.cZ,x1.1.Log,x1.1.aQ⟩:aC)) else (if x6.1 == 2 then (eJ (⟨c.b,x6.2.1,x6.2.2⟩:aJ) ([(-1),33,31,56]:List Int)).bind fun x8=>(idx x1.1.Cells 0).bind fun x9=>fY x8.2.1 x8.2.2 (⟨x1.1.aD,x1.1.Cells.set ((0:Int).toNat) x8.1,x1.1.aT,x1.1.cZ,x1.1.Log,x1.1.aQ⟩:aC) else (if x6.1 == 3 then (aO (⟨c.b,x6.2.1,x6.2.2⟩:aJ) 11).bind fun x10=>(idx x1.1.aT x2.1).bind fun x11=>fY x10.2.1 x10.2.2 (⟨x1.1.aD,x1.1.Cells,x1.1.aT.set x2.1.toNat ({x11 with Pc:=bC (x10.1 - 1)}:bX),x1.1.cZ,x1.1.Log,x1.1.aQ⟩:aC) else (if x6.1 == 4 then (nJ (⟨c.b,x6.2.1,x6.2.2⟩:aJ)).bind fun x12=>(idx x1.1.aT x2.1).bind fun x13=>fY x12.2.1 x12.2.2 (⟨x1.1.aD,x1.1.Cells,x1.1.aT.set x2.1.toNat ({x13 with H:=x12.1}:bX),x1.1.cZ,x1.1.Log,x1.1.aQ⟩:aC) else (if x6.1 == 5 then need (0≤(x2.1:Int)∧(x2.1:Int)≤(x1.1.cZ.length:Int)) (fY x6.2.1 x6.2.2 (⟨x1.1.aD,x1.1.Cells,x1.1.aT,(x1.1.cZ.take x2.1.toNat).drop 0,x1.1.Log,x1.1.aQ⟩:aC)) else (if x6.1 == 6 then (IX (⟨c.b,x6.2.1,x6.2.2⟩:aJ)).bind fun x14=>(aO (⟨c.b,x14.2.1,x14.2.2⟩:aJ) 5).bind fun x15=>(idx x1.1.aT x2.1).bind fun x16=>fY x15.2.1 x15.2.2 (⟨x1.1.aD,x1.1.Cells,x1.1.aT.set x2.1.toNat (⟨true,x14.1,0,x15.1,(⟨0,0,0,0,0,0,0,0,0,false⟩:Sub),0,0,0,0⟩:bX),x1.1.cZ,x1.1.Log,x1.1.aQ⟩:aC) else (if x6.1 == 7 then (eJ (⟨c.b,x6.2.1,x6.2.2⟩:aJ) ([(-1),1000000,1000001]:List Int)).bind fun x17=>fY x17.2.1 x17.2.2 (⟨x1.1.aD,x1.1.Cells,x1.1.aT,x1.1.cZ,x1.1.Log,x17.1⟩:aC) else fY x6.2.1 x6.2.2 x1.1))))))))
def BY(x2:aC):Option aC:=
  some x2
def BZ(w_:Int)(x3:Bool)(x4:aC):Option aC:=
  (if x3 then (rI x4 w_).bind fun x5=>BY x5 else BY x4)
def QP(s:aC)(w_:Int):Option aC:=
  (oT s).bind fun x1=>(qG s).bind fun x6=>(if x6 then (fA w_).bind fun x7=>BZ w_ x7 x1 else BZ w_ false x1)
def VG:Option Bool:=
  some true
def B3(a_ b:List Int):Int→Option (Step Int (Out Unit Bool))
  | x2=>(if decide (x2 < (a_.length:Int)) then (idx a_ x2).bind fun x3=>(idx b x2).bind fun x4=>(if x3 != x4 then some (.stop (Out.ret false)) else some (.next (bC (x2+1)))) else some (.stop (Out.brk ())))
def VH:(Out Unit Bool)→Option Bool
  | .brk ()=>VG
  | .ret r=>some r
def jP(a_ b:List Int):Option Bool:=
  (if (a_.length:Int) != (b.length:Int) then some false else (loop (B3 a_ b) 0).bind (VH))
def DK(x1:Bool):Option Bool:=
  some x1
def LI(a_ b:aE):Option Bool:=
  (jP a_.Bytes b.Bytes).bind fun x2=>(if x2 then (jP a_.Class b.Class).bind fun x3=>DK x3 else DK false)
def aCY:Option Bool:=
  some true
def IY(a_ b:List aH):Int→Option (Step Int (Out Unit Bool))
  | x2=>(if decide (x2 < (a_.length:Int)) then (idx a_ x2).bind fun x3=>(idx b x2).bind fun x4=>(jP x3.aN x4.aN).bind fun x5=>(if !x5 then some (.stop (Out.ret false)) else some (.next (bC (x2+1)))) else some (.stop (Out.brk ())))
def aCZ:(Out Unit Bool)→Option Bool
  | .brk ()=>aCY
  | .ret r=>some r
def FE(a_ b:List aH):Option Bool:=
  (if (a_.length:Int) != (b.length:Int) then some false else (loop (IY a_ b) 0).bind (aCZ))
def B4(x1:Bool):Option Bool:=
  some x1
def IZ(a_ b:aB):Option Bool:=
  (FE a_.Global b.Global).bind fun x2=>(if x2 then (FE a_.bQ b.bQ).bind fun x3=>B4 x3 else B4 false)
def GD(x1:Bool):Option Bool:=
  some x1
def HP(a_ b:Mem):Option Bool:=
  (LI a_.aE b.aE).bind fun x2=>(if x2 then (IZ a_.aB b.aB).bind fun x3=>GD x3 else GD false)
def VI:Option Bool:=
  some true
def B5(a_ b:aK):Int→Option (Step Int (Out Unit Bool))
  | x3=>(if decide (x3 < (a_.bG.length:Int)) then (idx a_.bG x3).bind fun x4=>(idx b.bG x3).bind fun x5=>(if !(decide (x4=x5)) then some (.stop (Out.ret false)) else some (.next (bC (x3+1)))) else some (.stop (Out.brk ())))
def VJ:(Out Unit Bool)→Option Bool
  | .brk ()=>VI
  | .ret r=>some r
def sM(a_ b:aK)(x1:Bool):Option Bool:=
  (if x1 then some false else (loop (B5 a_ b) 0).bind (VJ))
def B6(a_ b:aK):Option Bool:=
  (if a_.aM != b.aM then sM a_ b true else sM a_ b ((a_.bG.length:Int) != (b.bG.length:Int)))
def VK:Option Bool:=
  some true
def KN(x2:Int):Option (Step Int (Out Unit Bool)):=
  some (.next (bC (x2+1)))
def sN(a_ b:List aP)(x2:Int):Int→Option (Step Int (Out Unit Bool))
  | x6=>(idx a_ x2).bind fun x7=>(if decide (x6 < (x7.Rows.length:Int)) then (idx a_ x2).bind fun x8=>(idx x8.Rows x6).bind fun x9=>(idx b x2).bind fun x10=>(idx x10.Rows x6).bind fun x11=>(if !(decide (x9=x11)) then some (.stop (Out.ret false)) else some (.next (bC (x6+1)))) else some (.stop (Out.brk ())))
def KO(x2:Int):(Out Unit Bool)→Option (Step Int (Out Unit Bool))
  | .brk ()=>KN x2
  | .ret r=>some (.stop (Out.ret r))
def B7(a_ b:List aP):Int→Option (Step Int (Out Unit Bool))
  | x2=>(if decide (x2 < (a_.length:Int)) then (idx a_ x2).bind fun x3=>(idx b x2).bind fun x4=>(if (x3.Rows.length:Int) != (x4.Rows.length:Int) then some (.stop (Out.ret false)) else (loop (sN a_ b x2) 0).bind (KO x2)) else some (.stop (Out.brk ())))
def VL:(Out Unit Bool)→Option Bool
  | .brk ()=>VK
  | .ret r=>some r
def B8(a_ b:List aP):Option Bool:=
  (if (a_.length:Int) != (b.length:Int) then some false else (loop (B7 a_ b) 0).bind (VL))
def pE(x1:Bool):Option Bool:=
  some x1
def EL(a_ b:aD):Option Bool:=
  (HP a_.Mem b.Mem).bind fun x2=>(if x2 then (B6 a_.aK b.aK).bind fun x3=>(if x3 then (B8 a_.bB b.bB).bind fun x4=>(if x4 then (jP a_.lZ b.lZ).bind fun x5=>pE x5 else pE false) else pE false) else pE false)
def VM:Option Bool:=
  some true
def B9(a_ b:aC):Int→Option (Step Int (Out Unit Bool))
  | x7=>(if decide (x7 < (a_.Log.length:Int)) then (idx a_.Log x7).bind fun x8=>(idx b.Log x7).bind fun x9=>(if !(decide (x8=x9)) then some (.stop (Out.ret false)) else some (.next (bC (x7+1)))) else some (.stop (Out.brk ())))
def VN:(Out Unit Bool)→Option Bool
  | .brk ()=>VM
  | .ret r=>some r
def KP(a_ b:aC):Option Bool:=
  (loop (B9 a_ b) 0).bind (VN)
def KQ(x5:Int):Option (Step Int (Out Unit Bool)):=
  some (.next (bC (x5+1)))
def sO(a_ b:aC)(x5:Int):Int→Option (Step Int (Out Unit Bool))
  | x13=>(idx a_.cZ x5).bind fun x14=>(if decide (x13 < (x14.gH.length:Int)) then (idx a_.cZ x5).bind fun x15=>(idx x15.gH x13).bind fun x16=>(idx b.cZ x5).bind fun x17=>(idx x17.gH x13).bind fun x18=>(if !(decide (x16=x18)) then some (.stop (Out.ret false)) else some (.next (bC (x13+1)))) else some (.stop (Out.brk ())))
def KR(x5:Int):(Out Unit Bool)→Option (Step Int (Out Unit Bool))
  | .brk ()=>KQ x5
  | .ret r=>some (.stop (Out.ret r))
def CA(a_ b:aC):Int→Option (Step Int (Out Unit Bool))
  | x5=>(if decide (x5 < (a_.cZ.length:Int)) then (idx a_.cZ x5).bind fun x10=>(idx b.cZ x5).bind fun x11=>(if (x10.gH.length:Int) != (x11.gH.length:Int) then some (.stop (Out.ret false)) else (loop (sO a_ b x5) 0).bind (KR x5)) else some (.stop (Out.brk ())))
def KS(a_ b:aC):(Out Unit Bool)→Option Bool
  | .brk ()=>KP a_ b
  | .ret r=>some r
def KT(a_ b:aC):Option Bool:=
  (loop (CA a_ b) 0).bind (KS a_ b)
def CB(a_ b:aC):Int→Option (Step Int (Out Unit Bool))
  | x3=>(if decide (x3 < (a_.aT.length:Int)) then (idx a_.aT x3).bind fun x19=>(idx b.aT x3).bind fun x20=>(if !(decide (x19=x20)) then some (.stop (Out.ret false)) else some (.next (bC (x3+1)))) else some (.stop (Out.brk ())))
def KU(a_ b:aC):(Out Unit Bool)→Option Bool
  | .brk ()=>KT a_ b
  | .ret r=>some r
def gO(a_ b:aC)(x1:Bool):Option Bool:=
  (if x1 then some false else (loop (CB a_ b) 0).bind (KU a_ b))
def t9(a_ b:aC):Option Bool:=
  (EL a_.aD b.aD).bind fun x21=>(if !x21 then gO a_ b true else (jP a_.Cells b.Cells).bind fun x22=>(if !x22 then gO a_ b true else (if (a_.aT.length:Int) != (b.aT.length:Int) then gO a_ b true else (if (a_.cZ.length:Int) != (b.cZ.length:Int) then gO a_ b true else (if (a_.Log.length:Int) != (b.Log.length:Int) then gO a_ b true else gO a_ b (a_.aQ != b.aQ))))))
def NY(c:aJ):Option (aC×(Int×Int)):=
  (KM c 60).bind fun x1=>(nD (⟨c.b,x1.2.1,x1.2.2⟩:aJ) 8).bind fun x2=>(if x2.1 then some (x1.1,(x2.2.1,x2.2.2)) else (E4 x1.1).bind fun x3=>some (x3,(x2.2.1,x2.2.2)))
def oD(code:List UInt8):Option (aC×Int):=
  (NS code).bind fun x1=>(NY (⟨code,x1.1,x1.2⟩:aJ)).bind fun x2=>(eJ (⟨code,x2.2.1,x2.2.2⟩:aJ) ([0,1,3,12,13,(-1),2]:List Int)).bind fun x3=>some (x2.1,x3.1)
def jQ(x16:Bool):Option Bool:=
  some x16
def FF(x2:aC×Int)(x14 x15:aC):Option Bool:=
  (m3 x15).bind fun x17=>(if x17 then (NR x14 x2.2).bind fun x18=>(E4 x15).bind fun x19=>(t9 x18 x19).bind fun x20=>(if x20 then (HZ x15).bind fun x21=>jQ (x21 == (x2.2 == 0)) else jQ false) else jQ false)
def FG(x11:Int)(x25 x26:aC):Option (Step (Int×aC×aC) (Out (aC×aC) Bool)):=
  some (.next (bC (x11+1),x25,x26))
def jR(x2:aC×Int)(x11:Int)(x12 x13:aC):Int→Option (Step Int (Out (aC×aC) Bool))
  | x24=>(if decide (x24 < x2.2) then (idx x13.cZ x11).bind fun x27=>(idx x27.gH x24).bind fun x28=>(if !(decide (x28=(⟨4,0,0,0⟩:eM))) then some (.stop (Out.ret false)) else some (.next (bC (x24+1)))) else some (.stop (Out.brk (x12,x13))))
def FH(x11:Int):(Out (aC×aC) Bool)→Option (Step (Int×aC×aC) (Out (aC×aC) Bool))
  | .brk (x25,x26)=>FG x11 x25 x26
  | .ret r=>some (.stop (Out.ret r))
def jS(x2:aC×Int):(Int×aC×aC)→Option (Step (Int×aC×aC) (Out (aC×aC) Bool))
  | (x11,x12,x13)=>(if decide (x11 < 3) then (idx x13.cZ x11).bind fun x22=>(if (x22.gH.length:Int) != x2.2 then some (.stop (Out.ret false)) else (loop (jR x2 x11 x12 x13) 0).bind (FH x11)) else some (.stop (Out.brk (x12,x13))))
def FI(x2:aC×Int):(Out (aC×aC) Bool)→Option Bool
  | .brk (x14,x15)=>FF x2 x14 x15
  | .ret r=>some r
def fE(x2:aC×Int)(x4:Bool)(x5 x6:aC):Option Bool:=
  (if x4 then (t9 x6 x5).bind fun x7=>some x7 else (if (x6.cZ.length:Int) != 3 then some false else (loop (jS x2) (0,x5,x6)).bind (FI x2)))
def CC(code:List UInt8):Option Bool:=
  (aCT code).bind fun x1=>(if x1 then some true else (oD code).bind fun x2=>(rE x2.1 x2.2).bind fun x3=>(m3 x2.1).bind fun x29=>(if !x29 then fE x2 true x2.1 x3 else (MJ x2.1).bind fun x30=>(if !x30 then fE x2 true x2.1 x3 else (if decide (x2.2 < 0) then fE x2 true x2.1 x3 else fE x2 (decide (12 < x2.2)) x2.1 x3))))
def QQ(x7:List Int):Option (List Int):=
  some x7
def jT:((List Int)×Int)→Option (Step ((List Int)×Int) (List Int))
  | (x5,x6)=>(if decide (x6 < (x5.length:Int)) then need (0≤(x6:Int)∧(x6:Int)≤(x5.length:Int)) (need (0≤(x6:Int)∧(x6:Int)≤(x5.length:Int)) (some (.next (cY x5 x6.toNat ((x5.take x6.toNat).drop 0),bC (x6+((min ((x5.take x6.toNat).drop 0).length (x5.length - x6.toNat):Nat):Int)))))) else some (.stop (x5)))
def QT:(List Int)→Option (List Int)
  | x7=>QQ x7
def uA(x:List Int)(x1:Int×Int)(x2:Bool):Option (List Int):=
  (if x2 then none else need (0≤(IntKind.i64.wrap x1.2:Int)∧(IntKind.i64.wrap x1.2:Int)≤4294967296) ((loop (jT) (cY (List.replicate ((IntKind.i64.wrap x1.2).toNat) 0) 0 x,((min x.length ((List.replicate ((IntKind.i64.wrap x1.2).toNat) 0:List Int).length - 0):Nat):Int))).bind (QT)))
def CD(x:List Int)(count:Int):Option (List Int):=
  (if decide (count < 0) then none else (sA (IntKind.u64.wrap (x.length:Int)) (IntKind.u64.wrap count)).bind fun x1=>(if decide (0 < x1.1) then uA x x1 true else uA x x1 (decide (9223372036854775807 < x1.2))))
def ZU(x1:List Int):Option aE:=
  some (⟨List.replicate ((384:Int).toNat) 0,x1⟩:aE)
def NZ:Option aE:=
  need (0≤(384:Int)∧(384:Int)≤4294967296)<|(CD ([(-1)]) 6).bind fun x2=>ZU x2
def XN:Option aB:=
  some (⟨List.replicate ((3:Int).toNat) (⟨[]⟩:aH),List.replicate ((9:Int).toNat) (⟨[]⟩:aH)⟩:aB)
def S5:Option aB:=
  need (0≤(3:Int)∧(3:Int)≤4294967296)<|need (0≤(9:Int)∧(9:Int)≤4294967296)<|XN
def YO:Option Mem:=
  (NZ).bind fun x1=>(S5).bind fun x2=>some (⟨x1,x2⟩:Mem)
def S6:Option aK:=
  need (0≤(3:Int)∧(3:Int)≤4294967296) (some (⟨0,List.replicate ((3:Int).toNat) (⟨false,0,false,0⟩:iI)⟩:aK))
def S7:Option (List aP):=
  need (0≤(3:Int)∧(3:Int)≤4294967296) (some (List.replicate ((3:Int).toNat) (⟨[]⟩:aP)))
def YP:Option (List Int):=
  need (0≤(3:Int)∧(3:Int)≤4294967296) (some (List.replicate ((3:Int).toNat) 0))
def N0:Option aD:=
  (YO).bind fun x1=>(S6).bind fun x2=>(S7).bind fun x3=>(YP).bind fun x4=>some (⟨x1,x2,x3,x4⟩:aD)
def XO(x2:aC):Option aC:=
  some ({x2 with Log:=[]}:aC)
def S8(todo:List Queue):Option aC:=
  (E9 todo).bind fun x1=>(if !x1 then some (⟨(⟨(⟨(⟨[],[]⟩:aE),(⟨[],[]⟩:aB)⟩:Mem),(⟨0,[]⟩:aK),[],[]⟩:aD),[],[],[],[],0⟩:aC) else (N0).bind fun x3=>need (0≤(2:Int)∧(2:Int)≤4294967296)<|need (0≤(3:Int)∧(3:Int)≤4294967296)<|(wV todo).bind fun x4=>XO (⟨x3,List.replicate ((2:Int).toNat) 0,List.replicate ((3:Int).toNat) (⟨false,(⟨0,0,0,0⟩:eM),0,0,(⟨0,0,0,0,0,0,0,0,0,false⟩:Sub),0,0,0,0⟩:bX),x4,[],0⟩:aC))
end
end Go.Gv
end
