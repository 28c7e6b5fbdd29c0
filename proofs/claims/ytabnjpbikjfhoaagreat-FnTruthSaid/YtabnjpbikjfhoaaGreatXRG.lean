import Derived.Test.YtabnjpbikjfhoaaGreatXRF
set_option linter.unusedVariables false
set_option linter.unusedSimpArgs false
set_option linter.unusedSectionVars false
set_option linter.constructorNameAsVariable false
set_option linter.unnecessarySimpa false
noncomputable section
namespace Go.Gv
def b9(c:aC)(w:Int):o8:=c.cK.getD w.toNat ⟨false,0,false,0⟩
theorem B6{c:aC}(hc:GX c){w:Int}(hw:0≤w∧w≤2):idx c.cK w=some (b9 c w):=by
  have:=hc.2.1
  rw [fD hw.1 (by omega)]
  simp [b9,List.getD_eq_getElem?_getD,List.getElem?_eq_getElem (show w.toNat < c.cK.length by omega)]
def uU(c:aC)(w e:Int):aC×Bool:=
  if (b9 c w).On=false∨(b9 c w).dI=true∨(b9 c w).aJ=e then (c,true)
  else if (b9 c w).Seen=2 then (⟨c.aJ,c.cK.set w.toNat {b9 c w with dI:=true,Seen:=0}⟩,true)
  else (⟨c.aJ,c.cK.set w.toNat {b9 c w with Seen:=(b9 c w).Seen+1}⟩,false)
theorem ON{c:aC}(hc:GX c){w:Int}(hw:0≤w∧w≤2):POk c.aJ (b9 c w):=by
  have:=B6 hc hw
  have h2:=hc.2.1
  rw [fD hw.1 (by omega)] at this
  injection this with this
  rw [←this]
  exact hc.2.2 _ (List.getElem_mem _)
theorem aPK{c:aC}(hc:GX c){w:Int}(hw:0≤w∧w≤2)(e:Int):DK c w e=some (uU c w e):=by
  have hp:=ON hc hw
  have hx:=B6 hc hw
  have hsm:=hc.small
  unfold DK AN uU
  rw [lN hsm.1,i7,bD hc,bU,bD hw,hx]
  simp only [aI,dJ,aL,if_false,oQ,hx]
  generalize b9 c w=p at *
  have ew:bC (p.Seen+1)=p.Seen+1:=aP (by have:=hp.2.1;omega) (by have:=hp.2.1;omega)
  cases h1:p.On
  · simp
  · cases h2:p.dI
    · by_cases h3:p.aJ=e
      · simp [h3]
      · have h3':(p.aJ == e)=false:=by simpa using h3
        by_cases h4:p.Seen=2
        · simp [h3,h3',h4]
        · have h4':(p.Seen == 2)=false:=by simpa using h4
          simp [h3,h3',h4,h4',ew]
    · simp
def SR(c:aC)(e:Int):aC×Bool:=if c.aJ=e∧e≠100000 then (⟨e+1,c.cK⟩,true) else (c,false)
theorem aPL{c:aC}(hc:GX c)(e:Int):JT c e=some (SR c e):=by
  have hsm:=hc.small
  unfold JT AO SR
  rw [lN hsm.1,i7,bD hc]
  simp only [aI,dJ,aL,if_false]
  by_cases h1:c.aJ=e
  · have he:=hc.1
    have ew:bC (e+1)=e+1:=aP (by omega) (by omega)
    by_cases h2:e=100000
    · simp [h1,h2]
    · have h2':(e == 100000)=false:=by simpa using h2
      simp [h1,h2,h2',ew]
  · simp [h1]
def GU(c:aC)(w e:Int):aC×Bool:=if 0≤e∧e≤c.aJ then (⟨c.aJ,c.cK.set w.toNat ⟨true,e,false,0⟩⟩,true) else (c,false)
theorem aLG{c:aC}(hc:GX c){w:Int}(hw:0≤w∧w≤2)(e:Int):GA c w e=some (GU c w e):=by
  have hsm:=hc.small
  unfold GA v7 GU
  rw [lN hsm.1,i7,bD hc,bU,bD hw,bU]
  simp only [aI,dJ,aL,if_false]
  by_cases h1:0≤e∧e≤c.aJ
  · simp [h1,B6 hc hw]
  · simp [h1]
def yC(c:aC)(w:Int):aC×Bool:=if (b9 c w).On then (⟨c.aJ,c.cK.set w.toNat ⟨false,0,false,0⟩⟩,true) else (c,false)
theorem aCL{c:aC}(hc:GX c){w:Int}(hw:0≤w∧w≤2):BV c w=some (yC c w):=by
  have hsm:=hc.small
  have hx:=B6 hc hw
  unfold BV v8 yC
  rw [lN hsm.1,i7,bD hc,bU,bD hw,hx]
  simp only [aI,dJ,aL,if_false,hx]
  cases h1:(b9 c w).On <;> simp
def l4(b:aA)(s:Sub):aA×Sub:=
  if s.Pc=0 then (b,{s with Pc:=1,E:=b.aC.aJ,B:=0})
  else if s.Pc=1 then
    if 0≤s.B∧s.B≤2 then
      if (uU b.aC s.B s.E).2 then ({b with aC:=(uU b.aC s.B s.E).1},{s with Pc:=if s.B=2 then 2 else 1,B:=s.B+1})
      else ({b with aC:=(uU b.aC s.B s.E).1},pC s 8)
    else (b,pC s 1)
  else if s.Pc=2 then ({b with aC:=(SR b.aC s.E).1},pC {s with Out:=if (SR b.aC s.E).2 then 1 else s.Out} 0)
  else (b,pC s 1)
theorem aF2{b:aA}(hc:GX b.aC)(s:Sub):qQ b s=some (l4 b s):=by
  unfold qQ l4
  rw [aPL hc,bU]
  simp only [bG,p7,p8,aI]
  by_cases p0:s.Pc=0
  · have p0':(s.Pc == 0)=true:=by simpa using p0
    simp only [p0',if_true,if_pos p0]
  · have p0':(s.Pc == 0)=false:=by simpa using p0
    simp only [p0',aL,if_false,if_neg p0]
    by_cases p1:s.Pc=1
    · have p1':(s.Pc == 1)=true:=by simpa using p1
      simp only [p1',if_true,if_pos p1]
      by_cases hB:0≤s.B∧s.B≤2
      · have ew:bC (s.B+1)=s.B+1:=aP (by omega) (by omega)
        simp only [bD hB,dJ,aL,if_false,if_pos hB,aPK hc hB,aI,ew]
        cases h:(uU b.aC s.B s.E).2
        · simp [pC]
        · by_cases q:s.B=2
          · have q':(s.B+1 == 3)=true:=by simp [q]
            simp [q',q]
          · have q':(s.B+1 == 3)=false:=by simp;omega
            simp [q',q,p1]
      · simp only [bM hB,iC,if_true,if_neg hB];rfl
    · have p1':(s.Pc == 1)=false:=by simpa using p1
      simp only [p1',aL,if_false,if_neg p1]
      by_cases p2:s.Pc=2
      · have p2':(s.Pc == 2)=true:=by simpa using p2
        simp only [p2',if_true,if_pos p2]
        cases h:(SR b.aC s.E).2 <;> rfl
      · have p2':(s.Pc == 2)=false:=by simpa using p2
        simp only [p2',aL,if_false,if_neg p2];rfl
def OO(b:aA)(w:Int)(s:Sub):aA×Sub:=
  if s.Pc=0 then (b,{s with Pc:=1,E:=b.aC.aJ})
  else if s.Pc=1 then
    if (GU b.aC w s.E).2 then ({b with aC:=(GU b.aC w s.E).1},{s with Pc:=2}) else ({b with aC:=(GU b.aC w s.E).1},pC s 1)
  else if s.Pc=2 then if b.aC.aJ=s.E then (b,pC s 0) else (b,{s with Pc:=0})
  else (b,pC s 1)
theorem aSN{b:aA}(hc:GX b.aC){w:Int}(hw:0≤w∧w≤2)(s:Sub):DM b w s=some (OO b w s):=by
  unfold DM OO
  rw [aLG hc hw]
  simp only [bG,aI]
  by_cases p0:s.Pc=0
  · have p0':(s.Pc == 0)=true:=by simpa using p0
    simp only [p0',if_true,if_pos p0]
  · have p0':(s.Pc == 0)=false:=by simpa using p0
    simp only [p0',aL,if_false,if_neg p0]
    by_cases p1:s.Pc=1
    · have p1':(s.Pc == 1)=true:=by simpa using p1
      simp only [p1',if_true,if_pos p1]
      cases h:(GU b.aC w s.E).2 <;> rfl
    · have p1':(s.Pc == 1)=false:=by simpa using p1
      simp only [p1',aL,if_false,if_neg p1]
      by_cases p2:s.Pc=2
      · have p2':(s.Pc == 2)=true:=by simpa using p2
        simp only [p2',if_true,if_pos p2]
        by_cases q:b.aC.aJ=s.E
        · have q':(b.aC.aJ == s.E)=true:=by simpa using q
          simp only [q',if_true,if_pos q];rfl
        · have q':(b.aC.aJ == s.E)=false:=by simpa using q
          simp only [q',aL,if_false,if_neg q]
      · have p2':(s.Pc == 2)=false:=by simpa using p2
        simp only [p2',aL,if_false,if_neg p2];rfl
def cC(l:List aY)(w:Int):List dA:=(l.getD w.toNat ⟨[]⟩).Rows
theorem B7{l:List aY}(hl:uS l){w:Int}(hw:0≤w∧w≤2):idx l w=some ⟨cC l w⟩:=by
  have:=hl.1
  rw [fD hw.1 (by omega)]
  simp [cC,List.getD_eq_getElem?_getD,List.getElem?_eq_getElem (show w.toNat < l.length by omega)]
theorem aCM{l:List aY}(hl:uS l){w:Int}(hw:0≤w∧w≤2):(cC l w).length≤24:=by
  have h:=B7 hl hw
  have h3:=hl.1
  rw [fD hw.1 (by omega)] at h
  injection h with h
  have:=hl.small.2.2.2 _ (List.getElem_mem (show w.toNat < l.length by omega))
  rw [h] at this;exact this
def C9(b:aA)(w:Int)(s:Sub):aA×Sub:=
  if s.Pc=0 then (b,{s with Pc:=1,E:=b.aC.aJ})
  else if s.Pc=1 then
    if 0≤s.E∧s.E≤b.aC.aJ then
      if gY b.Mem s.A∧¬BG b.aO (s.A % 32) then ({b with aO:=b.aO.set w.toNat ⟨cC b.aO w ++ [⟨s.A,s.E⟩]⟩},pC s 0) else (b,pC s 4)
    else (b,pC s 1)
  else (b,pC s 1)
theorem aIA{b:aA}(hb:pB b){w:Int}(hw:0≤w∧w≤2)(s:Sub):sZ b w s=some (C9 b w s):=by
  have hL:=hb.1.2.2.1
  have hm:=hb.1.1
  obtain⟨h1,h2,h3,_⟩:=mD.facts hm
  have hx:=B7 hL hw
  have hrow:=aCM hL hw
  unfold sZ C9
  rw [bU,xM hm.1.1.1 (by omega) (by simp only [maxLen];omega) (by simp only [maxLen];omega),dC]
  simp only [bG,aI,rQ,AM]
  by_cases p0:s.Pc=0
  · have p0':(s.Pc == 0)=true:=by simpa using p0
    simp only [p0',if_true,if_pos p0]
  · have p0':(s.Pc == 0)=false:=by simpa using p0
    simp only [p0',aL,if_false,if_neg p0]
    by_cases p1:s.Pc=1
    · have p1':(s.Pc == 1)=true:=by simpa using p1
      simp only [p1',if_true,if_pos p1]
      by_cases q1:0≤s.E∧s.E≤b.aC.aJ
      · simp only [bD q1,dJ,aL,if_false,if_pos q1]
        by_cases q2:gY b.Mem s.A
        · have hh:=q2.1
          simp only [bD q2,dJ,aL,if_false,if_pos hh,ML hL,aI]
          by_cases q3:BG b.aO (s.A % 32)
          · simp only [bD q3,if_true,if_neg (show ¬(gY b.Mem s.A∧¬BG b.aO (s.A % 32)) from fun h=>h.2 q3)];rfl
          · simp only [bM q3,aL,if_false,hx,aI,if_pos (show gY b.Mem s.A∧¬BG b.aO (s.A % 32) from ⟨q2,q3⟩)]
            rw [aR (by simp;omega)];rfl
        · simp only [bM q2,iC,if_true,if_neg (show ¬(gY b.Mem s.A∧¬BG b.aO (s.A % 32)) from fun h=>q2 h.1)];rfl
      · simp only [bM q1,iC,if_true,if_neg q1];rfl
    · have p1':(s.Pc == 1)=false:=by simpa using p1
      simp only [p1',aL,if_false,if_neg p1];rfl
def BA(r:dA)(e:Int):Prop:=2≤e∧r.aJ≤bC (e - 2)
instance (r:dA) (e:Int):Decidable (BA r e):=by unfold BA;infer_instance
theorem Z2(r:dA)(e:Int):FM r e=some (decide (BA r e)):=by
  unfold FM FE BA
  by_cases h:2≤e
  · rw [bD h,if_pos rfl]
    simp [h]
  · simp [h]
def rW(l:List dA)(e:Int)(k:Nat):Nat:=k+(l.drop k).findIdx (fun r=>decide (BA r e))
theorem aPM{l:List dA}(hl:l.length≤1000){from_ e:Int}:uJ l from_ e=some (if rW l e from_.toNat < l.length then (rW l e from_.toNat:Int) else -1):=by
  have hst:(if 0 < from_ then from_ else 0)=(from_.toNat:Int):=by split <;> omega
  unfold uJ
  rw [hst]
  have key:∀d k:Nat,l.length≤k+d→loop (d4 l e) (k:Int)=some (if rW l e k < l.length then Out.ret (rW l e k:Int) else Out.brk ()):=by
    intro d
    induction d with
    | zero =>
      intro k hk
      rw [bV (r:=Out.brk ()) (by simp only [d4];rw [if_neg (by simp;omega)]),if_neg (by unfold rW;omega)]
    | succ d ih =>
      intro k hk
      by_cases hkl:k < l.length
      · have hd:l.drop k=l[k] :: l.drop (k+1):=List.drop_eq_getElem_cons hkl
        by_cases hr:BA l[k] e
        · have hs:rW l e k=k:=by unfold rW;rw [hd,List.findIdx_cons,bD hr];rfl
          rw [bV (r:=Out.ret (k:Int)) (by simp only [d4];rw [if_pos (by simp;omega),aW hkl,aI,Z2 _ e,aI,bD hr,if_pos rfl]),hs,if_pos hkl]
        · have hs:rW l e k=rW l e (k+1):=by unfold rW;rw [hd,List.findIdx_cons,bM hr];simp only [cond_false];omega
          rw [b8 (s':=((k+1:Nat):Int)) (by simp only [d4];rw [if_pos (by simp;omega),aW hkl,aI,Z2 _ e,aI,bM hr,if_neg (by simp),aP (by omega) (by omega)];rfl),ih (k+1) (by omega),hs]
      · rw [bV (r:=Out.brk ()) (by simp only [d4];rw [if_neg (by simp;omega)]),if_neg (by unfold rW;omega)]
  rw [key l.length from_.toNat (by omega)]
  split <;> rfl
theorem Z3{l:List dA}{e:Int}{k:Nat}(h:rW l e k < l.length):k≤rW l e k∧BA l[rW l e k] e:=by
  refine⟨by unfold rW;omega,?_⟩
  have h1:(l.drop k).findIdx (fun r=>decide (BA r e)) < (l.drop k).length:=by
    rw [List.length_drop];unfold rW at h;omega
  have:=List.findIdx_getElem (xs:=l.drop k) (p:=fun r=>decide (BA r e)) (w:=h1)
  rw [List.getElem_drop] at this
  exact of_decide_eq_true this
def BC(m:Mem)(w h:Int):Mem:=
  if h / 32+1≤6 then
    if (dF m.aB.Own (w * 3+aU m.aD (h % 32)).toNat).length < 2 then ⟨⟨T2 m.aD.Bytes (dW (h % 32) (aU m.aD (h % 32))).toNat (h / 32+1),m.aD.Class⟩,⟨m.aB.Global,m.aB.Own.set (w * 3+aU m.aD (h % 32)).toNat ⟨dF m.aB.Own (w * 3+aU m.aD (h % 32)).toNat ++ [h % 32]⟩⟩⟩
    else ⟨⟨T2 m.aD.Bytes (dW (h % 32) (aU m.aD (h % 32))).toNat (h / 32+1),m.aD.Class⟩,⟨m.aB.Global.set (aU m.aD (h % 32)).toNat ⟨dF m.aB.Global (aU m.aD (h % 32)).toNat ++ [h % 32]⟩,m.aB.Own⟩⟩
  else ⟨⟨T2 m.aD.Bytes (dW (h % 32) (aU m.aD (h % 32))).toNat (h / 32+1),m.aD.Class⟩,m.aB⟩
theorem aPN{m:Mem}(hm:mD m){w h:Int}(hw:0≤w∧w≤2)(hv:gY m h):DL m w (h % 32)=some (BC m w h):=by
  obtain⟨hcnt,h3,h9,h1,h2,hsm,hcp,hlo,hsG,hsO⟩:=mD.facts hm
  have hs:=hm.1.1.1
  have hh:=hv.1
  have hcl:=gH hv.2.1
  have hgo:=C5 hcl
  have hc2:0≤aU m.aD (h % 32)∧aU m.aD (h % 32)≤2:=by
    obtain⟨_,q,e⟩:=nU hcl
    rw [e];exact gG.1 (by omega)
  have hg6:1≤h / 32∧h / 32≤6:=by unfold jA at hh;omega
  have eo:dW (h % 32) (aU m.aD (h % 32))=(((dW (h % 32) (aU m.aD (h % 32))).toNat:Nat):Int):=by omega
  have ew:bC (h / 32+1)=h / 32+1:=aP (by omega) (by omega)
  unfold DL BC
  rw [hQ hs,aI,nE hs hcl,hv.2.2,aI,rB,aI,ew]
  generalize hgn:(dW (h % 32) (aU m.aD (h % 32))).toNat=a at eo
  rw [eo,EB (by omega) (by omega) (by omega)]
  simp only [aI,F9,F8,ew]
  generalize aU m.aD (h % 32)=c at *
  by_cases q:h / 32+1≤6
  · have hk:(w * 3+c).toNat < m.aB.Own.length:=by omega
    have hx:idx m.aB.Own (w * 3+c)=some m.aB.Own[(w * 3+c).toNat]:=fD (by omega) (by omega)
    have hk2:c.toNat < m.aB.Global.length:=by omega
    have hx2:idx m.aB.Global c=some m.aB.Global[c.toNat]:=fD (by omega) (by omega)
    have b1:=hsO _ (List.getElem_mem hk)
    have b2:=hsG _ (List.getElem_mem hk2)
    rw [bD q,if_pos rfl,if_pos q]
    unfold NW
    rw [(J7 hw hc2).1]
    simp only [aI,hx,hx2,F7,NU,NV,←cY hk,←cY hk2]
    by_cases q2:m.aB.Own[(w * 3+c).toNat].aQ.length < 2
    · have y1:(m.aB.Own[(w * 3+c).toNat].aQ.length:Int) < 2:=by omega
      simp only [bD y1,if_true,if_pos q2]
      rw [aR (by simp;omega)];rfl
    · have y1:¬(m.aB.Own[(w * 3+c).toNat].aQ.length:Int) < 2:=by omega
      simp only [bM y1,aL,if_false,if_neg q2]
      rw [aR (by simp;omega)];rfl
  · rw [bM q,if_neg (by simp),if_neg q]
def oY(z:List Int)(w:Int):Int:=z.getD w.toNat 0
theorem J8{z:List Int}(hz:GL z){w:Int}(hw:0≤w∧w≤2):idx z w=some (oY z w):=by
  have:=hz.1
  rw [fD hw.1 (by omega)]
  simp [oY,List.getD_eq_getElem?_getD,List.getElem?_eq_getElem (show w.toNat < z.length by omega)]
def ED(l:List dA)(k:Int):dA:=l.getD k.toNat ⟨0,0⟩
theorem OQ{l:List dA}{k:Int}(h:0≤k∧k < l.length):idx l k=some (ED l k):=by
  rw [fD h.1 h.2]
  simp [ED,List.getD_eq_getElem?_getD,List.getElem?_eq_getElem (show k.toNat < l.length by omega)]
def DV(l:List dA)(s:Sub):Prop:=0≤s.Row∧s.Row < l.length∧(ED l s.Row).Handle=s.H
instance (l:List dA) (s:Sub):Decidable (DV l s):=by unfold DV;infer_instance
def jI(b:aA)(w:Int)(s:Sub):aA×Sub:=
  if s.Pc=0 then (b,{s with Pc:=1,E:=b.aC.aJ,Row:=0})
  else if s.Pc=1 then
    if rW (cC b.aO w) s.E s.Row.toNat < (cC b.aO w).length then (b,{s with Pc:=2,Row:=(rW (cC b.aO w) s.E s.Row.toNat:Int),B:=0,H:=(ED (cC b.aO w) (rW (cC b.aO w) s.E s.Row.toNat:Int)).Handle})
    else (b,pC s 0)
  else if s.Pc=2 then
    if (0≤s.B∧s.B≤2)∧DV (cC b.aO w) s then
      if oY b.m7 s.B=s.H then (b,{s with Pc:=1,Row:=s.Row+1}) else (b,{s with Pc:=if s.B=2 then 3 else 2,B:=s.B+1})
    else (b,pC s 1)
  else if s.Pc=3 then
    if DV (cC b.aO w) s∧BA (ED (cC b.aO w) s.Row) s.E then ({b with Mem:=BC b.Mem w s.H,aO:=b.aO.set w.toNat ⟨(cC b.aO w).eraseIdx s.Row.toNat⟩},{s with Pc:=1,Out:=bC (s.Out+1)})
    else (b,pC s 1)
  else (b,pC s 1)
theorem OR{l:List aY}(hl:uS l){w:Int}(hw:0≤w∧w≤2){r:dA}(hr:r∈cC l w):r∈bZ l:=by
  have h:=B7 hl hw
  have h3:=hl.1
  rw [fD hw.1 (by omega)] at h
  injection h with h
  exact List.mem_flatMap.2 ⟨l[w.toNat],List.getElem_mem _,by rw [h];exact hr⟩
theorem Z4{l:List dA}{k:Int}(h:0≤k∧k < l.length):ED l k∈l:=by
  have:=OQ h
  rw [fD h.1 h.2] at this
  injection this with this
  rw [←this];exact List.getElem_mem _
theorem aF3{b:aA}(hb:pB b){w:Int}(hw:0≤w∧w≤2)(s:Sub):qR b w s=some (jI b w s):=by
  have hL:=hb.1.2.2.1
  have hm:=hb.1.1
  have hx:=B7 hL hw
  have hrow:=aCM hL hw
  have hfl:=fun r hr=>OR hL hw (r:=r) hr
  unfold qR jI
  rw [hx]
  simp only [aI,bG]
  generalize cC b.aO w=l at *
  by_cases p0:s.Pc=0
  · have p0':(s.Pc == 0)=true:=by simpa using p0
    simp only [p0',if_true,if_pos p0]
  have p0':(s.Pc == 0)=false:=by simpa using p0
  simp only [p0',aL,if_false,if_neg p0]
  by_cases p1:s.Pc=1
  · have p1':(s.Pc == 1)=true:=by simpa using p1
    simp only [p1',if_true,if_pos p1,aPM (show l.length≤1000 by omega),aI]
    by_cases q:rW l s.E s.Row.toNat < l.length
    · have n:¬(rW l s.E s.Row.toNat:Int) < 0:=by omega
      simp only [if_pos q,bM n,aL,if_false,OQ (l:=l) (k:=(rW l s.E s.Row.toNat:Int)) (by omega),aI]
    · simp only [if_neg q,bD (show(-1:Int) < 0 by omega),if_true];rfl
  have p1':(s.Pc == 1)=false:=by simpa using p1
  simp only [p1',aL,if_false,if_neg p1]
  have el:bC ((l.length:Int) - 1)=(l.length:Int) - 1:=aP (by omega) (by omega)
  by_cases p2:s.Pc=2
  · have p2':(s.Pc == 2)=true:=by simpa using p2
    simp only [p2',if_true,if_pos p2,bU,el,aI,eO,qA,bG]
    by_cases hB:0≤s.B∧s.B≤2
    · simp only [bD hB,dJ,aL,if_false]
      by_cases hR:0≤s.Row∧s.Row≤(l.length:Int) - 1
      · simp only [bD hR,dJ,aL,if_false,OQ (l:=l) (k:=s.Row) (by omega),aI]
        by_cases hH:(ED l s.Row).Handle=s.H
        · have hH':((ED l s.Row).Handle != s.H)=false:=by simpa using hH
          have ha:(0≤s.B∧s.B≤2)∧DV l s:=⟨hB,hR.1,by omega,hH⟩
          have e1:bC (s.B+1)=s.B+1:=aP (by omega) (by omega)
          have e2:bC (s.Row+1)=s.Row+1:=aP (by omega) (by omega)
          simp only [hH',aL,if_false,if_pos ha,J8 hb.1.2.2.2 hB,aI,e1,e2]
          by_cases hz:oY b.m7 s.B=s.H
          · have hz':(oY b.m7 s.B == s.H)=true:=by simpa using hz
            simp only [hz',if_true,if_pos hz]
          · have hz':(oY b.m7 s.B == s.H)=false:=by simpa using hz
            simp only [hz',aL,if_false,if_neg hz]
            by_cases q:s.B=2
            · have q':(s.B+1 == 3)=true:=by simp [q]
              simp only [q',if_true,if_pos q]
            · have q':(s.B+1 == 3)=false:=by simp;omega
              simp only [q',aL,if_false,if_neg q,p2]
        · have hH':((ED l s.Row).Handle != s.H)=true:=by simpa using hH
          have ha:¬((0≤s.B∧s.B≤2)∧DV l s):=fun h=>hH h.2.2.2
          simp only [hH',if_true,if_neg ha,aI];rfl
      · have ha:¬((0≤s.B∧s.B≤2)∧DV l s):=fun h=>hR ⟨h.2.1,by have:=h.2.2.1;omega⟩
        simp only [bM hR,iC,if_true,if_neg ha,aI];rfl
    · have ha:¬((0≤s.B∧s.B≤2)∧DV l s):=fun h=>hB h.1
      simp only [bM hB,iC,if_true,if_neg ha,aI];rfl
  have p2':(s.Pc == 2)=false:=by simpa using p2
  simp only [p2',aL,if_false,if_neg p2]
  by_cases p3:s.Pc=3
  · have p3':(s.Pc == 3)=true:=by simpa using p3
    simp only [p3',if_true,if_pos p3,bU,el,aI,eP,xZ,bG]
    by_cases hR:0≤s.Row∧s.Row≤(l.length:Int) - 1
    · simp only [bD hR,dJ,aL,if_false,OQ (l:=l) (k:=s.Row) (by omega),aI]
      by_cases hH:(ED l s.Row).Handle=s.H
      · have hH':((ED l s.Row).Handle != s.H)=false:=by simpa using hH
        simp only [hH',aL,if_false,Z2,aI]
        by_cases hr:BA (ED l s.Row) s.E
        · have ha:DV l s∧BA (ED l s.Row) s.E:=⟨⟨hR.1,by omega,hH⟩,hr⟩
          have e2:bC (s.Row+1)=s.Row+1:=aP (by omega) (by omega)
          have hlive:=(hb.2 _ (hfl _ (Z4 (l:=l) (k:=s.Row) (by omega)))).1
          rw [hH] at hlive
          have et:(s.Row+1).toNat=s.Row.toNat+1:=by omega
          simp only [bD hr,dJ,aL,if_false,if_pos ha,e2,dC,if_pos hlive.1,aI,aPN hm hw hlive,et]
          rw [aR (by omega),aR (by omega),aR (by omega),del_eq (by omega)]
        · have ha:¬(DV l s∧BA (ED l s.Row) s.E):=fun h=>hr h.2
          simp only [bM hr,iC,if_true,if_neg ha,aI];rfl
      · have hH':((ED l s.Row).Handle != s.H)=true:=by simpa using hH
        have ha:¬(DV l s∧BA (ED l s.Row) s.E):=fun h=>hH h.1.2.2
        simp only [hH',if_true,if_neg ha,aI];rfl
    · have ha:¬(DV l s∧BA (ED l s.Row) s.E):=fun h=>hR ⟨h.1.1,by have:=h.1.2.1;omega⟩
      simp only [bM hR,iC,if_true,if_neg ha,aI];rfl
  · have p3':(s.Pc == 3)=false:=by simpa using p3
    simp only [p3',aL,if_false,if_neg p3];rfl
def d7(b:aA)(w:Int)(s:Sub):aA×Sub:=
  if s.cE then (b,s) else if s.Kind=1 then IZ b w s else if s.Kind=2 then C9 b w s else if s.Kind=3 then l4 b s else if s.Kind=4 then jI b w s else if s.Kind=5 then OO b w s else (b,pC s 1)
theorem aEA{b:aA}(hb:pB b){w:Int}(hw:0≤w∧w≤2)(s:Sub):tA b w s=some (d7 b w s):=by
  unfold tA d7
  rw [aLF hb.1.1 hw,aIA hb hw,aF2 hb.1.2.1,aF3 hb hw,aSN hb.1.2.1 hw]
  simp only [aI,bG]
  cases s.cE
  · simp only [aL,if_false,beq_iff_eq]
    split <;> (try rfl)
    split <;> (try rfl)
    split <;> (try rfl)
    split <;> (try rfl)
    split <;> rfl
  · rfl
end Go.Gv
end
noncomputable section
namespace Go.Gv
def aPO:aD:=⟨List.replicate 384 0,[-1,-1,-1,-1,-1,-1]⟩
def aVV:aB:=⟨List.replicate 3 ⟨[]⟩,List.replicate 9 ⟨[]⟩⟩
def Z5:aA:=⟨⟨aPO,aVV⟩,⟨0,List.replicate 3 ⟨false,0,false,0⟩⟩,List.replicate 3 ⟨[]⟩,List.replicate 3 0⟩
theorem WL:ER=some aPO:=by
  unfold ER
  have key:loop qF (0,[])=some (List.replicate 6 (-1)):=iU (f:=qF) 6 (fun k=>((k:Int),List.replicate k (-1))) _ (fun k hk=>by
    simp only [qF]
    rw [if_pos (by simp;omega),aR (by simp;omega),aP (by omega) (by omega),List.replicate_succ'];rfl) (by simp [qF])
  rw [aR (by omega),key];rfl
theorem aVW:rO [-1] 6=some [-1,-1,-1,-1,-1,-1]:=by
  unfold rO
  rw [if_neg (by simp),show ID (IntKind.u64.wrap (([-1]:List Int).length:Int)) (IntKind.u64.wrap 6)=some (0,6) by kernel_rfl]
  simp only [aI]
  rw [if_neg (by simp),bM (by omega)]
  simp only [m3,aL,if_false]
  rw [show IntKind.i64.wrap 6=6 from wrap_i64 (by omega) (by omega),aR (by omega),
    show(dD (List.replicate (Int.toNat 6) 0) 0 [-1],((min ([-1]:List Int).length ((List.replicate (Int.toNat 6) (0:Int)).length - 0):Nat):Int))=([-1,0,0,0,0,0],1) by kernel_rfl,
    b8 (body:=jZ) (s':=([-1,-1,0,0,0,0],2)) (by kernel_rfl),b8 (body:=jZ) (s':=([-1,-1,-1,-1,0,0],4)) (by kernel_rfl),
    b8 (body:=jZ) (s':=([-1,-1,-1,-1,-1,-1],6)) (by kernel_rfl),bV (body:=jZ) (r:=[-1,-1,-1,-1,-1,-1]) (by kernel_rfl)]
  rfl
theorem WM:E9=some aPO:=by
  unfold E9
  rw [aR (by omega),aVW];rfl
theorem Z6:ES=some Z5∧FA=some Z5:=by
  unfold ES FA M6 NJ H5 IE H6 IF H7 IG M7 NM
  rw [WL,WM,aR (by omega),aR (by omega),aR (by omega),aR (by omega),aR (by omega)]
  exact⟨rfl,rfl⟩
theorem aPP:pB Z5:=of_decide_eq_true (by kernel_rfl)
def aJ6:aE:=⟨⟨⟨⟨[],[]⟩,⟨[],[]⟩⟩,⟨0,[]⟩,[],[]⟩,[],[],[],[],0⟩
def fG(t:List Queue):aE:=⟨Z5,List.replicate 2 0,List.replicate 3 lZ,t,[],0⟩
theorem aLH{t:List Queue}(h:G3 t):yT (fG t):=
  ⟨aPP,rfl,rfl,h,by simp [fG],fun q hq=>by simp [fG] at hq;exact .inl hq,fun j hj=>by simp [fG] at hj;exact(ZZ (by rw [hj];rfl)).2 hj⟩
theorem T5{l:List Queue}(hl:l.length≤1048576)(hq:∀q∈l,q.hU.length≤1048576):y7 l=some l∧vG l=some l:=by
  constructor
  · unfold y7
    rw [SI l]
    · rfl
    · intro k hk
      have:=hq _ (List.getElem_mem hk)
      simp only [y6]
      rw [if_pos (by simp;omega),aW hk]
      simp only [aI]
      rw [aR (by simp;omega),aR (by simp;omega),aP (by omega) (by omega)];rfl
    · simp [y6]
  · unfold vG
    rw [SI l]
    · rfl
    · intro k hk
      have:=hq _ (List.getElem_mem hk)
      simp only [BQ]
      rw [if_pos (by simp;omega),aW hk]
      simp only [aI,DZ]
      rw [aR (by simp;omega),aI,aR (by simp;omega),aP (by omega) (by omega)];rfl
    · simp [BQ]
theorem UQ{t:List Queue}(hl:t.length≤1048576)(hq:∀q∈t,q.hU.length≤1048576):CG t=some (if G3 t then fG t else aJ6)∧CU t=some (if G3 t then fG t else aJ6):=by
  have hm:t.length≤maxLen:=by simp only [maxLen];omega
  unfold CG CU
  rw [aD8 hm,SP hm (fun q h=>by have:=hq q h;simp only [maxLen];omega)]
  simp only [aI]
  by_cases h:G3 t
  · simp only [bD h,dJ,aL,if_false,if_pos h,Z6.1,Z6.2,aI,(T5 hl hq).1,(T5 hl hq).2]
    rw [aR (by omega),aR (by omega),aR (by omega),aR (by omega)]
    exact⟨rfl,rfl⟩
  · simp only [bM h,iC,if_true,if_neg h]
    exact⟨rfl,rfl⟩
end Go.Gv
end
noncomputable section
namespace Go.Gv
def SS(s:aE):Prop:=LH s.aA∧s.Cells.length≤1048576∧s.aV.length≤1048576∧s.cL.length≤1048576∧(∀q∈s.cL,q.hU.length≤1048576)∧s.Log.length≤1048576
theorem SS.fits{s:aE}(h:SS s):s.aA.Mem.aD.Bytes.length≤maxLen∧(cX s.aA.Mem.aB).length≤1073741824∧s.aA.aC.cK.length≤maxLen∧s.aA.aO.length≤maxLen∧(bZ s.aA.aO).length≤1073741824∧s.aA.m7.length≤maxLen:=by
  obtain⟨⟨⟨a1,a2,a3,a4,a5⟩,b1,b2,b3,b4⟩,_⟩:=h
  simp only [maxLen];omega
theorem aSO{s:aE}(h:SS s):zP s=some (decide (yT s)):=
  have hM:∀{n:Nat},n≤1048576→n≤maxLen:=fun h=>by simp only [maxLen];omega
  WK h.fits (hM h.2.2.2.1) (fun q hq=>hM (h.2.2.2.2.1 q hq)) (hM h.2.1) (hM h.2.2.1)
theorem aBT{s:aE}(h:SS s):zF s=some s:=by
  obtain⟨hb,c1,c2,c3,c4,c5⟩:=h
  have n1:∀{β:Type} (k:Option β),need (([]:List aZ).length+s.aV.length≤1073741824) k=k:=fun k=>aR (by simp only [List.length_nil];omega) k
  have n2:∀{β:Type} (k:Option β),need (([]:List Ev).length+s.Log.length≤1073741824) k=k:=fun k=>aR (by simp only [List.length_nil];omega) k
  unfold zF BP D0
  simp only [aD0 hb,m9 (show s.Cells.length≤1073741824 by omega),(T5 c3 c4).2,aI,n1,n2,List.nil_append]
theorem aF4{s:aE}(h:yT s)(hl:s.Log.length≤1000000):SS s:=by
  have ht:=h.2.2.2.1
  exact⟨h.1.small,by have:=h.2.1;omega,by have:=h.2.2.1;omega,by have:=ht.1;omega,fun q hq=>by have:=(ht.2 q hq).1;omega,by omega⟩
end Go.Gv
end
noncomputable section
namespace Go.Gv
def tL(m:Mem)(h n:Int):Mem×Int:=if gY m h then (⟨⟨B5 m.aD.Bytes ((dW (h % 32) (aU m.aD (h % 32))).toNat+4) n,m.aD.Class⟩,m.aB⟩,0) else (m,4)
theorem aPQ{h:aD}{s:Int}(hcl:0≤aU h s):(dW s (aU h s)).toNat+8≤384∧8≤fY (aU h s)∧fY (aU h s)≤40:=by
  have hc2:0≤aU h s∧aU h s≤2:=by
    obtain⟨_,q,e⟩:=nU hcl
    rw [e];exact gG.1 (by omega)
  have hz:8≤fY (aU h s)∧fY (aU h s)≤40:=by rcases fE hc2 with e | e | e <;> rw [e] <;> decide
  obtain⟨p,i,p6,hi,es,ec,eo,ep⟩:=qU hcl
  refine⟨?_,hz⟩
  rw [eo]
  have hcl':0≤bL h p∧bL h p≤2:=by rw [←ec];exact hc2
  generalize bL h p=c at hi hcl'
  rcases fE hcl' with rfl | rfl | rfl
  · rw [show(bP 0).toNat=4 from rfl] at hi;rw [show(aS 0).toNat=12 from rfl];omega
  · rw [show(bP 1).toNat=2 from rfl] at hi;rw [show(aS 1).toNat=20 from rfl];omega
  · rw [show(bP 2).toNat=1 from rfl] at hi;rw [show(aS 2).toNat=44 from rfl];omega
theorem aLI{m:Mem}(hm:mD m){h n:Int}(hn:0≤n∧n≤65535):AR m h 0 4 n=some (tL m h n):=by
  obtain⟨hcnt,h3,h9,h1,h2,hsm,hcp,hlo,hsG,hsO⟩:=mD.facts hm
  have hs:=hm.1.1.1
  have hbl:m.aD.Bytes.length≤maxLen:=by rw [h1];simp [maxLen]
  have hall:(cX m.aB).length≤1073741824:=by omega
  have hg:m.aB.Global.length≤maxLen:=by rw [h3];simp [maxLen]
  have ho:m.aB.Own.length≤maxLen:=by rw [h9];simp [maxLen]
  unfold AR N0 tL
  rw [UN hsm,QB hbl hall,bD hm,bU]
  simp only [aI,dJ,aL,if_false,AQ,show(decide ((1:Int)≤4∧(4:Int)≤7))=true from rfl,xM hs hall hg ho]
  by_cases hv:gY m h
  · have hh:=hv.1
    have hcl:=gH hv.2.1
    have hgo:=C5 hcl
    obtain⟨hroom,hz⟩:=aPQ hcl
    simp only [bD hv,dJ,aL,if_false,if_pos hv,dC,if_pos hh,aI,hQ hs,oW,bU]
    rw [aP (x:=fY (aU m.aD (h % 32)) - 1) (by omega) (by omega),bD (show(0:Int)≤0∧(0:Int)≤fY (aU m.aD (h % 32)) - 1 by omega),aP (x:=fY (aU m.aD (h % 32)) - 0) (by omega) (by omega),bM (show ¬fY (aU m.aD (h % 32)) - 0 < 4 by omega)]
    simp only [dJ,aL,if_false,AP,(start_eq hs hcl).1,aI]
    rw [aP (x:=dW (h % 32) (aU m.aD (h % 32))+4+0) (by omega) (by omega),Int.add_zero]
    have eo':dW (h % 32) (aU m.aD (h % 32))+4=(((dW (h % 32) (aU m.aD (h % 32))).toNat+4:Nat):Int):=by omega
    obtain⟨t,ht1,ht2⟩:=UP hn
    rw [eo']
    simp only [aI,aL,if_false,bne_self_eq_false,ht1,ht2]
    rw [T3 (by omega) (by omega) ⟨hn.1,by omega⟩];rfl
  · simp only [bM hv,iC,if_true,aI,show((4:Int) != 0)=true from rfl,if_neg hv]
def T6(h:aD)(x:Int):Int:=if jA x∧0≤aU h (x % 32) then ld h.Bytes ((dW (x % 32) (aU h (x % 32))).toNat+4) 4 else 0
theorem aEB{s:aE}(hm:mD s.aA.Mem)(j:aZ):m6 s j=some (T6 s.aA.Mem.aD j.H):=by
  have hs:=hm.1.1.1
  have h1:=hs.1
  unfold m6 HQ T6
  generalize j.H=h
  rw [eJ,bU]
  simp only [aI,AS,show(decide ((1:Int)≤4∧(4:Int)≤7))=true from rfl,dJ,aL,if_false]
  by_cases hh:jA h
  · simp only [bD hh,dJ,aL,if_false,dC,if_pos hh,aI,hQ hs]
    by_cases hcl:aU s.aA.Mem.aD (h % 32) < 0
    · simp only [bD hcl,if_true,lW,aI,if_neg (show ¬(jA h∧0≤aU s.aA.Mem.aD (h % 32)) by omega)]
    · have hcl':0≤aU s.aA.Mem.aD (h % 32):=by omega
      have hgo:=C5 hcl'
      obtain⟨hroom,hz⟩:=aPQ hcl'
      simp only [bM hcl,aL,if_false,oW,bU,aI,if_pos (show jA h∧0≤aU s.aA.Mem.aD (h % 32) from ⟨hh,hcl'⟩)]
      rw [aP (x:=fY (aU s.aA.Mem.aD (h % 32)) - 1) (by omega) (by omega),bD (show(0:Int)≤0∧(0:Int)≤fY (aU s.aA.Mem.aD (h % 32)) - 1 by omega),aP (x:=fY (aU s.aA.Mem.aD (h % 32)) - 0) (by omega) (by omega),bM (show ¬fY (aU s.aA.Mem.aD (h % 32)) - 0 < 4 by omega)]
      simp only [dJ,aL,if_false,lW,dC,if_pos hh,(start_eq hs hcl').1,aI]
      rw [aP (x:=dW (h % 32) (aU s.aA.Mem.aD (h % 32))+4+0) (by omega) (by omega),Int.add_zero]
      have eo':dW (h % 32) (aU s.aA.Mem.aD (h % 32))+4=(((dW (h % 32) (aU s.aA.Mem.aD (h % 32))).toNat+4:Nat):Int):=by omega
      rw [eo',show(4:Int)=((4:Nat):Int) from rfl,A0 hs.2.2.1 (by omega) (by omega) (by omega)];rfl
  · simp only [bM hh,iC,if_true,aI,if_neg (show ¬(jA h∧0≤aU s.aA.Mem.aD (h % 32)) from fun q=>hh q.1)]
def J9(z:List Int)(w h:Int):List Int:=if jA h then z.set w.toNat h else z
theorem aF5{z:List Int}(hz:GL z){w:Int}(hw:0≤w∧w≤2)(h:Int):∃t,AT z w h=some (J9 z w h,t):=by
  have h3:=hz.1
  unfold AT qS J9
  rw [BY (by omega),C7 (by simp only [maxLen];omega),bD hz,bU,bD hw,eJ]
  by_cases q:jA h
  · simp only [bD q,J8 hz hw,aI,dJ,aL,if_false,if_pos q];exact⟨_,rfl⟩
  · simp only [bM q,aI,dJ,iC,aL,if_false,if_true,if_neg q];exact⟨_,rfl⟩
def T7(z:List Int)(w:Int):List Int:=if oY z w=0 then z else z.set w.toNat 0
theorem aLJ{z:List Int}(hz:GL z){w:Int}(hw:0≤w∧w≤2):∃t,GC z w=some (T7 z w,t):=by
  have h3:=hz.1
  unfold GC v9 T7
  rw [BY (by omega),C7 (by simp only [maxLen];omega),bD hz,bU,bD hw,J8 hz hw]
  by_cases q:oY z w=0
  · have q':(oY z w == 0)=true:=by simpa using q
    simp only [q',aI,dJ,aL,if_false,if_true,if_pos q,J8 hz hw];exact⟨_,rfl⟩
  · have q':(oY z w == 0)=false:=by simpa using q
    simp only [q',aI,dJ,aL,if_false,if_neg q,J8 hz hw];exact⟨_,rfl⟩
structure JR where
  b:aA
  c:List Int
  j:aZ
  l:List Ev
def bW(j:aZ)(pc code:Int):aZ:={j with Pc:=pc,Code:=code}
def vB(kind a:Int):Sub:=⟨kind,a,0,0,0,0,0,0,0,false⟩
def cellAt(c:List Int)(k:Int):Int:=c.getD k.toNat 0
def hC(c:aC)(w:Int)(j:aZ)(pc:Int):aZ:=if (b9 c w).On=true∧(b9 c w).dI=false then bW j pc 0 else bW {j with cV:=0} pc 6
noncomputable section
variable (s:aE) (w:Int) (j:aZ)
def BK(h:Int):Ev:=⟨3,w,j.aG,j.Op.Cell,h,0,0⟩
def I0:JR:=
  if j.Pc=0 then
    if (d7 s.aA w j.Sub).2.cE then
      if (d7 s.aA w j.Sub).2.Code≠0 then ⟨(d7 s.aA w j.Sub).1,s.Cells,bW {j with Sub:=(d7 s.aA w j.Sub).2} 9 (d7 s.aA w j.Sub).2.Code,[]⟩
      else if jA (d7 s.aA w j.Sub).2.Out then ⟨(d7 s.aA w j.Sub).1,s.Cells,bW {j with Sub:=(d7 s.aA w j.Sub).2,H:=(d7 s.aA w j.Sub).2.Out} 1 0,[]⟩
      else ⟨(d7 s.aA w j.Sub).1,s.Cells,bW {j with Sub:=(d7 s.aA w j.Sub).2} 9 1,[]⟩
    else ⟨(d7 s.aA w j.Sub).1,s.Cells,{j with Sub:=(d7 s.aA w j.Sub).2},[]⟩
  else if j.Pc=1 then ⟨{s.aA with Mem:=(tL s.aA.Mem j.H j.Op.cV).1},s.Cells,if (tL s.aA.Mem j.H j.Op.cV).2=0 then bW j 2 0 else bW j 9 (tL s.aA.Mem j.H j.Op.cV).2,[]⟩
  else if j.Pc=2 then ⟨s.aA,s.Cells.set j.Op.Cell.toNat j.H,if cellAt s.Cells j.Op.Cell=0 then bW {j with Old:=0} 9 0 else bW {j with Sub:=vB 2 (cellAt s.Cells j.Op.Cell),Old:=cellAt s.Cells j.Op.Cell} 3 0,[⟨2,w,j.aG,j.Op.Cell,j.H,j.Op.cV,0⟩]⟩
  else if j.Pc=3 then ⟨(d7 s.aA w j.Sub).1,s.Cells,if (d7 s.aA w j.Sub).2.cE then bW {j with Sub:=(d7 s.aA w j.Sub).2} 9 (d7 s.aA w j.Sub).2.Code else {j with Sub:=(d7 s.aA w j.Sub).2},[]⟩
  else ⟨s.aA,s.Cells,bW j 9 1,[]⟩
def G4:JR:=
  if j.Pc=0 then ⟨(d7 s.aA w j.Sub).1,s.Cells,if (d7 s.aA w j.Sub).2.cE then bW {j with Sub:=(d7 s.aA w j.Sub).2} 1 0 else {j with Sub:=(d7 s.aA w j.Sub).2},[]⟩
  else if j.Pc=1 then ⟨s.aA,s.Cells,if cellAt s.Cells j.Op.Cell=0 then bW {j with H:=0} 4 8 else bW {j with H:=cellAt s.Cells j.Op.Cell} 2 0,[BK w j (cellAt s.Cells j.Op.Cell)]⟩
  else if j.Pc=2 then ⟨s.aA,s.Cells,bW {j with cV:=T6 s.aA.Mem.aD j.H} 3 0,[]⟩
  else if j.Pc=3 then ⟨s.aA,s.Cells,hC s.aA.aC w j 4,[]⟩
  else if j.Pc=4 then ⟨{s.aA with aC:=(yC s.aA.aC w).1},s.Cells,bW j 9 j.Code,[]⟩
  else ⟨s.aA,s.Cells,bW j 9 1,[]⟩
def LM:JR:=
  if j.Pc=0 then if cellAt s.Cells j.Op.Cell=0 then ⟨s.aA,s.Cells,bW {j with H:=0} 4 8,[BK w j 0]⟩ else ⟨s.aA,s.Cells,bW {j with H:=cellAt s.Cells j.Op.Cell} 1 0,[]⟩
  else if j.Pc=1 then ⟨{s.aA with m7:=J9 s.aA.m7 w j.H},s.Cells,bW j 2 0,[]⟩
  else if j.Pc=2 then if cellAt s.Cells j.Op.Cell=j.H then ⟨s.aA,s.Cells,bW j 3 0,[BK w j j.H]⟩ else ⟨s.aA,s.Cells,bW j 0 0,[]⟩
  else if j.Pc=3 then ⟨s.aA,s.Cells,bW {j with cV:=T6 s.aA.Mem.aD j.H} 4 0,[]⟩
  else if j.Pc=4 then ⟨{s.aA with m7:=T7 s.aA.m7 w},s.Cells,bW j 9 j.Code,[]⟩
  else ⟨s.aA,s.Cells,bW j 9 1,[]⟩
def BD:JR:=
  if j.Pc=0 then
    if (b9 s.aA.aC w).On=false then ⟨s.aA,s.Cells,bW j 9 5,[]⟩
    else if (b9 s.aA.aC w).dI=true then ⟨s.aA,s.Cells,bW j 9 6,[]⟩
    else ⟨s.aA,s.Cells,if cellAt s.Cells j.Op.Cell=0 then bW {j with H:=0} 9 8 else bW {j with H:=cellAt s.Cells j.Op.Cell} 1 0,[BK w j (cellAt s.Cells j.Op.Cell)]⟩
  else if j.Pc=1 then ⟨s.aA,s.Cells,bW {j with cV:=T6 s.aA.Mem.aD j.H} 2 0,[]⟩
  else if j.Pc=2 then ⟨s.aA,s.Cells,hC s.aA.aC w j 9,[]⟩
  else ⟨s.aA,s.Cells,bW j 9 1,[]⟩
def tM:JR:=
  if j.Op.Kind=6 then
    if j.Pc=0 then ⟨{s.aA with aC:=(yC s.aA.aC w).1},s.Cells,bW j 9 (if (yC s.aA.aC w).2 then 0 else 5),[]⟩
    else ⟨s.aA,s.Cells,bW j 9 1,[]⟩
  else if j.Pc=0∨j.Pc=1∧j.Op.Kind≠5 then
    ⟨(d7 s.aA w j.Sub).1, s.Cells, if (d7 s.aA w j.Sub).2.cE then
      if j.Op.Kind=5 then bW {j with Sub:=(d7 s.aA w j.Sub).2} 9 (d7 s.aA w j.Sub).2.Code
      else if j.Pc=0 then bW {j with Sub:=vB 4 0} 1 0
      else bW {j with Sub:=(d7 s.aA w j.Sub).2,cV:=(d7 s.aA w j.Sub).2.Out} 9 (d7 s.aA w j.Sub).2.Code
      else {j with Sub:=(d7 s.aA w j.Sub).2},[]⟩
  else ⟨s.aA,s.Cells,bW j 9 1,[]⟩
def GV:JR:=if j.Op.Kind=1 then I0 s w j else if j.Op.Kind=2 then G4 s w j else if j.Op.Kind=3 then LM s w j else if j.Op.Kind=7 then BD s w j else tM s w j
end
def j6(s:aE)(w:Int)(r:JR):aE:=⟨r.b,r.c,s.aV.set w.toNat r.j,s.cL,s.Log++r.l,s.aG⟩
def iM(t:List Queue)(w:Int):List dO:=(t.getD w.toNat ⟨[]⟩).hU
def aM(s:aE)(w:Int):aZ:=s.aV.getD w.toNat lZ
def j7(c:aC)(w:Int)(o:dO)(ser:Int):aZ:=
  if o.Kind=1 then ⟨true,o,ser,0,vB 1 o.f8,0,0,0,0⟩
  else if o.Kind=2∨o.Kind=5 then if (b9 c w).On then ⟨true,o,ser,9,vB 5 0,0,0,0,1⟩ else ⟨true,o,ser,0,vB 5 0,0,0,0,0⟩
  else if o.Kind=4 then ⟨true,o,ser,0,vB 3 0,0,0,0,0⟩
  else ⟨true,o,ser,0,⟨0,0,0,0,0,0,0,0,0,false⟩,0,0,0,0⟩
def LN(s:aE)(w:Int):aE:=match iM s.cL w with
  | []=>s
  | o :: r => if s.aG = 1000000 then s else
    ⟨s.aA,s.Cells,s.aV.set w.toNat (j7 s.aA.aC w o (s.aG+1)),s.cL.set w.toNat ⟨r⟩,s.Log ++ [⟨1,w,s.aG+1,o.Cell,0,0,0⟩],s.aG+1⟩
def MM(w:Int)(j:aZ):Ev:=⟨4,w,j.aG,j.Op.Cell,j.H,j.cV,j.Code⟩
def lO(s:aE)(w:Int):aE:=
  if (aM s w).dE=false then LN s w
  else if (aM s w).Pc=9 then ⟨s.aA,s.Cells,s.aV.set w.toNat lZ,s.cL,s.Log ++ [MM w (aM s w)],s.aG⟩
  else j6 s w (GV s w (aM s w))
noncomputable section
variable {s:aE} (hs:yT s) (hl:s.Log.length≤1000000000) {w:Int} (hw:0≤w∧w≤2) {j:aZ} (hjo:kX j.Op∧dQ j.H∧dQ j.Old)
include hs
theorem FN(hw:0≤w∧w≤2):idx s.aV w=some (aM s w):=by
  have:=hs.2.2.1
  rw [fD hw.1 (by omega)]
  simp [aM,List.getD_eq_getElem?_getD,List.getElem?_eq_getElem (show w.toNat < s.aV.length by omega)]
theorem B8{k:Int}(hk:0≤k∧k≤1):idx s.Cells k=some (cellAt s.Cells k):=by
  have:=hs.2.1
  rw [fD hk.1 (by omega)]
  simp [cellAt,List.getD_eq_getElem?_getD,List.getElem?_eq_getElem (show k.toNat < s.Cells.length by omega)]
include hw
theorem aF6(x:aE)(hx:x.aV=s.aV)(j:aZ):cH w x j=some {x with aV:=x.aV.set w.toNat j}:=by
  unfold cH
  rw [hx,FN hs hw,aI]
include hl hjo
theorem aSP(hk:j.Op.Kind=1):((DN s w j).bind fun q=>cH w q.1 q.2)=some (j6 s w (I0 s w j)):=by
  have hn:∀(e:Ev) {α:Type} (k:Option α),need (s.Log.length + [e].length≤1073741824) k=k:=fun e _ k=>aR (by simp;omega) k
  have hcell:=B8 hs hjo.1.2.2.1
  have hval:0≤j.Op.cV∧j.Op.cV≤65535:=by have:=hjo.1.2.2.2;rw [if_pos hk] at this;exact this.2
  have hj:=fun x hx j=>aF6 hs hw x hx j
  unfold DN I0
  simp only [aEA hs.1 hw,aLI hs.1.1.1 hval,hcell,aI,bA,gD,hn]
  by_cases p0:j.Pc=0
  · have p0':(j.Pc == 0)=true:=by simpa using p0
    simp only [p0',if_true,if_pos p0]
    cases hd:(d7 s.aA w j.Sub).2.cE with
    | false=>simp only [iC,if_true,aL,if_false,aI];refine(hj _ ?_ _).trans ?_;rfl;simp [j6]
    | true =>
      simp only [dJ,aL,if_false,if_true]
      by_cases c0:(d7 s.aA w j.Sub).2.Code=0
      · have c0':((d7 s.aA w j.Sub).2.Code != 0)=false:=by simpa using c0
        simp only [c0',aL,if_false,if_neg (show ¬(d7 s.aA w j.Sub).2.Code≠0 from fun h=>h c0),eJ,aI]
        by_cases o0:jA (d7 s.aA w j.Sub).2.Out
        · simp only [bD o0,dJ,aL,if_false,if_pos o0,aI];refine(hj _ ?_ _).trans ?_;rfl;simp [j6,bW]
        · simp only [bM o0,iC,if_true,if_neg o0,aI];refine(hj _ ?_ _).trans ?_;rfl;simp [j6,bW]
      · have c0':((d7 s.aA w j.Sub).2.Code != 0)=true:=by simpa using c0
        simp only [c0',if_true,if_pos (show(d7 s.aA w j.Sub).2.Code≠0 from c0),aI];refine(hj _ ?_ _).trans ?_;rfl;simp [j6,bW]
  have p0':(j.Pc == 0)=false:=by simpa using p0
  simp only [p0',aL,if_false,if_neg p0]
  by_cases p1:j.Pc=1
  · have p1':(j.Pc == 1)=true:=by simpa using p1
    simp only [p1',if_true,if_pos p1]
    by_cases c0:(tL s.aA.Mem j.H j.Op.cV).2=0
    · have c0':((tL s.aA.Mem j.H j.Op.cV).2 != 0)=false:=by simpa using c0
      simp only [c0',aL,if_false,if_pos c0,aI];refine(hj _ ?_ _).trans ?_;rfl;simp [j6,bW]
    · have c0':((tL s.aA.Mem j.H j.Op.cV).2 != 0)=true:=by simpa using c0
      simp only [c0',if_true,if_neg c0,aI];refine(hj _ ?_ _).trans ?_;rfl;simp [j6,bW]
  have p1':(j.Pc == 1)=false:=by simpa using p1
  simp only [p1',aL,if_false,if_neg p1]
  by_cases p2:j.Pc=2
  · have p2':(j.Pc == 2)=true:=by simpa using p2
    simp only [p2',if_true,if_pos p2]
    by_cases c0:cellAt s.Cells j.Op.Cell=0
    · have c0':(cellAt s.Cells j.Op.Cell == 0)=true:=by simpa using c0
      simp only [c0',if_true,if_pos c0,aI];refine(hj _ ?_ _).trans ?_;rfl;simp [j6,bW,c0]
    · have c0':(cellAt s.Cells j.Op.Cell == 0)=false:=by simpa using c0
      simp only [c0',aL,if_false,if_neg c0,aI];refine(hj _ ?_ _).trans ?_;rfl;simp [j6,bW,vB]
  have p2':(j.Pc == 2)=false:=by simpa using p2
  simp only [p2',aL,if_false,if_neg p2]
  by_cases p3:j.Pc=3
  · have p3':(j.Pc == 3)=true:=by simpa using p3
    simp only [p3',if_true,if_pos p3]
    cases hd:(d7 s.aA w j.Sub).2.cE with
    | false=>simp only [iC,if_true,aL,if_false,aI];refine(hj _ ?_ _).trans ?_;rfl;simp [j6]
    | true=>simp only [dJ,aL,if_false,if_true,aI];refine(hj _ ?_ _).trans ?_;rfl;simp [j6,bW]
  have p3':(j.Pc == 3)=false:=by simpa using p3
  simp only [p3',aL,if_false,if_neg p3,aI];refine(hj _ ?_ _).trans ?_;rfl;simp [j6,bW]
theorem aSQ:((DO s w j).bind fun q=>cH w q.1 q.2)=some (j6 s w (G4 s w j)):=by
  have hn:∀(e:Ev) {α:Type} (k:Option α),need (s.Log.length + [e].length≤1073741824) k=k:=fun e _ k=>aR (by simp;omega) k
  have hcell:=B8 hs hjo.1.2.2.1
  have hj:=fun x hx j=>aF6 hs hw x hx j
  unfold DO G4
  simp only [aEA hs.1 hw,hcell,aI,bA,iS,hn,aEB hs.1.1.1,aCL hs.1.1.2.1 hw,rA,B6 hs.1.1.2.1 hw]
  by_cases p0:j.Pc=0
  · have p0':(j.Pc == 0)=true:=by simpa using p0
    simp only [p0',if_true,if_pos p0]
    cases hd:(d7 s.aA w j.Sub).2.cE with
    | false=>simp only [iC,if_true,aL,if_false,aI];refine(hj _ ?_ _).trans ?_;rfl;simp [j6]
    | true=>simp only [dJ,aL,if_false,if_true,aI];refine(hj _ ?_ _).trans ?_;rfl;simp [j6,bW]
  have p0':(j.Pc == 0)=false:=by simpa using p0
  simp only [p0',aL,if_false,if_neg p0]
  by_cases p1:j.Pc=1
  · have p1':(j.Pc == 1)=true:=by simpa using p1
    simp only [p1',if_true,if_pos p1]
    by_cases c0:cellAt s.Cells j.Op.Cell=0
    · have c0':(cellAt s.Cells j.Op.Cell == 0)=true:=by simpa using c0
      simp only [c0',if_true,if_pos c0,aI];refine(hj _ ?_ _).trans ?_;rfl;simp [j6,bW,BK,c0]
    · have c0':(cellAt s.Cells j.Op.Cell == 0)=false:=by simpa using c0
      simp only [c0',aL,if_false,if_neg c0,aI];refine(hj _ ?_ _).trans ?_;rfl;simp [j6,bW,BK]
  have p1':(j.Pc == 1)=false:=by simpa using p1
  simp only [p1',aL,if_false,if_neg p1]
  by_cases p2:j.Pc=2
  · have p2':(j.Pc == 2)=true:=by simpa using p2
    simp only [p2',if_true,if_pos p2,aI];refine(hj _ ?_ _).trans ?_;rfl;simp [j6,bW]
  have p2':(j.Pc == 2)=false:=by simpa using p2
  simp only [p2',aL,if_false,if_neg p2]
  by_cases p3:j.Pc=3
  · have p3':(j.Pc == 3)=true:=by simpa using p3
    simp only [p3',if_true,if_pos p3,aI,lT,bA,hC]
    cases h1:(b9 s.aA.aC w).On <;> cases h2:(b9 s.aA.aC w).dI <;> simp only [iC,dJ,aL,if_false,if_true,aI,and_false,and_true,false_and,true_and,reduceCtorEq] <;> (refine(hj _ ?_ _).trans ?_;rfl;simp [j6,bW])
  have p3':(j.Pc == 3)=false:=by simpa using p3
  simp only [p3',aL,if_false,if_neg p3]
  by_cases p4:j.Pc=4
  · have p4':(j.Pc == 4)=true:=by simpa using p4
    simp only [p4',if_true,if_pos p4,aI];refine(hj _ ?_ _).trans ?_;rfl;simp [j6,bW]
  have p4':(j.Pc == 4)=false:=by simpa using p4
  simp only [p4',aL,if_false,if_neg p4,aI];refine(hj _ ?_ _).trans ?_;rfl;simp [j6,bW]
theorem aSR:((DP s w j).bind fun q=>cH w q.1 q.2)=some (j6 s w (LM s w j)):=by
  have hn:∀(e:Ev) {α:Type} (k:Option α),need (s.Log.length + [e].length≤1073741824) k=k:=fun e _ k=>aR (by simp;omega) k
  have hcell:=B8 hs hjo.1.2.2.1
  have hj:=fun x hx j=>aF6 hs hw x hx j
  obtain⟨t1,e1⟩:=aF5 hs.1.1.2.2.2 hw j.H
  obtain⟨t2,e2⟩:=aLJ hs.1.1.2.2.2 hw
  unfold DP LM
  simp only [hcell,aI,bA,iS,hn,aEB hs.1.1.1,e1,e2]
  by_cases p0:j.Pc=0
  · have p0':(j.Pc == 0)=true:=by simpa using p0
    simp only [p0',if_true,if_pos p0]
    by_cases c0:cellAt s.Cells j.Op.Cell=0
    · have c0':(cellAt s.Cells j.Op.Cell == 0)=true:=by simpa using c0
      simp only [c0',if_true,if_pos c0,aI];refine(hj _ ?_ _).trans ?_;rfl;simp [j6,bW,BK,c0]
    · have c0':(cellAt s.Cells j.Op.Cell == 0)=false:=by simpa using c0
      simp only [c0',aL,if_false,if_neg c0,aI];refine(hj _ ?_ _).trans ?_;rfl;simp [j6,bW]
  have p0':(j.Pc == 0)=false:=by simpa using p0
  simp only [p0',aL,if_false,if_neg p0]
  by_cases p1:j.Pc=1
  · have p1':(j.Pc == 1)=true:=by simpa using p1
    simp only [p1',if_true,if_pos p1,aI];refine(hj _ ?_ _).trans ?_;rfl;simp [j6,bW]
  have p1':(j.Pc == 1)=false:=by simpa using p1
  simp only [p1',aL,if_false,if_neg p1]
  by_cases p2:j.Pc=2
  · have p2':(j.Pc == 2)=true:=by simpa using p2
    simp only [p2',if_true,if_pos p2]
    by_cases c0:cellAt s.Cells j.Op.Cell=j.H
    · have c0':(cellAt s.Cells j.Op.Cell != j.H)=false:=by simpa using c0
      simp only [c0',aL,if_false,if_pos c0,aI];refine(hj _ ?_ _).trans ?_;rfl;simp [j6,bW,BK]
    · have c0':(cellAt s.Cells j.Op.Cell != j.H)=true:=by simpa using c0
      simp only [c0',if_true,if_neg c0,aI];refine(hj _ ?_ _).trans ?_;rfl;simp [j6,bW]
  have p2':(j.Pc == 2)=false:=by simpa using p2
  simp only [p2',aL,if_false,if_neg p2]
  by_cases p3:j.Pc=3
  · have p3':(j.Pc == 3)=true:=by simpa using p3
    simp only [p3',if_true,if_pos p3,aI];refine(hj _ ?_ _).trans ?_;rfl;simp [j6,bW]
  have p3':(j.Pc == 3)=false:=by simpa using p3
  simp only [p3',aL,if_false,if_neg p3]
  by_cases p4:j.Pc=4
  · have p4':(j.Pc == 4)=true:=by simpa using p4
    simp only [p4',if_true,if_pos p4,aI];refine(hj _ ?_ _).trans ?_;rfl;simp [j6,bW]
  have p4':(j.Pc == 4)=false:=by simpa using p4
  simp only [p4',aL,if_false,if_neg p4,aI];refine(hj _ ?_ _).trans ?_;rfl;simp [j6,bW]
theorem aPR:((AU s w j).bind fun q=>cH w q.1 q.2)=some (j6 s w (BD s w j)):=by
  have hn:∀(e:Ev) {α:Type} (k:Option α),need (s.Log.length + [e].length≤1073741824) k=k:=fun e _ k=>aR (by simp;omega) k
  have hcell:=B8 hs hjo.1.2.2.1
  have hj:=fun x hx j=>aF6 hs hw x hx j
  unfold AU BD
  simp only [hcell,aI,bA,iS,hn,aEB hs.1.1.1,rA,B6 hs.1.1.2.1 hw]
  by_cases p0:j.Pc=0
  · have p0':(j.Pc == 0)=true:=by simpa using p0
    simp only [p0',if_true,if_pos p0]
    cases h1:(b9 s.aA.aC w).On with
    | false=>simp only [iC,if_true,aI];refine(hj _ ?_ _).trans ?_;rfl;simp [j6,bW]
    | true =>
      cases h2:(b9 s.aA.aC w).dI with
      | true=>simp only [dJ,aL,if_false,if_true,aI,reduceCtorEq];refine(hj _ ?_ _).trans ?_;rfl;simp [j6,bW]
      | false =>
        simp only [dJ,aL,if_false,reduceCtorEq]
        by_cases c0:cellAt s.Cells j.Op.Cell=0
        · have c0':(cellAt s.Cells j.Op.Cell == 0)=true:=by simpa using c0
          simp only [c0',if_true,if_pos c0,aI];refine(hj _ ?_ _).trans ?_;rfl;simp [j6,bW,BK,c0]
        · have c0':(cellAt s.Cells j.Op.Cell == 0)=false:=by simpa using c0
          simp only [c0',aL,if_false,if_neg c0,aI];refine(hj _ ?_ _).trans ?_;rfl;simp [j6,bW,BK]
  have p0':(j.Pc == 0)=false:=by simpa using p0
  simp only [p0',aL,if_false,if_neg p0]
  by_cases p1:j.Pc=1
  · have p1':(j.Pc == 1)=true:=by simpa using p1
    simp only [p1',if_true,if_pos p1,aI];refine(hj _ ?_ _).trans ?_;rfl;simp [j6,bW]
  have p1':(j.Pc == 1)=false:=by simpa using p1
  simp only [p1',aL,if_false,if_neg p1]
  by_cases p2:j.Pc=2
  · have p2':(j.Pc == 2)=true:=by simpa using p2
    simp only [p2',if_true,if_pos p2,aI,lT,bA,hC]
    cases h1:(b9 s.aA.aC w).On <;> cases h2:(b9 s.aA.aC w).dI <;> simp only [iC,dJ,aL,if_false,if_true,aI,and_false,and_true,false_and,true_and,reduceCtorEq] <;> (refine(hj _ ?_ _).trans ?_;rfl;simp [j6,bW])
  have p2':(j.Pc == 2)=false:=by simpa using p2
  simp only [p2',aL,if_false,if_neg p2,aI];refine(hj _ ?_ _).trans ?_;rfl;simp [j6,bW]
theorem aLK:((wA s w j).bind fun q=>cH w q.1 q.2)=some (j6 s w (tM s w j)):=by
  have hj:=fun x hx j=>aF6 hs hw x hx j
  unfold wA tM uK
  simp only [aCL hs.1.1.2.1 hw,aI,bA]
  have step:j.Op.Kind≠6→(j.Pc=0∨j.Pc=1∧j.Op.Kind≠5)→((gQ s w j false).bind fun q=>cH w q.1 q.2)=some (j6 s w ⟨(d7 s.aA w j.Sub).1,s.Cells,if (d7 s.aA w j.Sub).2.cE then if j.Op.Kind=5 then bW {j with Sub:=(d7 s.aA w j.Sub).2} 9 (d7 s.aA w j.Sub).2.Code else if j.Pc=0 then bW {j with Sub:=vB 4 0} 1 0 else bW {j with Sub:=(d7 s.aA w j.Sub).2,cV:=(d7 s.aA w j.Sub).2.Out} 9 (d7 s.aA w j.Sub).2.Code else {j with Sub:=(d7 s.aA w j.Sub).2},[]⟩):=fun k6 kp=>by
    unfold gQ
    simp only [aL,if_false,aEA hs.1 hw,aI,bA,gD]
    cases hd:(d7 s.aA w j.Sub).2.cE with
    | false=>simp only [iC,if_true,aL,if_false,aI];refine(hj _ ?_ _).trans ?_;rfl;simp [j6]
    | true =>
      simp only [dJ,aL,if_false,if_true]
      by_cases k5:j.Op.Kind=5
      · have k5':(j.Op.Kind == 5)=true:=by simpa using k5
        simp only [k5',if_true,if_pos k5,aI];refine(hj _ ?_ _).trans ?_;rfl;simp [j6,bW]
      · have k5':(j.Op.Kind == 5)=false:=by simpa using k5
        simp only [k5',aL,if_false,if_neg k5]
        by_cases p0:j.Pc=0
        · have p0':(j.Pc == 0)=true:=by simpa using p0
          simp only [p0',if_true,if_pos p0,aI];refine(hj _ ?_ _).trans ?_;rfl;simp [j6,bW,vB]
        · have p0':(j.Pc == 0)=false:=by simpa using p0
          simp only [p0',aL,if_false,if_neg p0,aI];refine(hj _ ?_ _).trans ?_;rfl;simp [j6,bW]
  have bad:((gQ s w j true).bind fun q=>cH w q.1 q.2)=some (j6 s w ⟨s.aA,s.Cells,bW j 9 1,[]⟩):=by
    unfold gQ
    simp only [if_true,bA,aI];refine(hj _ ?_ _).trans ?_;rfl;simp [j6,bW]
  by_cases k6:j.Op.Kind=6
  · have k6':(j.Op.Kind == 6)=true:=by simpa using k6
    simp only [k6',if_true,if_pos k6]
    by_cases p0:j.Pc=0
    · have p0':(j.Pc == 0)=true:=by simpa using p0
      simp only [p0',if_true,if_pos p0]
      cases h1:(yC s.aA.aC w).2 with
      | true=>simp only [dJ,aL,if_false,if_true,aI];refine(hj _ ?_ _).trans ?_;rfl;simp [j6,bW]
      | false=>simp only [iC,aL,if_false,if_true,aI];refine(hj _ ?_ _).trans ?_;rfl;simp [j6,bW]
    · have p0':(j.Pc == 0)=false:=by simpa using p0
      simp only [p0',aL,if_false,if_neg p0]
      exact bad
  have k6':(j.Op.Kind == 6)=false:=by simpa using k6
  simp only [k6',aL,if_false,if_neg k6]
  by_cases p0:j.Pc=0
  · have p0':(j.Pc != 0)=false:=by simpa using p0
    have hc:j.Pc=0∨j.Pc=1∧j.Op.Kind≠5:=.inl p0
    simp only [p0',aL,if_false,if_pos hc]
    exact step k6 hc
  have p0':(j.Pc != 0)=true:=by simpa using p0
  simp only [p0',if_true]
  by_cases p1:j.Pc=1
  · have p1':(j.Pc != 1)=false:=by simpa using p1
    simp only [p1',aL,if_false]
    by_cases k5:j.Op.Kind=5
    · have k5':(j.Op.Kind == 5)=true:=by simpa using k5
      simp only [k5',if_neg (show ¬(j.Pc=0∨j.Pc=1∧j.Op.Kind≠5) from fun h=>h.elim p0 fun h=>h.2 k5)]
      exact bad
    · have k5':(j.Op.Kind == 5)=false:=by simpa using k5
      have hc:j.Pc=0∨j.Pc=1∧j.Op.Kind≠5:=.inr ⟨p1,k5⟩
      simp only [k5',if_pos hc]
      exact step k6 hc
  · have p1':(j.Pc != 1)=true:=by simpa using p1
    simp only [p1',if_true,if_neg (show ¬(j.Pc=0∨j.Pc=1∧j.Op.Kind≠5) from fun h=>h.elim p0 fun h=>p1 h.1)]
    exact bad
omit hjo
theorem aLL:vX s w=some (LN s w):=by
  have ht:=hs.2.2.2.1
  have hser:=hs.2.2.2.2.1
  have hn:∀(e:Ev) {α:Type} (k:Option α),need (s.Log.length + [e].length≤1073741824) k=k:=fun e _ k=>aR (by simp;omega) k
  have hq:idx s.cL w=some ⟨iM s.cL w⟩:=by
    have:=ht.1
    rw [fD hw.1 (by omega)]
    simp [iM,List.getD_eq_getElem?_getD,List.getElem?_eq_getElem (show w.toNat < s.cL.length by omega)]
  have ew:bC (s.aG+1)=s.aG+1:=aP (by omega) (by omega)
  have h12:(iM s.cL w).length≤12:=by
    have h3:=ht.1
    rw [fD hw.1 (by omega)] at hq
    injection hq with hq
    have:=(ht.2 _ (List.getElem_mem (show w.toNat < s.cL.length by omega))).1
    rw [hq] at this;exact this
  unfold vX LN
  rw [hq,aI]
  simp only [uD,hq,aI]
  cases ho:iM s.cL w with
  | nil=>simp
  | cons o r =>
    rw [ho] at h12
    simp only [List.length_cons] at h12
    have l0:(((o :: r).length:Int) == 0)=false:=by simp;omega
    simp only [l0,aL,if_false]
    by_cases s0:s.aG=1000000
    · have s0':(s.aG == 1000000)=true:=by simpa using s0
      simp only [s0',if_true,if_pos s0]
    have s0':(s.aG == 1000000)=false:=by simpa using s0
    have hx:idx (o :: r) 0=some o:=rfl
    have etk:((o :: r).take (o :: r).length).drop (1:Int).toNat=r:=by rw [List.take_length];rfl
    simp only [s0',aL,if_false,if_neg s0,hx,aI,gD,ew]
    rw [aR (by simp only [List.length_cons];omega)]
    have fin:∀jb:aZ,eG s w ⟨o :: r⟩ o jb=some ⟨s.aA,s.Cells,s.aV.set w.toNat jb,s.cL.set w.toNat ⟨r⟩,s.Log ++ [⟨1,w,s.aG+1,o.Cell,0,0,0⟩],s.aG+1⟩:=fun jb=>by
      simp only [eG,FN hs hw,aI,hn,etk,ew]
    unfold j7
    by_cases k1:o.Kind=1
    · have k1':(o.Kind == 1)=true:=by simpa using k1
      simp only [k1',if_true,if_pos k1,fin];rfl
    have k1':(o.Kind == 1)=false:=by simpa using k1
    simp only [k1',aL,if_false,if_neg k1]
    have pin:∀z,z=true→iG s w ⟨o :: r⟩ o z=some ⟨s.aA,s.Cells,s.aV.set w.toNat (if (b9 s.aA.aC w).On then ⟨true,o,s.aG+1,9,vB 5 0,0,0,0,1⟩ else ⟨true,o,s.aG+1,0,vB 5 0,0,0,0,0⟩),s.cL.set w.toNat ⟨r⟩,s.Log ++ [⟨1,w,s.aG+1,o.Cell,0,0,0⟩],s.aG+1⟩:=fun z hz=>by
      subst hz
      simp only [iG,if_true,gD,B6 hs.1.1.2.1 hw,aI,ew,fin]
      cases (b9 s.aA.aC w).On <;> rfl
    by_cases k2:o.Kind=2
    · have k2':(o.Kind == 2)=true:=by simpa using k2
      simp only [k2',if_true,if_pos (show o.Kind=2∨o.Kind=5 from .inl k2)]
      exact pin true rfl
    have k2':(o.Kind == 2)=false:=by simpa using k2
    simp only [k2',aL,if_false]
    by_cases k5:o.Kind=5
    · have k5':(o.Kind == 5)=true:=by simpa using k5
      simp only [k5',if_pos (show o.Kind=2∨o.Kind=5 from .inr k5)]
      exact pin true rfl
    have k5':(o.Kind == 5)=false:=by simpa using k5
    simp only [k5',iG,aL,if_false,if_neg (show ¬(o.Kind=2∨o.Kind=5) from fun h=>h.elim k2 k5),gD,aI,ew,fin]
    by_cases k4:o.Kind=4
    · have k4':(o.Kind == 4)=true:=by simpa using k4
      simp only [k4',if_true,if_pos k4];rfl
    · have k4':(o.Kind == 4)=false:=by simpa using k4
      simp only [k4',aL,if_false,if_neg k4]
theorem aPS:K7 s w=some (lO s w):=by
  have hn:∀(e:Ev) {α:Type} (k:Option α),need (s.Log.length + [e].length≤1073741824) k=k:=fun e _ k=>aR (by simp;omega) k
  have hjk:JOk (aM s w):=by
    have h:=FN hs hw
    have h3:=hs.2.2.1
    rw [fD hw.1 (by omega)] at h
    injection h with h
    rw [←h];exact hs.2.2.2.2.2.2 _ (List.getElem_mem _)
  unfold K7 lO
  rw [FN hs hw,aI]
  cases hb:(aM s w).dE with
  | false=>simp only [iC,if_true,aLL hs hl hw,aI]
  | true =>
    have hjo:=(DU hb).1 hjk
    simp only [dJ,aL,if_false,reduceCtorEq]
    by_cases p9:(aM s w).Pc=9
    · have p9':((aM s w).Pc == 9)=true:=by simpa using p9
      simp only [p9',if_true,if_pos p9,hn];rfl
    have p9':((aM s w).Pc == 9)=false:=by simpa using p9
    simp only [p9',aL,if_false,if_neg p9]
    unfold GV
    by_cases k1:(aM s w).Op.Kind=1
    · have k1':((aM s w).Op.Kind == 1)=true:=by simpa using k1
      simp only [k1',if_true,if_pos k1];exact aSP hs hl hw hjo k1
    have k1':((aM s w).Op.Kind == 1)=false:=by simpa using k1
    simp only [k1',aL,if_false,if_neg k1]
    by_cases k2:(aM s w).Op.Kind=2
    · have k2':((aM s w).Op.Kind == 2)=true:=by simpa using k2
      simp only [k2',if_true,if_pos k2];exact aSQ hs hl hw hjo
    have k2':((aM s w).Op.Kind == 2)=false:=by simpa using k2
    simp only [k2',aL,if_false,if_neg k2]
    by_cases k3:(aM s w).Op.Kind=3
    · have k3':((aM s w).Op.Kind == 3)=true:=by simpa using k3
      simp only [k3',if_true,if_pos k3];exact aSR hs hl hw hjo
    have k3':((aM s w).Op.Kind == 3)=false:=by simpa using k3
    simp only [k3',aL,if_false,if_neg k3]
    by_cases k7:(aM s w).Op.Kind=7
    · have k7':((aM s w).Op.Kind == 7)=true:=by simpa using k7
      simp only [k7',if_true,if_pos k7];exact aPR hs hl hw hjo
    have k7':((aM s w).Op.Kind == 7)=false:=by simpa using k7
    simp only [k7',aL,if_false,if_neg k7];exact aLK hs hl hw hjo
theorem Z7:mH s w=some (lO s w)∧yT (lO s w)∧(lO s w).Log.length≤s.Log.length+1:=by
  obtain⟨x,e1,e2,h1,h2⟩:=aD9 hs hl hw
  rw [aPS hs hl hw] at e1
  injection e1 with e1
  rw [e1];exact⟨e2,h1,h2⟩
end
end Go.Gv
end
noncomputable section
namespace Go.Gv
def aPT(b:aA)(s:Int):Int:=if d6 b.Mem s=3 then (if BG b.aO s then 3 else 4) else d6 b.Mem s
noncomputable section
variable {b:aA} (hb:pB b)
include hb
theorem pB.fits:b.Mem.aD.Bytes.length≤maxLen∧(cX b.Mem.aB).length≤1073741824∧b.aC.cK.length≤maxLen∧b.aO.length≤maxLen∧(bZ b.aO).length≤1073741824∧b.m7.length≤maxLen:=by
  obtain⟨h1,h2,h3,h4,_⟩:=mD.facts hb.1.1
  have a:=hb.1.2.1.2.1;have c:=hb.1.2.2.1.1;have d:=hb.1.2.2.1.2.1;have e:=hb.1.2.2.2.1
  simp only [maxLen];omega
end
end Go.Gv
end
noncomputable section
namespace Go.Gv
def wH{α:Type}(o:Option α)(Q:α→Prop):Prop:=∃x,o=some x∧Q x
abbrev aT2{σ ρ:Type}(I:σ→Prop)(Q:ρ→Prop):Step σ ρ→Prop
  | .next s=>I s
  | .stop r=>Q r
namespace wH
variable {α β σ ρ:Type} {Q:α→Prop}
theorem ret{x:α}(h:Q x):wH (some x) Q:=⟨x,rfl,h⟩
theorem bind{P:β→Prop}{o:Option β}{f:β→Option α}(h:wH o P)(hf:∀x,P x→wH (f x) Q):wH (o.bind f) Q:=by
  obtain⟨x,e,hx⟩:=h
  rw [e];exact hf x hx
theorem need{p:Prop}[Decidable p]{k:Option α}(h:p)(hk:wH k Q):wH (Gv.need p k) Q:=by rw [aR h];exact hk
theorem ite{c:Prop}[Decidable c]{a b:Option α}(h1:c→wH a Q)(h2:¬c→wH b Q):wH (if c then a else b) Q:=by
  by_cases h:c
  · rw [if_pos h];exact h1 h
  · rw [if_neg h];exact h2 h
theorem mono{P:α→Prop}{o:Option α}(h:wH o P)(hf:∀x,P x→Q x):wH o Q:=by obtain⟨x,e,hx⟩:=h;exact⟨x,e,hf x hx⟩
theorem idx{l:List β}{i:Int}(h:0≤i∧i < l.length):wH (Gv.idx l i) (fun x=>x∈l):=⟨_,fD h.1 h.2,List.getElem_mem _⟩
theorem loop{Q:ρ→Prop}{f:σ→Option (Step σ ρ)}{s:σ}(μ:σ→Nat)(Inv:σ→Prop)(h0:Inv s)(hb:∀s,Inv s→wH (f s) (aT2 (fun s'=>Inv s'∧μ s' < μ s) (fun r=>Q r))):wH (Gv.loop f s) Q:=by
  have key:∀n s,μ s < n→Inv s→wH (Gv.loop f s) Q:=by
    intro n
    induction n with
    | zero=>intro s h;omega
    | succ n ih =>
      intro s h hs
      obtain⟨q,e,hq⟩:=hb s hs
      cases q with
      | next s'=>rw [b8 e];exact ih s' (by have:=hq.2;omega) hq.1
      | stop r=>rw [bV e];exact⟨r,rfl,hq⟩
  exact key _ s (Nat.lt_succ_self _) h0
theorem of{o:Option α}{x:α}(h:o=some x):wH o (fun y=>y=x):=⟨x,h,rfl⟩
end wH
def Cu(b:List UInt8)(i:Int):Prop:=(0≤i∧i≤b.length)∧b.length≤1048576
theorem aPU(x:Int):0≤f9 .and .i64 x 255∧f9 .and .i64 x 255≤255:=by
  have e:f9 .and .i64 x 255=IntKind.i64.wrap ((BitVec.ofInt 64 x &&& BitVec.ofInt 64 255).toNat:Int):=rfl
  have h:(BitVec.ofInt 64 x &&& BitVec.ofInt 64 255).toNat≤255:=by
    rw [BitVec.toNat_and];exact Nat.le_trans Nat.and_le_right (by decide)
  rw [e,wrap_i64 (by omega) (by omega)];omega
noncomputable section
variable {b:List UInt8} {i h:Int} (hc:Cu b i)
include hc
theorem aF7:wH (pG ⟨b,i,h⟩) (fun x=>(0≤x.1∧x.1≤255)∧Cu b x.2.1):=by
  unfold pG yZ
  obtain⟨⟨a1,a2⟩,a3⟩:=hc
  refine .ite (fun q=>?_) (fun q=>?_)
  · have q':=of_decide_eq_true q
    simp only at q'
    refine .bind (.idx ⟨a1,q'⟩) fun x _=>.ret ⟨aPU _,?_⟩
    show Cu b (bC (i+1))
    rw [aP (by omega) (by omega)]
    exact⟨by omega,a3⟩
  · exact .ret ⟨aPU _,⟨a1,a2⟩,a3⟩
theorem below{n:Int}(hn:n≤1000000):wH (fL ⟨b,i,h⟩ n) (fun x=>(0≤x.1∧(x.1 < n∨n≤0∧x.1=0))∧Cu b x.2.1):=by
  unfold fL
  refine .ite (fun q=>?_) (fun q=>?_)
  · have q':=of_decide_eq_true q
    exact .ret ⟨by simp;omega,hc⟩
  · have q0:0 < n:=by simpa using q
    refine .ite (fun q=>?_) (fun q=>?_)
    · refine .bind (aF7 hc) fun x ⟨hx,h1⟩=>.need (by omega) (.ret ⟨?_,h1⟩)
      simp only [tI hx.1]
      exact⟨Int.emod_nonneg _ (by omega),.inl (Int.emod_lt_of_pos _ q0)⟩
    · refine .bind (aF7 hc) fun x ⟨hx,h1⟩=>.bind (aF7 h1) fun y ⟨hy,h2⟩=>.bind (aF7 h2) fun z ⟨hz,h3⟩=>.bind (aF7 h3) fun w ⟨hw,h4⟩=>.need (by omega) (.ret ⟨?_,h4⟩)
      have e:bC (bC (bC (bC (x.1 * 16777216)+bC (y.1 * 65536))+bC (z.1 * 256))+w.1)=x.1 * 16777216+y.1 * 65536+z.1 * 256+w.1:=by
        rw [aP (x:=x.1 * 16777216) (by omega) (by omega),aP (x:=y.1 * 65536) (by omega) (by omega),aP (x:=z.1 * 256) (by omega) (by omega),aP (x:=x.1 * 16777216+y.1 * 65536) (by omega) (by omega),aP (x:=x.1 * 16777216+y.1 * 65536+z.1 * 256) (by omega) (by omega),aP (by omega) (by omega)]
      simp only [e]
      rw [tI (by omega)]
      exact⟨Int.emod_nonneg _ (by omega),.inl (Int.emod_lt_of_pos _ q0)⟩
theorem aXS{n:Int}(hn:n≤1000000):wH (M5 ⟨b,i,h⟩ n) (fun x=>Cu b x.2.1):=
  .bind (below hc hn) fun _ ⟨_,h1⟩=>.ret h1
theorem aJ7{l:List Int}(hl:0 < l.length)(hl2:l.length≤1000):wH (nZ ⟨b,i,h⟩ l) (fun x=>x.1∈l∧Cu b x.2.1):=
  .bind (below hc (by omega)) fun x ⟨hx,h1⟩=>.bind (.idx (by omega)) fun y hy=>.ret ⟨hy,h1⟩
end
theorem aY9{code:List UInt8}(hl:code.length≤1048576):wH (KJ code) (fun x=>Cu code x.1):=by
  unfold KJ
  refine .bind (P:=fun _=>True) (.loop (fun s=>code.length - s.2.toNat) (fun s=>0≤s.2∧s.2≤code.length) ⟨by simp,by simp⟩ ?_) fun x _=>.ret ⟨⟨by simp,by simp⟩,hl⟩
  rintro⟨a,k⟩ ⟨h1,h2⟩
  simp only [PN,CC]
  simp only at h1 h2
  have nx:k < code.length→wH ((idx code k).bind fun x7=>some (Step.next (f9 .and .i64 (bC ((bC ((bC (a * 131))+(x7.toNat:Int)))+7)) 1073741823,bC (k+1)))) (aT2 (ρ:=Int) (fun s'=>(0≤s'.2∧s'.2≤code.length)∧code.length - s'.2.toNat < code.length - k.toNat) (fun r=>True)):=fun hk=>by
    refine .bind (.idx ⟨h1,hk⟩) fun x _=>.ret ?_
    rw [aP (x:=k+1) (by omega) (by omega)]
    refine⟨⟨?_,?_⟩,?_⟩ <;> (try simp only) <;> omega
  refine .ite (fun q=>?_) (fun q=>?_)
  · have q':=of_decide_eq_true q
    exact .ite (fun _=>nx q') (fun _=>.ret trivial)
  · rw [if_neg (by simp)];exact .ret trivial
end Go.Gv
end
noncomputable section
namespace Go.Gv
noncomputable section
variable {b:List UInt8} {i h:Int} (hc:Cu b i)
include hc
theorem opD:wH (KK ⟨b,i,h⟩) (fun x=>kX x.1∧Cu b x.2.1):=by
  unfold KK
  refine .bind (aJ7 hc (by decide) (by decide)) fun x1 ⟨hk,h1⟩=>?_
  have hk7:1≤x1.1∧x1.1≤7:=by simp at hk;omega
  rw [aCK,aI]
  have key:∀(i' h' cell:Int),Cu b i'→(A7 x1.1∨cell=0)→(0≤cell∧cell≤1)→wH (vF ⟨b,i,h⟩ x1 i' h' cell) (fun x=>kX x.1∧Cu b x.2.1):=by
    intro i' h' cell hc' h2 h3
    unfold vF CE CD
    refine .ite (fun q=>?_) (fun q=>?_)
    · have q1:x1.1=1:=by simpa using q
      have fin:∀(i h size:Int),Cu b i→(0≤size∧size≤100)→wH ((fL ⟨b,i,h⟩ 60000).bind fun x13=>some ((⟨x1.1,cell,size,x13.1⟩:dO),(x13.2.1,x13.2.2))) (fun x=>kX x.1∧Cu b x.2.1):=fun i h size hi hs=>
        .bind (below hi (by omega)) fun v ⟨hv,h4⟩=>.ret ⟨⟨hk7,h2,h3,by rw [if_pos q1];exact⟨hs,by (try simp only);omega⟩⟩,h4⟩
      refine .bind (below hc' (by omega)) fun s ⟨hs,h4⟩=>.bind (aXS h4 (by omega)) fun o h5=>.ite (fun _=>.bind (aJ7 h5 (by decide) (by decide)) fun p ⟨hp,h6⟩=>fin _ _ _ h6 (by simp at hp;omega)) (fun _=>fin _ _ _ h5 (by rw [aP (by omega) (by omega)];omega))
    · have q1:¬x1.1=1:=by simpa using q
      exact .ret ⟨⟨hk7,h2,h3,by rw [if_neg q1];exact⟨rfl,rfl⟩⟩,hc'⟩
  refine .ite (fun q=>?_) (fun q=>?_)
  · refine .bind (aJ7 h1 (by decide) (by decide)) fun x ⟨hx,h2⟩=>key _ _ _ h2 (.inl (of_decide_eq_true q)) (by simp at hx;omega)
  · exact key _ _ _ h1 (.inr rfl) (by omega)
theorem aJ8{m:Int}(hm:0≤m∧m≤12):wH (sA ⟨b,i,h⟩ m) (fun x=>(x.1.length=3∧∀q∈x.1,q.hU.length≤m∧∀o∈q.hU,kX o)∧Cu b x.2.1):=by
  unfold sA
  refine .bind (P:=fun x=>(x.1.length=3∧∀q∈x.1,q.hU.length≤m∧∀o∈q.hU,kX o)∧Cu b x.2.1) (.loop (fun s=>3 - s.2.1.toNat) (fun s=>((s.1.length:Int)=s.2.1∧s.2.1≤3∧∀q∈s.1,q.hU.length≤m∧∀o∈q.hU,kX o)∧Cu b s.2.2.1) ⟨⟨rfl,by simp,by simp⟩,hc⟩ ?_) fun x hx=>.ret hx
  rintro⟨l,k,i',h'⟩ ⟨⟨e,k3,hq⟩,hi⟩
  simp only at e k3 hq hi
  simp only [HF]
  refine .ite (fun q=>?_) (fun q=>?_)
  · have q':=of_decide_eq_true q
    rw [aP (x:=m+1) (by omega) (by omega)]
    refine .bind (below hi (by omega)) fun n ⟨hn,h1⟩=>?_
    refine .bind (P:=fun x=>((x.2.2.length:Int)≤m∧∀o∈x.2.2,kX o)∧Cu b x.1) (.loop (fun s=>s.1.toNat) (fun s=>(0≤s.1∧s.1+s.2.2.2.length≤m∧∀o∈s.2.2.2,kX o)∧Cu b s.2.1) ⟨⟨hn.1,by simp;omega,by simp⟩,h1⟩ ?_) ?_
    · rintro⟨n,i1,h1,ops⟩ ⟨⟨n0,n1,ho⟩,hi1⟩
      simp only at n0 n1 ho hi1
      simp only [HD,y4]
      refine .ite (fun q=>?_) (fun q=>?_)
      · have q1:=of_decide_eq_true q
        refine .bind (opD hi1) fun o ⟨h2,h3⟩=>.need (by simp;omega) (.ret ?_)
        rw [aP (by omega) (by omega)]
        refine⟨⟨⟨by (try simp only);omega,by simp;omega,?_⟩,h3⟩,by (try simp only);omega⟩
        intro x hx
        rcases List.mem_append.1 hx with hx | hx
        · exact ho x hx
        · rw [List.mem_singleton.1 hx];exact h2
      · have q1:¬0 < n:=by simpa using q
        exact .ret ⟨⟨by (try simp only);omega,ho⟩,hi1⟩
    · rintro⟨i1,h1,ops⟩ ⟨⟨o1,o2⟩,hi1⟩
      simp only [HE,HC]
      refine .need (by simp;omega) (.ret ?_)
      rw [aP (by omega) (by omega)]
      refine⟨⟨⟨by simp;omega,by (try simp only);omega,?_⟩,hi1⟩,by (try simp only);omega⟩
      intro x hx
      rcases List.mem_append.1 hx with hx | hx
      · exact hq x hx
      · rw [List.mem_singleton.1 hx];exact⟨o1,o2⟩
  · have q':¬k < 3:=by simpa using q
    exact .ret ⟨⟨by (try simp only);omega,hq⟩,hi⟩
def SU(l:List Queue):Prop:=l.length≤3∧∀q∈l,q.hU.length≤1000
omit hc in
theorem aCN{l:List Queue}(hl:SU l)(k:Nat){q:Queue}(hq:q.hU.length≤1000):SU (l.set k q):=⟨by simpa using hl.1,fun x hx=>(List.mem_or_eq_of_mem_set hx).elim (hl.2 x) (fun e=>e ▸ hq)⟩
theorem aVX{m:Int}(hm:m≤1000):wH (CF ⟨b,i,h⟩ m) (fun x=>x.1.length≤4000∧Cu b x.2.1):=by
  unfold CF
  refine .bind (below hc (by omega)) fun x1 ⟨hx1,h1⟩=>?_
  refine .bind (P:=fun x=>x.1.length≤4000∧Cu b x.2.1) (.loop (fun s=>s.2.1.toNat) (fun s=>(0≤s.2.1∧s.1.length+4 * s.2.1≤4000)∧Cu b s.2.2.1) ⟨⟨hx1.1,by simp;omega⟩,h1⟩ ?_) fun x hx=>.ret hx
  rintro⟨l,n,i1,h1⟩ ⟨⟨n0,n1⟩,hi1⟩
  simp only at n0 n1 hi1
  simp only [JK]
  refine .ite (fun q=>?_) (fun q=>?_)
  · have q':=of_decide_eq_true q
    refine .bind (below hi1 (by omega)) fun x13 ⟨_,h13⟩=>.bind (below h13 (by omega)) fun x14 ⟨hx14,h14⟩=>?_
    rw [aP (by omega) (by omega)]
    refine .bind (P:=fun x=>(x.length:Int)≤l.length+4) (.loop (fun s=>s.2.toNat) (fun s=>0≤s.2∧(s.1.length:Int)+s.2≤l.length+4) ⟨by (try simp only);omega,by (try simp only);omega⟩ ?_) ?_
    · rintro⟨r,k⟩ ⟨k0,k1⟩
      simp only at k0 k1
      simp only [JH]
      refine .ite (fun q=>?_) (fun q=>?_)
      · have q2:=of_decide_eq_true q
        refine .need (by simp;omega) (.ret ?_)
        rw [aP (by omega) (by omega)]
        have e:(r ++ [x13.1]).length=r.length+1:=by simp
        exact⟨⟨by (try simp only);omega,by (try simp only);omega⟩,by (try simp only);omega⟩
      · exact .ret (by (try simp only);omega)
    · intro r hr
      simp only [JJ,JG]
      refine .ret ?_
      rw [aP (by omega) (by omega)]
      exact⟨⟨⟨by (try simp only);omega,by (try simp only);omega⟩,h14⟩,by (try simp only);omega⟩
  · exact .ret ⟨by (try simp only);omega,hi1⟩
end
theorem aXT{x:DY}(hx:SU x.cL)(hp:x.rR.length≤5000)(P:aE→Prop)(h0:∀t,G3 t→t=x.cL→P (fG t))(hs:∀s w,yT s→(0≤w∧w≤2)→P s→P (lO s w))(ht:G3 x.cL) :
    wH (AE x) (fun s=>yT s∧P s∧s.Log.length≤400):=by
  unfold AE
  rw [(UQ (t:=x.cL) (by have:=hx.1;omega) (fun q hq=>by have:=hx.2 q hq;omega)).2,aI,if_pos ht]
  have hj:(((fG x.cL).aV.length:Int) == 0)=false:=rfl
  rw [hj,if_neg (by simp)]
  refine .need (by split <;> omega) ?_
  have hN:((x.rR.take ((if 400 < (x.rR.length:Int) then (400:Int) else (x.rR.length:Int)).toNat)).drop 0).length≤400:=by
    rw [List.drop_zero,List.length_take];split <;> omega
  refine .bind (P:=fun s=>yT s∧P s∧s.Log.length≤400) (.loop (fun s=>1000 - s.1.toNat) (fun s=>(0≤s.1∧s.1≤400)∧yT s.2∧P s.2∧(s.2.Log.length:Int)≤s.1) ⟨⟨by simp,by simp⟩,aLH ht,h0 _ ht rfl,by simp [fG]⟩ ?_) fun s h=>.ret h
  rintro⟨k,s⟩ ⟨⟨k0,k1⟩,h1,h2,h3⟩
  simp only at k0 k1 h1 h2 h3
  simp only [HO,rP]
  refine .ite (fun q=>?_) (fun q=>.ret ⟨h1,h2,by (try simp only);omega⟩)
  have q':=of_decide_eq_true q
  refine .bind (.idx ⟨k0,q'⟩) fun w _=>?_
  rw [j5,aI]
  refine .ite (fun hw=>?_) (fun hw=>?_)
  · have hw':=of_decide_eq_true hw
    obtain⟨e,o1,o2⟩:=Z7 h1 (by omega) hw'
    rw [e,aI]
    refine .ret ?_
    rw [aP (by omega) (by omega)]
    exact⟨⟨⟨by (try simp only);omega,by (try simp only);omega⟩,o1,hs s w h1 hw' h2,by (try simp only);omega⟩,by (try simp only);omega⟩
  · refine .ret ?_
    rw [aP (by omega) (by omega)]
    exact⟨⟨⟨by (try simp only);omega,by (try simp only);omega⟩,h1,h2,by (try simp only);omega⟩,by (try simp only);omega⟩
theorem aPV{x:DY}(hx:SU x.cL):KL x=some (decide (G3 x.cL)):=by
  unfold KL
  rw [(UQ (t:=x.cL) (by have:=hx.1;omega) (fun q hq=>by have:=hx.2 q hq;omega)).1,aI]
  by_cases h:G3 x.cL
  · rw [if_pos h,bD h];rfl
  · rw [if_neg h,bM h];rfl
end Go.Gv
end
noncomputable section
namespace Go.Gv
theorem aCO(b:aA)(w:Int)(s:Sub):(d7 b w s).2.Kind=s.Kind:=by
  unfold d7 IZ A9 C9 l4 jI OO pC
  simp only [apply_ite Prod.snd,apply_ite Sub.Kind,ite_self]
theorem Z8{b:aA}{w:Int}{s:Sub}(h:s.Kind=1∨s.Kind=2∨s.Kind=4):(d7 b w s).1.aC=b.aC:=by
  unfold d7
  rcases h with k | k | k
  · simp only [k,if_true]
    unfold IZ A9
    simp only [apply_ite Prod.fst,apply_ite aA.aC,ite_self]
  · simp only [k]
    unfold C9
    simp [apply_ite Prod.fst,apply_ite aA.aC]
  · simp only [k]
    unfold jI
    simp [apply_ite Prod.fst,apply_ite aA.aC]
theorem uL{c:aC}(hc:GX c){w v:Int}(hw:0≤w∧w≤2)(hv:0≤v∧v≤2)(e:Int)(x:o8):b9 ⟨e,c.cK.set w.toNat x⟩ v=if v=w then x else b9 c v:=by
  have h3:=hc.2.1
  unfold b9
  simp only [List.getD_eq_getElem?_getD,List.getElem?_set]
  by_cases q:v=w
  · subst q;simp [show v.toNat < c.cK.length by omega]
  · rw [if_neg q,if_neg (by omega)]
def lJ(j:aZ):Prop:=j.dE=true∧(j.Op.Kind=2∨j.Op.Kind=5)∧j.Pc=0
def Adv(j:aZ):Prop:=j.dE=true∧j.Op.Kind=4∧j.Pc=0
def JI(e:Int)(p:o8)(j:aZ):Prop:=j.dE=true →
  (j.Op.Kind=1→j.Sub.Kind=1∨j.Sub.Kind=2)∧(j.Op.Kind=4→j.Pc=1→j.Sub.Kind=4) ∧
  (Adv j→j.Sub.Kind=3∧j.Sub.cE=false∧(j.Sub.Pc=0∨j.Sub.E≤e∧(j.Sub.Pc=1∧(0≤j.Sub.B∧j.Sub.B≤2)∨j.Sub.Pc=2∧j.Sub.B=3))) ∧
  (lJ j→j.Sub.Kind=5∧j.Sub.cE=false∧(j.Sub.Pc=0∨j.Sub.Pc=1∧(0≤j.Sub.E∧j.Sub.E≤e)∨j.Sub.Pc=2∧p.aJ=j.Sub.E))
def Calm(j:aZ):Prop:=¬lJ j∧¬Adv j∧(j.Op.Kind=1→j.Sub.Kind=1∨j.Sub.Kind=2)∧(j.Op.Kind=4→j.Pc=1→j.Sub.Kind=4)
theorem Calm.ji{j:aZ}(h:Calm j)(e:Int)(p:o8):JI e p j:=fun _=>⟨h.2.2.1,h.2.2.2,fun q=>absurd q h.2.1,fun q=>absurd q h.1⟩
theorem iW{j:aZ}(h1:j.Op.Kind≠1)(h2:j.Op.Kind≠2∧j.Op.Kind≠5∨j.Pc≠0)(h4:j.Op.Kind≠4∨j.Pc≠0∧(j.Pc=1→j.Sub.Kind=4)):Calm j:=
  ⟨fun q=>by have:=q.2;omega,fun q=>by have:=q.2;omega,fun q=>absurd q h1,fun q p=>by rcases h4 with h | h;exact absurd q h;exact h.2 p⟩
theorem aF8{j:aZ}(h1:j.Op.Kind=1)(h2:j.Sub.Kind=1∨j.Sub.Kind=2):Calm j:=⟨fun q=>by have:=q.2.1;omega,fun q=>by have:=q.2.1;omega,fun _=>h2,fun q=>by omega⟩
def Ep(c:aC)(J:Int→aZ):Prop:=(∀w,0≤w∧w≤2→JI c.aJ (b9 c w) (J w))∧∀p,0≤p∧p≤2→¬lJ (J p)→(b9 c p).On=true→(b9 c p).dI=false→c.aJ≤(b9 c p).aJ+1∧(c.aJ=(b9 c p).aJ+1→∀a,0≤a∧a≤2→Adv (J a)→(J a).Sub.Pc≠0→(J a).Sub.E=c.aJ→(J a).Sub.B≤p)
def HX(J:Int→aZ)(w:Int)(j:aZ):Int→aZ:=fun v=>if v=w then j else J v
theorem dP(J:Int→aZ)(w:Int)(j:aZ):HX J w j w=j:=if_pos rfl
theorem dY(J:Int→aZ){w v:Int}(j:aZ)(h:v≠w):HX J w j v=J v:=if_neg h
noncomputable section
variable {c:aC} {J:Int→aZ} (h:Ep c J)
include h
theorem Ep.congr{J':Int→aZ}(e:∀v,0≤v∧v≤2→J' v=J v):Ep c J':=by
  refine⟨fun w hw=>by rw [e w hw];exact h.1 w hw,fun p hp hn h1 h2=>?_⟩
  rw [e p hp] at hn
  obtain⟨a1,a2⟩:=h.2 p hp hn h1 h2
  exact⟨a1,fun q a ha=>by rw [e a ha];exact a2 q a ha⟩
variable {w:Int} (hw:0≤w∧w≤2) {j:aZ}
include hw
theorem Ep.step{c':aC}(he:c'.aJ=c.aJ)(hp:∀v,0≤v∧v≤2→v≠w→b9 c' v=b9 c v)(hj:JI c.aJ (b9 c' w) j)
    (h2:¬lJ j→(b9 c' w).On=true→(b9 c' w).dI=false→c.aJ≤(b9 c' w).aJ+1∧(c.aJ=(b9 c' w).aJ+1→∀a,0≤a∧a≤2→a≠w→Adv (J a)→(J a).Sub.Pc≠0→(J a).Sub.E=c.aJ→(J a).Sub.B≤w))
    (ha:Adv j→j.Sub.Pc=0∨j.Sub.B=0):Ep c' (HX J w j):=by
  constructor
  · intro v hv
    rw [he]
    by_cases q:v=w
    · subst q;rw [dP];exact hj
    · rw [dY _ _ q,hp v hv q];exact h.1 v hv
  · intro p hpr hn o1 o2
    rw [he]
    have hadv:∀a,0≤a∧a≤2→(∀q:a≠w,Adv (J a)→(J a).Sub.Pc≠0→(J a).Sub.E=c.aJ→(J a).Sub.B≤p)→Adv (HX J w j a)→(HX J w j a).Sub.Pc≠0→(HX J w j a).Sub.E=c.aJ→(HX J w j a).Sub.B≤p:=by
      intro a har hk
      by_cases q:a=w
      · subst q
        rw [dP]
        intro x1 x2 _
        rcases ha x1 with y | y
        · exact absurd y x2
        · omega
      · rw [dY _ _ q];exact hk q
    by_cases q:p=w
    · subst q
      rw [dP] at hn
      obtain⟨a1,a2⟩:=h2 hn o1 o2
      exact⟨a1,fun e a har=>hadv a har (fun q=>a2 e a har q)⟩
    · rw [dY _ _ q] at hn
      rw [hp p hpr q] at o1 o2 ⊢
      obtain⟨a1,a2⟩:=h.2 p hpr hn o1 o2
      exact⟨a1,fun e a har=>hadv a har (fun _=>a2 e a har)⟩
theorem Ep.still(hn:¬lJ (J w))(hj:Calm j):Ep c (HX J w j):=
  h.step hw rfl (fun _ _ _=>rfl) (hj.ji _ _) (fun _ o1 o2=>by
    obtain⟨a1,a2⟩:=h.2 w hw hn o1 o2
    exact⟨a1,fun e a har _=>a2 e a har⟩) (fun q=>absurd q hj.2.1)
theorem Ep.aT3(hc:GX c)(hn:¬lJ (J w))(hj:Calm j):Ep (yC c w).1 (HX J w j):=by
  unfold yC
  by_cases q:(b9 c w).On
  · rw [if_pos q]
    refine h.step hw rfl (fun v hv hvw=>by rw [uL hc hw hv,if_neg hvw]) (hj.ji _ _) (fun _ o1=>?_) (fun q=>absurd q hj.2.1)
    rw [uL hc hw hw,if_pos rfl] at o1
    cases o1
  · rw [if_neg q];exact h.still hw hn hj
theorem Ep.pin{b:aA}(hb:b.aC=c)(hc:GX c)(hj:J w=j)(hP:lJ j){fin:aZ}(hf:Calm fin) :
    Ep (OO b w j.Sub).1.aC (HX J w (if (OO b w j.Sub).2.cE then fin else {j with Sub:=(OO b w j.Sub).2})):=by
  have hji:=h.1 w hw
  rw [hj] at hji
  have hk5:=hP.2.1
  obtain⟨k,d,hpc⟩:=(hji hP.1).2.2.2 hP
  have noadv:∀s:Sub,¬Adv {j with Sub:=s}:=fun s q=>by have:=q.2.1;simp only at this;omega
  have hP':∀s:Sub,lJ {j with Sub:=s}:=fun s=>hP
  have mk:∀(s:Sub) (p:o8),(s.Kind=5∧s.cE=false∧(s.Pc=0∨s.Pc=1∧(0≤s.E∧s.E≤c.aJ)∨s.Pc=2∧p.aJ=s.E))→JI c.aJ p {j with Sub:=s}:=fun s p hs _=>⟨fun q=>by simp only at q;omega,fun q=>by simp only at q;omega,fun q=>absurd q (noadv s),fun _=>hs⟩
  unfold OO
  rw [hb]
  rcases hpc with p0 | ⟨p1,e0,e1⟩ | ⟨p2,pe⟩
  · simp only [if_pos p0,d,aL,if_false,hb]
    exact h.step hw rfl (fun _ _ _=>rfl) (mk _ _ ⟨k,rfl,.inr (.inl ⟨rfl,hc.1.1,Int.le_refl _⟩)⟩) (fun q=>absurd (hP' _) q) (fun q=>absurd q (noadv _))
  · have hpt:GU c w j.Sub.E=(⟨c.aJ,c.cK.set w.toNat ⟨true,j.Sub.E,false,0⟩⟩,true):=by unfold GU;rw [if_pos ⟨e0,e1⟩]
    simp only [if_neg (show ¬j.Sub.Pc=0 by omega),if_pos p1,hpt,if_true,d,aL,if_false]
    exact h.step hw rfl (fun v hv hvw=>by rw [uL hc hw hv,if_neg hvw]) (mk _ _ ⟨k,rfl,.inr (.inr ⟨rfl,by rw [uL hc hw hw,if_pos rfl]⟩)⟩) (fun q=>absurd (hP' _) q) (fun q=>absurd q (noadv _))
  · simp only [if_neg (show ¬j.Sub.Pc=0 by omega),if_neg (show ¬j.Sub.Pc=1 by omega),if_pos p2]
    by_cases q:c.aJ=j.Sub.E
    · simp only [if_pos q,pC,if_true,hb]
      exact h.step hw rfl (fun _ _ _=>rfl) (hf.ji _ _) (fun _ _ _=>⟨by omega,fun e=>by omega⟩) (fun q=>absurd q hf.2.1)
    · simp only [if_neg q,d,aL,if_false,hb]
      exact h.step hw rfl (fun _ _ _=>rfl) (mk _ _ ⟨k,rfl,.inl rfl⟩) (fun q=>absurd (hP' _) q) (fun q=>absurd q (noadv _))
omit h hw in
theorem aF9(hc:GX c){q:Int}(hq:0≤q∧q≤2)(e:Int):(uU c q e).1.aJ=c.aJ∧(∀v,0≤v∧v≤2→(b9 (uU c q e).1 v).On=(b9 c v).On∧(b9 (uU c q e).1 v).aJ=(b9 c v).aJ∧((b9 (uU c q e).1 v).dI=false→(b9 c v).dI=false)) ∧
    ((uU c q e).2=true→(b9 (uU c q e).1 q).On=true→(b9 (uU c q e).1 q).dI=false→(b9 c q).aJ=e):=by
  unfold uU
  by_cases k1:(b9 c q).On=false∨(b9 c q).dI=true∨(b9 c q).aJ=e
  · rw [if_pos k1]
    refine⟨rfl,fun v hv=>⟨rfl,rfl,id⟩,fun _ o1 o2=>?_⟩
    rcases k1 with k | k | k
    · rw [k] at o1;cases o1
    · rw [k] at o2;cases o2
    · exact k
  · rw [if_neg k1]
    by_cases k2:(b9 c q).Seen=2
    · rw [if_pos k2]
      refine⟨rfl,fun v hv=>?_,fun _ _ o2=>?_⟩
      · rw [uL hc hq hv]
        by_cases z:v=q
        · subst z;rw [if_pos rfl];exact⟨rfl,rfl,fun x=>by cases x⟩
        · rw [if_neg z];exact⟨rfl,rfl,id⟩
      · rw [uL hc hq hq,if_pos rfl] at o2;cases o2
    · rw [if_neg k2]
      refine⟨rfl,fun v hv=>?_,fun x=>by cases x⟩
      rw [uL hc hq hv]
      by_cases z:v=q
      · subst z;rw [if_pos rfl];exact⟨rfl,rfl,id⟩
      · rw [if_neg z];exact⟨rfl,rfl,id⟩
theorem Ep.advance{b:aA}(hb:b.aC=c)(hc:GX c)(hj:J w=j)(hA:Adv j){fin:aZ}(hf:Calm fin) :
    Ep (l4 b j.Sub).1.aC (HX J w (if (l4 b j.Sub).2.cE then fin else {j with Sub:=(l4 b j.Sub).2})):=by
  have hji:=h.1 w hw
  rw [hj] at hji
  have hk4:=hA.2.1
  obtain⟨k,d,hpc⟩:=(hji hA.1).2.2.1 hA
  have nopin:∀s:Sub,¬lJ {j with Sub:=s}:=fun s q=>by have:=q.2.1;simp only at this;omega
  have nopw:¬lJ (J w):=by rw [hj];exact nopin j.Sub
  have mk:∀(s:Sub) (p:o8) (e:Int),(s.Kind=3∧s.cE=false∧(s.Pc=0∨s.E≤e∧(s.Pc=1∧(0≤s.B∧s.B≤2)∨s.Pc=2∧s.B=3)))→JI e p {j with Sub:=s}:=fun s p e hs _=>⟨fun q=>by simp only at q;omega,fun _ q=>by simp only at q;have:=hA.2.2;omega,fun _=>hs,fun q=>absurd q (nopin s)⟩
  unfold l4
  rw [hb]
  rcases hpc with p0 | ⟨el,⟨p1,B0,B2⟩ | ⟨p2,B3⟩⟩
  · simp only [if_pos p0,d,aL,if_false,hb]
    refine h.step hw rfl (fun _ _ _=>rfl) (mk _ _ _ ⟨k,rfl,.inr ⟨Int.le_refl _,.inl ⟨rfl,by simp,by simp⟩⟩⟩) (fun _ o1 o2=>?_) (fun _=>.inr rfl)
    obtain⟨a1,a2⟩:=h.2 w hw nopw o1 o2
    exact⟨a1,fun e a har _=>a2 e a har⟩
  · obtain ⟨le, lv, lq⟩ := aF9 hc (q := j.Sub.B) ⟨B0, B2⟩ j.Sub.E
    simp only [if_neg (show ¬j.Sub.Pc=0 by omega),if_pos p1,if_pos (show 0≤j.Sub.B∧j.Sub.B≤2 from ⟨B0,B2⟩)]
    have others:∀v,0≤v∧v≤2→JI (uU c j.Sub.B j.Sub.E).1.aJ (b9 (uU c j.Sub.B j.Sub.E).1 v) (J v):=fun v hv=>by
      have:=h.1 v hv
      rw [le]
      intro hbv
      obtain⟨x1,x2,x3,x4⟩:=this hbv
      exact⟨x1,x2,x3,fun q=>by rw [(lv v hv).2.1];exact x4 q⟩
    cases hl:(uU c j.Sub.B j.Sub.E).2
    · simp only [aL,if_false,pC,if_true]
      refine⟨fun v hv=>?_,fun p hp hn o1 o2=>?_⟩
      · by_cases q:v=w
        · subst q;rw [dP];exact hf.ji _ _
        · rw [dY _ _ q];exact others v hv
      · have hn':¬lJ (J p):=by
          by_cases q:p=w
          · rw [q];exact nopw
          · rw [dY _ _ q] at hn;exact hn
        obtain⟨y1,y2,y3⟩:=lv p hp
        rw [y1] at o1
        obtain⟨a1,a2⟩:=h.2 p hp hn' o1 (y3 o2)
        rw [le,y2]
        refine⟨a1,fun e a har=>?_⟩
        by_cases q:a=w
        · subst q;rw [dP];exact fun q=>absurd q hf.2.1
        · rw [dY _ _ q];exact a2 e a har
    · simp only [if_true,d,aL,if_false]
      refine⟨fun v hv=>?_,fun p hp hn o1 o2=>?_⟩
      · by_cases q:v=w
        · subst q
          rw [dP,le]
          refine mk _ _ _ ⟨k,rfl,.inr ⟨el,?_⟩⟩
          by_cases z:j.Sub.B=2
          · exact .inr ⟨by simp only [if_pos z],by simp only;omega⟩
          · exact .inl ⟨by simp only [if_neg z],by simp only;omega,by simp only;omega⟩
        · rw [dY _ _ q];exact others v hv
      · have hn':¬lJ (J p):=by
          by_cases q:p=w
          · rw [q];exact nopw
          · rw [dY _ _ q] at hn;exact hn
        obtain⟨y1,y2,y3⟩:=lv p hp
        have o1':=o1
        rw [y1] at o1'
        obtain⟨a1,a2⟩:=h.2 p hp hn' o1' (y3 o2)
        rw [le,y2]
        refine⟨a1,fun e a har=>?_⟩
        by_cases q:a=w
        · subst q
          rw [dP]
          intro _ _ hE
          simp only at hE ⊢
          have hB:=a2 e a har (by rw [hj];exact hA) (by rw [hj];omega) (by rw [hj];exact hE)
          rw [hj] at hB
          by_cases z:j.Sub.B=p
          · rw [←z] at o1 o2
            have:=lq hl o1 o2
            rw [z] at this
            omega
          · omega
        · rw [dY _ _ q];exact a2 e a har
  · simp only [if_neg (show ¬j.Sub.Pc=0 by omega),if_neg (show ¬j.Sub.Pc=1 by omega),if_pos p2,pC,if_true]
    unfold SR
    by_cases q:c.aJ=j.Sub.E∧j.Sub.E≠100000
    · simp only [if_pos q]
      refine⟨fun v hv=>?_,fun p hp hn o1 o2=>?_⟩
      · by_cases z:v=w
        · subst z;rw [dP];exact hf.ji _ _
        · rw [dY _ _ z]
          intro hbv
          obtain⟨x1,x2,x3,x4⟩:=h.1 v hv hbv
          refine⟨x1,x2,fun q=>?_,fun q=>?_⟩
          · obtain⟨z1,z2,z3⟩:=x3 q
            exact⟨z1,z2,z3.imp id fun z4=>⟨by simp only;omega,z4.2⟩⟩
          · obtain⟨z1,z2,z3⟩:=x4 q
            exact⟨z1,z2,z3.imp id fun z4=>z4.imp (fun z5=>⟨z5.1,z5.2.1,by simp only;omega⟩) id⟩
      · have hn':¬lJ (J p):=by
          by_cases z:p=w
          · rw [z];exact nopw
          · rw [dY _ _ z] at hn;exact hn
        have o1':(b9 c p).On=true:=o1
        have o2':(b9 c p).dI=false:=o2
        obtain⟨a1,a2⟩:=h.2 p hp hn' o1' o2'
        have hpk:=(ON hc hp).1.2
        have hne:c.aJ≠(b9 c p).aJ+1:=fun e=>by
          have:=a2 e w hw (by rw [hj];exact hA) (by rw [hj];omega) (by rw [hj];exact q.1.symm)
          rw [hj] at this;omega
        have hep:b9 ⟨j.Sub.E+1,c.cK⟩ p=b9 c p:=rfl
        rw [hep]
        refine⟨by simp only;omega,fun e a har hA' hp' hE'=>?_⟩
        exfalso
        by_cases z:a=w
        · subst z;rw [dP] at hA';exact hf.2.1 hA'
        · rw [dY _ _ z] at hA' hp' hE'
          obtain⟨_,_,z3⟩:=(h.1 a har hA'.1).2.2.1 hA'
          rcases z3 with z3 | z3
          · exact hp' z3
          · simp only at hE';omega
    · simp only [if_neg q]
      exact h.still hw nopw hf
end
end Go.Gv
end
noncomputable section
namespace Go.Gv
theorem oZ{s:aE}(h3:s.aV.length=3){w v:Int}(hw:0≤w∧w≤2)(hv:0≤v∧v≤2)(b:aA)(c:List Int)(j:aZ)(t:List Queue)(l:List Ev)(n:Int):aM ⟨b,c,s.aV.set w.toNat j,t,l,n⟩ v=HX (aM s) w j v:=by
  unfold aM HX
  simp only [List.getD_eq_getElem?_getD,List.getElem?_set]
  by_cases q:v=w
  · subst q;simp [show v.toNat < s.aV.length by omega]
  · rw [if_neg q,if_neg (by omega)]
noncomputable section
variable (s:aE) (w:Int) (j:aZ)
theorem aXU{c:Prop}[Decidable c]{x y:Int}(hx:x=1∨x=2)(hy:y=1∨y=2):(if c then x else y)=1∨(if c then x else y)=2:=by split <;> assumption
theorem aLM(h:j.Sub.Kind=1∨j.Sub.Kind=2):(I0 s w j).b.aC=s.aA.aC∧(I0 s w j).j.Op=j.Op∧((I0 s w j).j.Sub.Kind=1∨(I0 s w j).j.Sub.Kind=2):=by
  have hc:=Z8 (b:=s.aA) (w:=w) (s:=j.Sub) (by omega)
  have hk:=aCO s.aA w j.Sub
  unfold I0 bW vB
  refine⟨?_,?_,?_⟩
  · simp only [apply_ite JR.b,apply_ite aA.aC,hc,ite_self]
  · simp only [apply_ite JR.j,apply_ite aZ.Op,ite_self]
  · simp only [apply_ite JR.j,apply_ite aZ.Sub,apply_ite Sub.Kind,hk]
    repeat' (first | exact h | exact .inr rfl | apply aXU)
theorem aVY{c:Prop}[Decidable c]{x y:Int}(hx:x≠0)(hy:y≠0):(if c then x else y)≠0:=by split <;> assumption
theorem aLN(h0:j.Pc≠0)(h4:j.Pc≠4):(G4 s w j).b.aC=s.aA.aC∧(G4 s w j).j.Op=j.Op∧(G4 s w j).j.Pc≠0:=by
  unfold G4 hC bW
  rw [if_neg h0]
  simp only [if_neg h4]
  refine⟨?_,?_,?_⟩
  · simp only [apply_ite JR.b,apply_ite aA.aC,ite_self]
  · simp only [apply_ite JR.j,apply_ite aZ.Op,ite_self]
  · simp only [apply_ite JR.j,apply_ite aZ.Pc]
    repeat' (first | decide | apply aVY)
theorem aLO:(LM s w j).b.aC=s.aA.aC∧(LM s w j).j.Op=j.Op:=by
  unfold LM bW
  exact⟨by simp only [apply_ite JR.b,apply_ite aA.aC,ite_self],by simp only [apply_ite JR.j,apply_ite aZ.Op,ite_self]⟩
theorem aIB:(BD s w j).b.aC=s.aA.aC∧(BD s w j).j.Op=j.Op:=by
  unfold BD hC bW
  exact⟨by simp only [apply_ite JR.b,apply_ite aA.aC,ite_self],by simp only [apply_ite JR.j,apply_ite aZ.Op,ite_self]⟩
end
noncomputable section
variable {s:aE} (hs:yT s) {w:Int} (hw:0≤w∧w≤2) (h:Ep s.aA.aC (aM s))
include hs hw h
theorem aVZ{j:aZ}(hj:aM s w=j)(hb:j.dE=true)(hk:1≤j.Op.Kind∧j.Op.Kind≤7)(hp9:j.Pc≠9):Ep (GV s w j).b.aC (HX (aM s) w (GV s w j).j):=by
  have hc:=hs.1.1.2.1
  have hji:=h.1 w hw
  rw [hj] at hji
  obtain⟨i1,i2,i3,i4⟩:=hji hb
  have npw:¬lJ j→¬lJ (aM s w):=fun q=>by rw [hj];exact q
  unfold GV
  by_cases k1:j.Op.Kind=1
  · rw [if_pos k1]
    obtain⟨e1,e2,e3⟩:=aLM s w j (i1 k1)
    rw [e1]
    exact h.still hw (npw fun q=>by have:=q.2.1;omega) (aF8 (by rw [e2];exact k1) e3)
  rw [if_neg k1]
  by_cases k2:j.Op.Kind=2
  · rw [if_pos k2]
    by_cases p0:j.Pc=0
    · have hP:lJ j:=⟨hb,.inl k2,p0⟩
      obtain⟨k,d,_⟩:=i4 hP
      have es:d7 s.aA w j.Sub=OO s.aA w j.Sub:=by unfold d7;simp [k,d]
      have:=h.pin hw (b:=s.aA) rfl hc hj hP (fin:=bW {j with Sub:=(d7 s.aA w j.Sub).2} 1 0) (iW (by simp only [bW];omega) (.inr (by simp [bW])) (.inl (by simp only [bW];omega)))
      unfold G4
      rw [if_pos p0]
      simp only [es] at this ⊢
      exact this
    · by_cases p4:j.Pc=4
      · unfold G4
        simp only [if_neg p0,if_neg (show ¬j.Pc=1 by omega),if_neg (show ¬j.Pc=2 by omega),if_neg (show ¬j.Pc=3 by omega),if_pos p4]
        exact h.aT3 hw hc (npw fun q=>p0 q.2.2) (iW (by simp only [bW];omega) (.inr (by simp [bW])) (.inl (by simp only [bW];omega)))
      · obtain⟨e1,e2,e3⟩:=aLN s w j p0 p4
        rw [e1]
        exact h.still hw (npw fun q=>p0 q.2.2) (iW (by rw [e2];omega) (.inr e3) (.inl (by rw [e2];omega)))
  rw [if_neg k2]
  by_cases k3:j.Op.Kind=3
  · rw [if_pos k3]
    obtain⟨e1,e2⟩:=aLO s w j
    rw [e1]
    exact h.still hw (npw fun q=>by have:=q.2.1;omega) (iW (by rw [e2];omega) (.inl (by rw [e2];omega)) (.inl (by rw [e2];omega)))
  rw [if_neg k3]
  by_cases k7:j.Op.Kind=7
  · rw [if_pos k7]
    obtain⟨e1,e2⟩:=aIB s w j
    rw [e1]
    exact h.still hw (npw fun q=>by have:=q.2.1;omega) (iW (by rw [e2];omega) (.inl (by rw [e2];omega)) (.inl (by rw [e2];omega)))
  rw [if_neg k7]
  unfold tM
  by_cases k6:j.Op.Kind=6
  · rw [if_pos k6]
    by_cases p0:j.Pc=0
    · rw [if_pos p0]
      exact h.aT3 hw hc (npw fun q=>by have:=q.2.1;omega) (iW (by simp only [bW];omega) (.inr (by simp [bW])) (.inl (by simp only [bW];omega)))
    · rw [if_neg p0]
      exact h.still hw (npw fun q=>p0 q.2.2) (iW (by simp only [bW];omega) (.inr (by simp [bW])) (.inl (by simp only [bW];omega)))
  rw [if_neg k6]
  by_cases k5:j.Op.Kind=5
  · by_cases p0:j.Pc=0
    · have hP:lJ j:=⟨hb,.inr k5,p0⟩
      obtain⟨k,d,_⟩:=i4 hP
      have es:d7 s.aA w j.Sub=OO s.aA w j.Sub:=by unfold d7;simp [k,d]
      have:=h.pin hw (b:=s.aA) rfl hc hj hP (fin:=bW {j with Sub:=(d7 s.aA w j.Sub).2} 9 (d7 s.aA w j.Sub).2.Code) (iW (by simp only [bW];omega) (.inr (by simp [bW])) (.inl (by simp only [bW];omega)))
      rw [if_pos (.inl p0)]
      simp only [es,if_pos k5] at this ⊢
      exact this
    · rw [if_neg (fun q=>q.elim p0 fun q=>q.2 k5)]
      exact h.still hw (npw fun q=>p0 q.2.2) (iW (by simp only [bW];omega) (.inr (by simp [bW])) (.inl (by simp only [bW];omega)))
  have k4:j.Op.Kind=4:=by omega
  have np:¬lJ (aM s w):=npw fun q=>by have:=q.2.1;omega
  by_cases p0:j.Pc=0
  · have hA:Adv j:=⟨hb,k4,p0⟩
    obtain⟨k,d,_⟩:=i3 hA
    have es:d7 s.aA w j.Sub=l4 s.aA j.Sub:=by unfold d7;simp [k,d]
    have:=h.advance hw (b:=s.aA) rfl hc hj hA (fin:=bW {j with Sub:=vB 4 0} 1 0) (iW (by simp only [bW];omega) (.inr (by simp [bW])) (.inr ⟨by simp [bW],fun _=>rfl⟩))
    rw [if_pos (.inl p0)]
    simp only [es,if_neg k5,if_pos p0] at this ⊢
    exact this
  by_cases p1:j.Pc=1
  · rw [if_pos (.inr ⟨p1,k5⟩)]
    have hk:=i2 k4 p1
    have hcl:=Z8 (b:=s.aA) (w:=w) (s:=j.Sub) (by omega)
    have hkk:=aCO s.aA w j.Sub
    simp only [hcl,if_neg k5,if_neg p0]
    refine h.still hw np ?_
    split
    · exact iW (by simp only [bW];omega) (.inr (by simp [bW])) (.inr ⟨by simp [bW],fun q=>by simp [bW] at q⟩)
    · exact iW (by simp only;omega) (.inr p0) (.inr ⟨p0,fun _=>by simp only [hkk];exact hk⟩)
  · rw [if_neg (fun q=>q.elim p0 fun q=>p1 q.1)]
    exact h.still hw np (iW (by simp only [bW];omega) (.inr (by simp [bW])) (.inr ⟨by simp [bW],fun q=>by simp [bW] at q⟩))
theorem aSS:Ep (lO s w).aA.aC (aM (lO s w)):=by
  have h3:=hs.2.2.1
  have hjk:JOk (aM s w):=by
    have h:=FN hs hw
    rw [fD hw.1 (by omega)] at h
    injection h with h
    rw [←h];exact hs.2.2.2.2.2.2 _ (List.getElem_mem _)
  unfold lO
  cases hb:(aM s w).dE with
  | false =>
    rw [if_pos rfl]
    have np:¬lJ (aM s w):=fun q=>by have:=q.1;rw [hb] at this;cases this
    unfold LN
    cases ho:iM s.cL w with
    | nil=>exact h
    | cons o r =>
      simp only
      by_cases s0:s.aG=1000000
      · rw [if_pos s0];exact h
      rw [if_neg s0]
      refine Ep.congr ?_ (fun v hv=>oZ h3 hw hv _ _ _ _ _ _)
      simp only
      unfold j7
      by_cases k1:o.Kind=1
      · rw [if_pos k1]
        exact h.still hw np (aF8 k1 (.inl rfl))
      rw [if_neg k1]
      by_cases k2:o.Kind=2∨o.Kind=5
      · rw [if_pos k2]
        cases hon:(b9 s.aA.aC w).On
        · simp only [aL,if_false]
          refine h.step hw rfl (fun _ _ _=>rfl) (fun _=>⟨fun q=>absurd q k1,fun q=>by simp only at q;omega,fun q=>by have:=q.2.1;simp only at this;omega,fun _=>⟨rfl,rfl,.inl rfl⟩⟩) (fun _ o1=>?_) (fun q=>by have:=q.2.1;simp only at this;omega)
          rw [hon] at o1;cases o1
        · simp only [if_true]
          exact h.still hw np (iW k1 (.inr (by simp)) (.inl (by simp only;omega)))
      rw [if_neg k2]
      by_cases k4:o.Kind=4
      · rw [if_pos k4]
        refine h.step hw rfl (fun _ _ _=>rfl) (fun _=>⟨fun q=>absurd q k1,fun _ q=>by simp at q,fun _=>⟨rfl,rfl,.inl rfl⟩,fun q=>by have:=q.2.1;simp only at this;omega⟩) (fun _ o1 o2=>?_) (fun _=>.inl rfl)
        obtain⟨a1,a2⟩:=h.2 w hw np o1 o2
        exact⟨a1,fun e a har _=>a2 e a har⟩
      · rw [if_neg k4]
        exact h.still hw np (iW k1 (.inl (by simp only;omega)) (.inl k4))
  | true =>
    rw [if_neg (by simp)]
    by_cases p9:(aM s w).Pc=9
    · rw [if_pos p9]
      refine Ep.congr ?_ (fun v hv=>oZ h3 hw hv _ _ _ _ _ _)
      exact h.still hw (fun q=>by have:=q.2.2;omega) (iW (by decide) (.inl (by decide)) (.inl (by decide)))
    · rw [if_neg p9]
      refine Ep.congr ?_ (fun v hv=>oZ h3 hw hv _ _ _ _ _ _)
      exact aVZ hs hw h rfl hb ((DU hb).1 hjk).1.1 p9
end
theorem ep0(t:List Queue):Ep (fG t).aA.aC (aM (fG t)):=by
  have hj:∀w:Int,aM (fG t) w=lZ:=fun w=>by
    unfold aM fG
    simp only [List.getD_eq_getElem?_getD,List.getElem?_replicate]
    split <;> rfl
  have hp:∀w:Int,b9 (fG t).aA.aC w=⟨false,0,false,0⟩:=fun w=>by
    unfold b9 fG Z5
    simp only [List.getD_eq_getElem?_getD,List.getElem?_replicate]
    split <;> rfl
  exact⟨fun w _ hb=>by rw [hj] at hb;simp [lZ] at hb,fun p _ _ o1=>by rw [hp] at o1;simp at o1⟩
def aPW(s:aE)(k:Nat):Prop:=(b9 s.aA.aC k).On=true∧(aM s k).dE=false
instance (s:aE) (k:Nat):Decidable (aPW s k):=by unfold aPW;infer_instance
end Go.Gv
end
noncomputable section
namespace Go.Gv
def Hk(h:aD):Prop:=h.Bytes.length=384∧h.Class.length=6
def Wk(m:Mem):Prop:=Hk m.aD∧m.aB.Global.length=3∧m.aB.Own.length=9∧(cX m.aB).length≤24
theorem mD.wk{m:Mem}(hm:mD m):Wk m:=by obtain⟨a,b,c,d,e,_⟩:=mD.facts hm;exact⟨⟨d,e⟩,b,c,a⟩
theorem Wk.small{m:Mem}(h:Wk m):uZ m:=by obtain⟨⟨a,b⟩,c,d,e⟩:=h;exact⟨by omega,by omega,by omega,by omega,by omega⟩
noncomputable section
variable {b:List UInt8} {i h:Int} (hc:Cu b i)
include hc
end
end Go.Gv
end
noncomputable section
namespace Go.Gv
noncomputable section
variable {b:List UInt8} {i h:Int} (hc:Cu b i)
include hc
def Rk(l:List aY):Prop:=l.length=3∧(bZ l).length≤24
omit hc in
theorem Rk.rows{l:List aY}(hl:Rk l):∀s∈l,s.Rows.length≤24:=fun s hs=>by have:=J5 hs;have:=hl.2;omega
end
end Go.Gv
end
noncomputable section
namespace Go.Gv
def aXV(c:aC)(k:Nat):Prop:=((b9 c k).On=true∧(b9 c k).dI=false)∧(b9 c k).aJ < c.aJ
instance (c:aC) (k:Nat):Decidable (aXV c k):=by unfold aXV;infer_instance
def aXW(c:aC)(k:Nat):Prop:=(b9 c k).On=true∧(b9 c k).dI=false
instance (c:aC) (k:Nat):Decidable (aXW c k):=by unfold aXW;infer_instance
end Go.Gv
end
noncomputable section
set_option maxRecDepth 20000
namespace Go.Gv
noncomputable section
variable {b:List UInt8} {i h:Int} (hc:Cu b i)
include hc
end
def I2(_:aA)(s:Sub)(m:Nat):Prop:=s.Kind=2∧(s.Pc=0∧2≤m∨s.Pc=1∧1≤m)
theorem Z9{l:List aY}(h3:l.length=3){w:Int}(hw:0≤w∧w≤2)(r:List dA):cC (l.set w.toNat ⟨r⟩) w=r:=by
  unfold cC
  rw [List.getD_eq_getElem?_getD,List.getElem?_set_self (by omega)];rfl
end Go.Gv
end
noncomputable section
namespace Go.Gv
def Aft{α:Type}(o:Option α)(Q:α→Prop):Prop:=∀x,o=some x→Q x
namespace Aft
variable {α β:Type} {Q:α→Prop}
theorem ret{x:α}(h:Q x):Aft (some x) Q:=fun _ e=>by injection e with e;rw [←e];exact h
theorem bind{o:Option β}{f:β→Option α}(h:∀x,o=some x→Aft (f x) Q):Aft (o.bind f) Q:=fun y e=>by
  cases ho:o with
  | none=>rw [ho] at e;cases e
  | some x=>rw [ho] at e;exact h x ho y e
theorem ite{c:Prop}[Decidable c]{a b:Option α}(h1:Aft a Q)(h2:Aft b Q):Aft (if c then a else b) Q:=by
  split
  · exact h1
  · exact h2
theorem need{p:Prop}[Decidable p]{k:Option α}(h:p→Aft k Q):Aft (Gv.need p k) Q:=fun y e=>by
  unfold Gv.need at e
  split at e
  · rename_i q;exact h q y e
  · cases e
end Aft
noncomputable section
variable (s:aE) (w:Int) (j:aZ)
end
end Go.Gv
end
noncomputable section
set_option maxRecDepth 20000
namespace Go.Gv
def KA(s:aE):Prop:=(∀j∈s.aV,j.dE=false)∧∀q∈s.cL,q.hU=[]
instance (s:aE):Decidable (KA s):=by unfold KA;infer_instance
theorem aGA{s:aE}(h1:s.aV.length≤maxLen)(h2:s.cL.length≤maxLen):PA s=some (decide (KA s)):=by
  unfold PA
  rw [SN h1 (fun j=>j.dE) (fun y0=>M9 y0) (fun x _=>rfl)]
  simp only [aI]
  rw [OM h2 (fun q=>decide (0 < (q.hU.length:Int))) (fun y0=>NA y0) (fun x _=>rfl)]
  have ea:(s.aV.any fun j=>j.dE)=!decide (∀j∈s.aV,j.dE=false):=by
    rw [Bool.eq_iff_iff];simp
  have eb:(s.cL.any fun q=>decide (0 < (q.hU.length:Int)))=!decide (∀q∈s.cL,q.hU=[]):=by
    rw [Bool.eq_iff_iff];simp [List.length_pos_iff]
  rw [ea,eb]
  by_cases a:∀j∈s.aV,j.dE=false
  · rw [bD a]
    simp only [dJ,iC,if_true,aI,EY,Bool.not_not]
    congr 1
    by_cases b:∀q∈s.cL,q.hU=[]
    · rw [bD b,bD (p:=KA s) ⟨a,b⟩]
    · rw [bM b,bM (p:=KA s) (fun h=>b h.2)]
  · rw [bM a,bM (p:=KA s) (fun h=>a h.1)];rfl
theorem yT.lens{s:aE}(h:yT s):s.aV.length≤maxLen∧s.cL.length≤maxLen:=by
  have h1:=h.2.2.1;have h2:=h.2.2.2.1.1
  simp only [maxLen];omega
end Go.Gv
end
noncomputable section
set_option maxRecDepth 20000
namespace Go.Gv
def aXX:dO:=⟨4,0,0,0⟩
def aXY(n k:Nat):List Queue:=List.replicate k ⟨List.replicate n aXX⟩++List.replicate (3 - k) ⟨[]⟩
theorem KA.todo{s:aE}(hs:yT s)(h:KA s):s.cL=aXY 0 3:=by
  apply List.ext_getElem
  · rw [hs.2.2.2.1.1];rfl
  · intro i h1 h2
    have:=h.2 _ (List.getElem_mem h1)
    have e:(aXY 0 3)[i]=⟨[]⟩:=by
      have h3:i < 3:=h2
      rcases(by omega:i=0∨i=1∨i=2) with rfl | rfl | rfl <;> rfl
    rw [e]
    cases hq:s.cL[i];rw [hq] at this;simp only at this;rw [this]
end Go.Gv
end
noncomputable section
namespace Go.Gv
theorem aAA{m:Mem}(hm:mD m){w h:Int}(hw:0≤w∧w≤2)(hv:gY m h):(∀t,aU (BC m w h).aD t=aU m.aD t)∧(∀t,0≤aU m.aD t→gR (BC m w h).aD t=if t=h % 32 then h / 32+1 else gR m.aD t) ∧
    (∀t,t≠h % 32→(t∈cX (BC m w h).aB↔t∈cX m.aB))∧d6 (BC m w h) (h % 32)≠3:=by
  obtain⟨hcnt,h3,h9,h1,h2,hsm,hcp,hlo,hsG,hsO⟩:=mD.facts hm
  have hcl:=gH hv.2.1
  have hc2:0≤aU m.aD (h % 32)∧aU m.aD (h % 32)≤2:=by
    obtain⟨_,q,e⟩:=nU hcl
    rw [e];exact gG.1 (by omega)
  have hg6:1≤h / 32∧h / 32≤6:=by have:=hv.1;unfold jA at this;omega
  obtain⟨_,hg⟩:=P8.aPA hm.1.1 hcl (g:=h / 32+1) (by omega)
  have hh:(BC m w h).aD=⟨T2 m.aD.Bytes (dW (h % 32) (aU m.aD (h % 32))).toNat (h / 32+1),m.aD.Class⟩:=by
    unfold BC;simp only [apply_ite Mem.aD,ite_self]
  have kx:(w * 3+aU m.aD (h % 32)).toNat < m.aB.Own.length:=by omega
  have ky:(aU m.aD (h % 32)).toNat < m.aB.Global.length:=by omega
  have hl:∀t,t∈cX (BC m w h).aB↔t∈cX m.aB∨(h / 32+1≤6∧t=h % 32):=fun t=>by
    unfold BC cX
    by_cases q:h / 32+1≤6
    · rw [if_pos q]
      split
      · rw [←cY kx]
        simp only [List.mem_append,A6 kx,List.mem_singleton,q,true_and]
        constructor
        · rintro(a | a | a)
          · exact .inl (.inl a)
          · exact .inl (.inr a)
          · exact .inr a
        · rintro((a | a) | a)
          · exact .inl a
          · exact .inr (.inl a)
          · exact .inr (.inr a)
      · rw [←cY ky]
        simp only [List.mem_append,A6 ky,List.mem_singleton,q,true_and]
        constructor
        · rintro((a | a) | a)
          · exact .inl (.inl a)
          · exact .inr a
          · exact .inl (.inr a)
        · rintro((a | a) | a)
          · exact .inl (.inl a)
          · exact .inr a
          · exact .inl (.inr a)
    · rw [if_neg q]
      simp only [List.mem_append,q,false_and,or_false]
  refine⟨fun t=>by rw [hh];rfl,fun t ht=>by rw [hh];exact hg t ht,fun t ht=>by rw [hl];exact⟨fun x=>x.elim id fun y=>absurd y.2 ht,.inl⟩,fun hu=>?_⟩
  have hu':=fZ.1 hu
  have e1:gR (BC m w h).aD (h % 32)=h / 32+1:=by rw [hh,hg _ hcl,if_pos rfl]
  rw [e1] at hu'
  exact hu'.2.1 ((hl _).2 (.inr ⟨hu'.2.2,rfl⟩))
theorem aIC{m:Mem}(hm:mD m){w h:Int}(hw:0≤w∧w≤2)(hv:gY m h){t:Int}(ht:t≠h % 32):d6 (BC m w h) t=d6 m t:=by
  obtain⟨a,b,c,_⟩:=aAA hm hw hv
  by_cases q:0≤aU m.aD t
  · exact SL (a t) (by rw [b t q,if_neg ht]) (c t ht)
  · have e:aU (BC m w h).aD t=aU m.aD t:=a t
    unfold d6
    rw [e,if_pos (by omega),if_pos (by omega)]
def aV0(z:List Int)(h:Int):Prop:=∀v:Int,0≤v∧v≤2→oY z v≠h
def aXZ(e:Int)(z:List Int)(r:dA):Prop:=BA r e∧aV0 z r.Handle
def aPX(m:Mem)(r:dA):Prop:=0≤aU m.aD (r.Handle % 32)∧r.Handle / 32 < gR m.aD (r.Handle % 32)
theorem aPX.not{m:Mem}{r:dA}(h:aPX m r):¬gY m r.Handle:=fun l=>by have:=l.2.2;have:=h.2;omega
structure Gc (w:Int) (b b':aA) (row out:Int):Prop where
  kept:∀j:Nat,(j:Int) < row→∀hj:j < (cC b'.aO w).length,¬aXZ b.aC.aJ b.m7 (cC b'.aO w)[j]
  len:((cC b'.aO w).length:Int)+out=(cC b.aO w).length
  flat:((bZ b'.aO).length:Int)+out=(bZ b.aO).length
  gone:∀r∈cC b.aO w,r∈cC b'.aO w∨aPX b'.Mem r
  used:∀i:Nat,i < 24→(aPT b' i=4↔aPT b i=4)
  cls:∀t,aU b'.Mem.aD t=aU b.Mem.aD t
  pos:0≤out
theorem aGB{l:List dA}{j:Nat}(h:j < l.length):ED l (j:Int)=l[j]:=by
  have:=OQ (l:=l) (k:=(j:Int)) (by omega)
  rw [aW h] at this
  injection this with this
  exact this.symm
noncomputable section
variable {w:Int} (hw:0≤w∧w≤2) {b b':aA} (hL0:(cC b.aO w).length≤24) {s:Sub} (hd:s.cE=false)
include hw hL0 hd
end
end Go.Gv
end
noncomputable section
set_option maxRecDepth 20000
namespace Go.Gv
def SW:Nat→Nat→aE→aE
  | 0,_,s=>s
  | n+1,k,s=>if KA s then s else SW n (k+1) (lO s ((k % 3:Nat):Int))
theorem aJ9{L:Nat}(hL:L≤100000):∀n k:Nat,k+n=3000→∀s:aE,yT s→s.Log.length≤L+k→loop sQ ((k:Int),s)=some (SW n k s)∧yT (SW n k s)∧(SW n k s).Log.length≤L+3000
  | 0, k, hk, s, hs, hl => by
    refine⟨bV ?_,hs,by simp only [SW];omega⟩
    simp only [sQ,oL]
    rw [if_neg (by simp;omega)];rfl
  | n + 1, k, hk, s, hs, hl => by
    have hw:0≤(((k % 3:Nat):Int))∧(((k % 3:Nat):Int))≤2:=by omega
    by_cases i:KA s
    · have e:SW (n+1) k s=s:=by rw [SW,if_pos i]
      rw [e]
      refine⟨bV ?_,hs,by omega⟩
      simp only [sQ,oL]
      rw [if_pos (by simp;omega),aGA hs.lens.1 hs.lens.2,bD i];rfl
    · have e:SW (n+1) k s=SW n (k+1) (lO s ((k % 3:Nat):Int)):=by rw [SW,if_neg i]
      obtain⟨f2,o1,o2⟩:=Z7 hs (by omega) hw
      rw [e,b8 (s':=(((k+1:Nat):Int),lO s ((k % 3:Nat):Int)))]
      · exact aJ9 hL n (k+1) (by omega) _ o1 (by omega)
      · simp only [sQ,oL]
        rw [if_pos (by simp;omega),aGA hs.lens.1 hs.lens.2,bM i]
        simp only [aI,iC,if_true]
        rw [tI (by omega),show(k:Int) % 3=((k % 3:Nat):Int) by omega,f2,aI,aP (by omega) (by omega)];rfl
def aPY(s:aE):aE:=SW 3000 0 s
theorem aST{s:aE}(hs:yT s)(hl:s.Log.length≤100000):HN s=some (aPY s)∧yT (aPY s)∧(aPY s).Log.length≤s.Log.length+3000:=by
  obtain⟨e,h1,h2⟩:=aJ9 hl 3000 0 rfl s hs (by omega)
  have hsm:=aF4 hs (by omega)
  refine⟨?_,h1,h2⟩
  unfold HN
  rw [aBT hsm,aI,aSO hsm,aI,bD hs,if_neg (by simp)]
  rw [show((0:Nat):Int)=0 from rfl] at e
  rw [e];rfl
def rp(n:Int):Int:=if vA n < 0 then 0 else fY (vA n)
def no(o:dO):dO:={o with f8:=rp o.f8}
def ns(s:Sub):Sub:=if s.Kind=1 then {s with A:=rp s.A} else s
def nj(j:aZ):aZ:={j with Op:=no j.Op,Sub:=ns j.Sub}
end Go.Gv
end
noncomputable section
namespace Go.Gv
def aKA(s:Sub):Nat:=if s.Pc=0 then 4 else if s.Pc=1 then 3 else if s.Pc=2 then 2 else 1
def aAB(s:Sub):Nat:=if s.Pc=0 then 5 else if s.Pc=1∧0≤s.B∧s.B≤2 then (4 - s.B).toNat else 1
def QH(n:Nat)(s:Sub):Nat:=if s.Pc=0 then 2+5 * n else if s.Pc=1 then 1+5 * (n - s.Row.toNat) else if s.Pc=2 then max 1 (5 * (n - s.Row.toNat) - s.B.toNat) else if s.Pc=3 then max 1 (5 * (n - s.Row.toNat) - 3) else 1
def SX(e:Int)(s:Sub):Nat:=if s.Pc=0 then 3 else if s.Pc=1 then (if s.E=e then 2 else 5) else if s.Pc=2 then (if s.E=e then 1 else 4) else 1
def eN(b:aA)(w:Int):Nat:=(cC b.aO w).length
def hJ(b:aA)(w:Int)(s:Sub):Nat:=if s.cE then 1 else if s.Kind=1 then aKA s else if s.Kind=2 then (if s.Pc=0 then 2 else 1) else if s.Kind=3 then aAB s+6 else if s.Kind=4 then QH (eN b w) s else if s.Kind=5 then SX b.aC.aJ s else 1
def iB(s:Sub):Nat:=if s.Kind=2∧s.cE=false then 1 else 0
theorem aCP(b:aA)(w:Int)(s:Sub):1≤hJ b w s:=by
  unfold hJ aKA aAB QH SX
  split <;> repeat' split
  all_goals omega
noncomputable section
variable {b:aA} {w:Int} {s:Sub} (hd:s.cE=false)
include hd
theorem aID(hk:s.Kind=3):hJ b w s=aAB s+6:=by simp [hJ,hd,hk]
theorem I1(hk:s.Kind=4):hJ b w s=QH (eN b w) s:=by simp [hJ,hd,hk]
theorem T9(hk:s.Kind=5):hJ b w s=SX b.aC.aJ s:=by simp [hJ,hd,hk]
end
structure WN (b:aA) (w:Int) (s:Sub) (r:aA×Sub):Prop where
  low:r.2.cE=true∨hJ r.1 w r.2+1≤hJ b w s
  ep:r.1.aC.aJ=b.aC.aJ∨r.1.aC.aJ=b.aC.aJ+1∧r.2.cE=true∧7≤hJ b w s
  rows:eN r.1 w+iB r.2≤eN b w+iB s
  oth:∀v,0≤v∧v≤2→v≠w→eN r.1 v=eN b v
theorem aCQ{l:List aY}{v w:Int}(hv:0≤v)(hw:0≤w)(h:v≠w)(r:List dA):cC (l.set w.toNat ⟨r⟩) v=cC l v:=by
  unfold cC
  rw [List.getD_eq_getElem?_getD,List.getElem?_set_ne (by omega),←List.getD_eq_getElem?_getD]
theorem SY{b:aA}{w:Int}{s:Sub}(c:Int):WN b w s (b,pC s c):=⟨.inl rfl,.inl rfl,by simp [iB,pC],fun _ _ _=>rfl⟩
theorem aV1{b:aA}{w:Int}{s:Sub}(hd:s.cE=false)(hk:s.Kind=1):WN b w s (IZ b w s):=by
  have T:∀p:Mem×Int,(s.Pc=0∨s.Pc=1∨s.Pc=2∨s.Pc=3)→WN b w s (A9 b s p):=fun p hp=>by
    unfold A9
    split
    · exact⟨.inl rfl,.inl rfl,by simp [iB,pC,eN],fun _ _ _=>rfl⟩
    · split
      · exact⟨.inl rfl,.inl rfl,by simp [iB,pC,eN],fun _ _ _=>rfl⟩
      · refine⟨.inr ?_,.inl rfl,by simp [iB,hk,eN],fun _ _ _=>rfl⟩
        simp only [hJ,hd,hk,aL,if_false,if_true,aKA]
        rcases hp with p | p | p | p
        · simp [p]
        · simp [p]
        · simp [p]
        · exact absurd p ‹_›
  unfold IZ
  split
  · exact SY 2
  · split
    · exact T _ (by omega)
    · split
      · exact T _ (by omega)
      · split
        · exact T _ (by omega)
        · exact SY 1
theorem aSU{b:aA}(hb:pB b){w:Int}(hw:0≤w∧w≤2){s:Sub}(hd:s.cE=false)(hk:s.Kind=2):WN b w s (C9 b w s):=by
  have h3:=hb.1.2.2.1.1
  unfold C9
  split
  · rename_i p
    refine⟨.inr ?_,.inl rfl,by simp [iB,hk,hd,eN],fun _ _ _=>rfl⟩
    simp [hJ,hd,hk,p]
  · split
    · split
      · split
        · refine⟨.inl rfl,.inl rfl,?_,fun v hv hn=>?_⟩
          · simp only [eN,iB,pC,hk,hd]
            rw [Z9 h3 hw];simp
          · simp only [eN]
            rw [aCQ hv.1 hw.1 hn]
        · exact SY 4
      · exact SY 1
    · exact SY 1
theorem aPZ{b:aA}{w:Int}{s:Sub}(hd:s.cE=false)(hk:s.Kind=3):WN b w s (l4 b s):=by
  have lk:∀c v e,(uU c v e).1.aJ=c.aJ:=fun c v e=>by unfold uU;split;rfl;split <;> rfl
  unfold l4
  split
  · rename_i p
    refine⟨.inr ?_,.inl rfl,by simp [iB,hk,eN],fun _ _ _=>rfl⟩
    simp [hJ,hd,hk,p,aAB]
  · split
    · rename_i p
      split
      · rename_i hB
        split
        · refine⟨.inr ?_,.inl (lk ..),by simp [iB,hk,eN],fun _ _ _=>rfl⟩
          rw [aID hd hk,aID (by exact hd) (by exact hk)]
          unfold aAB
          simp only
          by_cases q:s.B=2
          · simp [q,p]
          · rw [if_neg q,if_neg (by omega),if_pos (by omega),if_neg (by omega),if_pos (by omega)]
            omega
        · exact⟨.inl rfl,.inl (lk ..),by simp [iB,hk,pC,eN],fun _ _ _=>rfl⟩
      · exact SY 1
    · split
      · refine⟨.inl rfl,?_,by simp [iB,hk,pC,eN],fun _ _ _=>rfl⟩
        simp only [SR]
        split
        · rename_i q
          right
          refine⟨by simp only;omega,rfl,?_⟩
          rw [aID hd hk]
          unfold aAB
          split
          · omega
          · split <;> omega
        · exact .inl rfl
      · exact SY 1
theorem aZA{b:aA}{w:Int}{s:Sub}(hd:s.cE=false)(hk:s.Kind=5):WN b w s (OO b w s):=by
  have pk:∀c v e,(GU c v e).1.aJ=c.aJ:=fun c v e=>by unfold GU;split <;> rfl
  unfold OO
  split
  · rename_i p
    refine⟨.inr ?_,.inl rfl,by simp [iB,hk,eN],fun _ _ _=>rfl⟩
    rw [T9 hd hk,T9 (by exact hd) (by exact hk)]
    simp [SX,p]
  · split
    · rename_i p
      split
      · refine⟨.inr ?_,.inl (pk ..),by simp [iB,hk,eN],fun _ _ _=>rfl⟩
        rw [T9 hd hk,T9 (by exact hd) (by exact hk)]
        unfold SX
        simp only [pk]
        by_cases q:s.E=b.aC.aJ <;> simp [q,p]
      · exact⟨.inl rfl,.inl (pk ..),by simp [iB,hk,pC,eN],fun _ _ _=>rfl⟩
    · split
      · rename_i p
        split
        · exact SY 0
        · rename_i q
          refine⟨.inr ?_,.inl rfl,by simp [iB,hk,eN],fun _ _ _=>rfl⟩
          rw [T9 hd hk,T9 (by exact hd) (by exact hk)]
          unfold SX
          have q':¬s.E=b.aC.aJ:=fun e=>q e.symm
          simp [q',p]
      · exact SY 1
theorem aP0{b:aA}(hb:pB b){w:Int}(hw:0≤w∧w≤2){s:Sub}(hd:s.cE=false)(hk:s.Kind=4):WN b w s (jI b w s):=by
  have h3:=hb.1.2.2.1.1
  unfold jI
  split
  · rename_i p
    refine⟨.inr ?_,.inl rfl,by simp [iB,hk,eN],fun _ _ _=>rfl⟩
    rw [I1 hd hk,I1 (by exact hd) (by exact hk)]
    simp [QH,p,eN];omega
  · split
    · rename_i p
      split
      · rename_i q
        refine⟨.inr ?_,.inl rfl,by simp [iB,hk,eN],fun _ _ _=>rfl⟩
        rw [I1 hd hk,I1 (by exact hd) (by exact hk)]
        have:=(Z3 q).1
        simp [QH,p,eN];omega
      · exact SY 0
    · split
      · rename_i p
        split
        · rename_i q
          obtain⟨hB,a0,a1,a2⟩:=q
          split
          · refine⟨.inr ?_,.inl rfl,by simp [iB,hk,eN],fun _ _ _=>rfl⟩
            rw [I1 hd hk,I1 (by exact hd) (by exact hk)]
            simp [QH,p,eN];omega
          · refine⟨.inr ?_,.inl rfl,by simp [iB,hk,eN],fun _ _ _=>rfl⟩
            rw [I1 hd hk,I1 (by exact hd) (by exact hk)]
            by_cases z:s.B=2
            · simp [QH,p,eN,z];omega
            · simp [QH,p,eN,z];omega
        · exact SY 1
      · split
        · rename_i p
          split
          · rename_i q
            obtain⟨⟨a0,a1,a2⟩,_⟩:=q
            have e:(cC (b.aO.set w.toNat ⟨(cC b.aO w).eraseIdx s.Row.toNat⟩) w).length=(cC b.aO w).length - 1:=by
              rw [Z9 h3 hw,List.length_eraseIdx_of_lt (by omega)]
            refine⟨.inr ?_,.inl rfl,?_,fun v hv hn=>?_⟩
            · rw [I1 hd hk,I1 (by exact hd) (by exact hk)]
              simp only [QH,p,eN,e];simp;omega
            · simp only [iB,hk,eN,e];simp
            · simp only [eN]
              rw [aCQ hv.1 hw.1 hn]
          · exact SY 1
        · exact SY 1
theorem aV2{b:aA}(hb:pB b){w:Int}(hw:0≤w∧w≤2)(s:Sub):WN b w s (d7 b w s):=by
  unfold d7
  cases hd:s.cE
  · rw [if_neg (by simp)]
    by_cases k1:s.Kind=1
    · rw [if_pos k1];exact aV1 hd k1
    rw [if_neg k1]
    by_cases k2:s.Kind=2
    · rw [if_pos k2];exact aSU hb hw hd k2
    rw [if_neg k2]
    by_cases k3:s.Kind=3
    · rw [if_pos k3];exact aPZ hd k3
    rw [if_neg k3]
    by_cases k4:s.Kind=4
    · rw [if_pos k4];exact aP0 hb hw hd k4
    rw [if_neg k4]
    by_cases k5:s.Kind=5
    · rw [if_pos k5];exact aZA hd k5
    rw [if_neg k5]
    exact SY 1
  · rw [if_pos rfl]
    exact⟨.inl hd,.inl rfl,Nat.le_refl _,fun _ _ _=>rfl⟩
end Go.Gv
end
noncomputable section
namespace Go.Gv
def cA(b:aA)(c:List Int)(w:Int)(j:aZ):Nat:=
  if j.Pc=9 then 1
  else if j.Op.Kind=1 then (if j.Pc=0 then hJ b w j.Sub+11 else if j.Pc=1 then 11 else if j.Pc=2 then 10 else if j.Pc=3 then hJ b w j.Sub+1 else 2)
  else if j.Op.Kind=2 then (if j.Pc=0 then hJ b w j.Sub+5 else if j.Pc=1 then 5 else if j.Pc=2 then 4 else if j.Pc=3 then 3 else 2)
  else if j.Op.Kind=3 then (if j.Pc=0 then 6 else if j.Pc=1 then (if cellAt c j.Op.Cell=j.H then 5 else 8) else if j.Pc=2 then (if cellAt c j.Op.Cell=j.H then 4 else 7) else if j.Pc=3 then 3 else 2)
  else if j.Op.Kind=7 then (if j.Pc=0 then 4 else if j.Pc=1 then 3 else 2)
  else if j.Op.Kind=6 then 2
  else if j.Op.Kind=5 then (if j.Pc=0 then hJ b w j.Sub+1 else 2)
  else if j.Pc=0 then hJ b w j.Sub+3+5 * (eN b w+iB j.Sub) else if j.Pc=1 then hJ b w j.Sub+1 else 2
def I3(j:aZ):Nat:=iB j.Sub+if j.Op.Kind=1∧(j.Pc=0∨j.Pc=1∨j.Pc=2) then 1 else 0
structure aBU (b:aA) (c:List Int) (w:Int) (j:aZ) (r:JR):Prop where
  low:∃d,(d=0∧r.b.aC.aJ=b.aC.aJ∧r.c=c∨d=3)∧cA r.b r.c w r.j+1+2 * d≤cA b c w j
  rows:eN r.b w+I3 r.j≤eN b w+I3 j
  oth:∀v,0≤v∧v≤2→v≠w→eN r.b v=eN b v
  op:r.j.Op=j.Op∧r.j.dE=j.dE
theorem WN.d{b:aA}{w:Int}{s:Sub}{r:aA×Sub}(h:WN b w s r):∃d,(d=0∧r.1.aC.aJ=b.aC.aJ∨d=3)∧1+2 * d≤hJ b w s:=by
  rcases h.ep with e | ⟨_,_,e⟩
  · exact⟨0,.inl ⟨rfl,e⟩,by have:=aCP b w s;omega⟩
  · exact⟨3,.inr rfl,by omega⟩
theorem WN.nd{b:aA}{w:Int}{s:Sub}{r:aA×Sub}(h:WN b w s r)(hn:r.2.cE=false):r.1.aC.aJ=b.aC.aJ∧hJ r.1 w r.2+1≤hJ b w s:=by
  refine⟨?_,?_⟩
  · rcases h.ep with e | ⟨_,e,_⟩
    · exact e
    · rw [hn] at e;cases e
  · rcases h.low with e | e
    · rw [hn] at e;cases e
    · exact e
theorem XA{s:Sub}(h:s.cE=true):iB s=0:=by simp [iB,h]
theorem aP1(b:aA)(w:Int):hJ b w (vB 4 0)=2+5 * eN b w:=by simp [hJ,vB,QH]
theorem aV3:iB (vB 4 0)=0:=by simp [iB,vB]
theorem aLP(b:aA)(c:List Int)(w:Int)(j:aZ):1≤cA b c w j:=by
  unfold cA
  repeat' split
  all_goals omega
noncomputable section
variable {s:aE} (hs:yT s) {w:Int} (hw:0≤w∧w≤2) {j:aZ} (h9:j.Pc≠9)
include hs hw h9
theorem aZB(hk:j.Op.Kind=1):aBU s.aA s.Cells w j (I0 s w j):=by
  have L:=aV2 hs.1 hw j.Sub
  have Lr:=L.rows
  obtain⟨d,hd1,hd2⟩:=L.d
  have D:d=0∧(d7 s.aA w j.Sub).1.aC.aJ=s.aA.aC.aJ∧s.Cells=s.Cells∨d=3:=by
    rcases hd1 with ⟨a,e⟩ | a
    · exact .inl ⟨a,e,rfl⟩
    · exact .inr a
  unfold I0
  by_cases p0:j.Pc=0
  · rw [if_pos p0]
    have c0:cA s.aA s.Cells w j=hJ s.aA w j.Sub+11:=by simp [cA,p0,hk]
    have f0:I3 j=iB j.Sub+1:=by simp [I3,p0,hk]
    cases hd:(d7 s.aA w j.Sub).2.cE with
    | true =>
      have z:=XA hd
      simp only [if_true]
      split
      · refine⟨⟨d,D,?_⟩,?_,L.oth,rfl,rfl⟩
        · rw [c0];simp [cA,bW];omega
        · rw [f0];simp [I3,bW,z,hk];omega
      · split
        · refine⟨⟨d,D,?_⟩,?_,L.oth,rfl,rfl⟩
          · rw [c0];simp [cA,bW,hk];omega
          · rw [f0];simp [I3,bW,z,hk];omega
        · refine⟨⟨d,D,?_⟩,?_,L.oth,rfl,rfl⟩
          · rw [c0];simp [cA,bW];omega
          · rw [f0];simp [I3,bW,z,hk];omega
    | false =>
      obtain⟨e1,e2⟩:=L.nd hd
      simp only [aL,if_false]
      refine⟨⟨0,.inl ⟨rfl,e1,rfl⟩,?_⟩,?_,L.oth,rfl,rfl⟩
      · rw [c0];simp [cA,p0,hk];omega
      · rw [f0];simp [I3,p0,hk];omega
  rw [if_neg p0]
  by_cases p1:j.Pc=1
  · rw [if_pos p1]
    have c0:cA s.aA s.Cells w j=11:=by simp [cA,p1,hk]
    have f0:I3 j=iB j.Sub+1:=by simp [I3,p1,hk]
    split
    · refine⟨⟨0,.inl ⟨rfl,rfl,rfl⟩,?_⟩,?_,fun _ _ _=>rfl,rfl,rfl⟩
      · rw [c0];simp [cA,bW,hk]
      · rw [f0];simp [I3,bW,hk,eN]
    · refine⟨⟨0,.inl ⟨rfl,rfl,rfl⟩,?_⟩,?_,fun _ _ _=>rfl,rfl,rfl⟩
      · rw [c0];simp [cA,bW,hk]
      · rw [f0];simp [I3,bW,hk,eN]
  rw [if_neg p1]
  by_cases p2:j.Pc=2
  · rw [if_pos p2]
    have c0:cA s.aA s.Cells w j=10:=by simp [cA,p2,hk]
    have f0:I3 j=iB j.Sub+1:=by simp [I3,p2,hk]
    refine⟨⟨3,.inr rfl,?_⟩,?_,fun _ _ _=>rfl,?_⟩
    · rw [c0]
      simp only
      split
      · simp [cA,bW,hk]
      · simp [cA,bW,hk,hJ,vB]
    · rw [f0]
      simp only
      split
      · simp [I3,bW,hk]
      · simp [I3,bW,hk,iB,vB]
    · simp only
      split <;> exact⟨rfl,rfl⟩
  rw [if_neg p2]
  by_cases p3:j.Pc=3
  · rw [if_pos p3]
    have c0:cA s.aA s.Cells w j=hJ s.aA w j.Sub+1:=by simp [cA,p3,hk]
    have f0:I3 j=iB j.Sub:=by simp [I3,p3,hk]
    cases hd:(d7 s.aA w j.Sub).2.cE with
    | true =>
      have z:=XA hd
      refine⟨⟨d,D,?_⟩,?_,L.oth,rfl,rfl⟩
      · rw [c0];simp [cA,bW];omega
      · rw [f0];simp [I3,bW,z,hk];omega
    | false =>
      obtain⟨e1,e2⟩:=L.nd hd
      simp only [aL,if_false]
      refine⟨⟨0,.inl ⟨rfl,e1,rfl⟩,?_⟩,?_,L.oth,rfl,rfl⟩
      · rw [c0];simp [cA,p3,hk];omega
      · rw [f0];simp [I3,p3,hk];omega
  rw [if_neg p3]
  refine⟨⟨0,.inl ⟨rfl,rfl,rfl⟩,?_⟩,?_,fun _ _ _=>rfl,rfl,rfl⟩
  · simp [cA,bW,hk,h9,p0,p1,p2,p3]
  · simp [I3,bW,hk,eN,p0,p1,p2]
theorem aZC(hk:j.Op.Kind=2):aBU s.aA s.Cells w j (G4 s w j):=by
  have L:=aV2 hs.1 hw j.Sub
  have Lr:=L.rows
  obtain⟨d,hd1,hd2⟩:=L.d
  have D:d=0∧(d7 s.aA w j.Sub).1.aC.aJ=s.aA.aC.aJ∧s.Cells=s.Cells∨d=3:=by
    rcases hd1 with ⟨a,e⟩ | a
    · exact .inl ⟨a,e,rfl⟩
    · exact .inr a
  have ue:(yC s.aA.aC w).1.aJ=s.aA.aC.aJ:=by unfold yC;split <;> rfl
  have fj:I3 j=iB j.Sub:=by simp [I3,hk]
  have fin:∀(r:JR),r.b=s.aA→r.c=s.Cells→r.j.Op=j.Op∧r.j.dE=j.dE→r.j.Sub=j.Sub→cA s.aA s.Cells w r.j+1≤cA s.aA s.Cells w j→aBU s.aA s.Cells w j r:=fun r e1 e2 e3 e4 h=>by
    refine⟨⟨0,.inl ⟨rfl,by rw [e1],e2⟩,by rw [e1,e2];omega⟩,?_,fun _ _ _=>by rw [e1],e3⟩
    rw [e1,fj];simp [I3,e3.1,hk,e4]
  unfold G4
  by_cases p0:j.Pc=0
  · rw [if_pos p0]
    have c0:cA s.aA s.Cells w j=hJ s.aA w j.Sub+5:=by simp [cA,p0,hk]
    cases hd:(d7 s.aA w j.Sub).2.cE with
    | true =>
      have z:=XA hd
      refine⟨⟨d,D,?_⟩,?_,L.oth,rfl,rfl⟩
      · rw [c0];simp [cA,bW,hk];omega
      · rw [fj];simp [I3,bW,z,hk];omega
    | false =>
      obtain⟨e1,e2⟩:=L.nd hd
      refine⟨⟨0,.inl ⟨rfl,e1,rfl⟩,?_⟩,?_,L.oth,rfl,rfl⟩
      · rw [c0];simp [cA,p0,hk];omega
      · rw [fj];simp [I3,p0,hk];omega
  rw [if_neg p0]
  by_cases p1:j.Pc=1
  · rw [if_pos p1]
    have c0:cA s.aA s.Cells w j=5:=by simp [cA,p1,hk]
    refine fin _ rfl rfl ?_ ?_ ?_
    · simp only;split <;> exact⟨rfl,rfl⟩
    · simp only;split <;> rfl
    · rw [c0];simp only;split <;> simp [cA,bW,hk]
  rw [if_neg p1]
  by_cases p2:j.Pc=2
  · rw [if_pos p2]
    refine fin _ rfl rfl ⟨rfl,rfl⟩ rfl ?_
    simp [cA,bW,hk,p2]
  rw [if_neg p2]
  by_cases p3:j.Pc=3
  · rw [if_pos p3]
    have c0:cA s.aA s.Cells w j=3:=by simp [cA,p3,hk]
    refine fin _ rfl rfl ?_ ?_ ?_
    · simp only [hC];split <;> exact⟨rfl,rfl⟩
    · simp only [hC];split <;> rfl
    · rw [c0];simp only [hC];split <;> simp [cA,bW,hk]
  rw [if_neg p3]
  have c0:cA s.aA s.Cells w j=2:=by simp [cA,hk,h9,p0,p1,p2,p3]
  by_cases p4:j.Pc=4
  · rw [if_pos p4]
    refine⟨⟨0,.inl ⟨rfl,ue,rfl⟩,?_⟩,?_,fun _ _ _=>rfl,rfl,rfl⟩
    · rw [c0];simp [cA,bW]
    · rw [fj];simp [I3,bW,hk,eN]
  rw [if_neg p4]
  refine fin _ rfl rfl ⟨rfl,rfl⟩ rfl ?_
  rw [c0];simp [cA,bW]
theorem aZD(hk:j.Op.Kind=3):aBU s.aA s.Cells w j (LM s w j):=by
  have fj:I3 j=iB j.Sub:=by simp [I3,hk]
  have fin:∀(r:JR),r.b.aC=s.aA.aC→r.b.aO=s.aA.aO→r.c=s.Cells→r.j.Op=j.Op∧r.j.dE=j.dE→r.j.Sub=j.Sub→cA r.b s.Cells w r.j+1≤cA s.aA s.Cells w j→aBU s.aA s.Cells w j r:=fun r e1 e1' e2 e3 e4 h=>by
    refine⟨⟨0,.inl ⟨rfl,by rw [e1],e2⟩,by rw [e2];omega⟩,?_,fun _ _ _=>by unfold eN;rw [e1'],e3⟩
    rw [fj];unfold eN;rw [e1'];simp [I3,e3.1,hk,e4]
  unfold LM
  by_cases p0:j.Pc=0
  · rw [if_pos p0]
    split
    · exact fin _ rfl rfl rfl ⟨rfl,rfl⟩ rfl (by simp [cA,bW,hk,p0])
    · exact fin _ rfl rfl rfl ⟨rfl,rfl⟩ rfl (by simp [cA,bW,hk,p0])
  rw [if_neg p0]
  by_cases p1:j.Pc=1
  · rw [if_pos p1]
    refine fin _ rfl rfl rfl ⟨rfl,rfl⟩ rfl ?_
    by_cases q:cellAt s.Cells j.Op.Cell=j.H <;> simp [cA,bW,hk,p1,q]
  rw [if_neg p1]
  by_cases p2:j.Pc=2
  · rw [if_pos p2]
    split
    · rename_i q
      exact fin _ rfl rfl rfl ⟨rfl,rfl⟩ rfl (by simp [cA,bW,hk,p2,q])
    · rename_i q
      exact fin _ rfl rfl rfl ⟨rfl,rfl⟩ rfl (by simp [cA,bW,hk,p2,q])
  rw [if_neg p2]
  by_cases p3:j.Pc=3
  · rw [if_pos p3]
    exact fin _ rfl rfl rfl ⟨rfl,rfl⟩ rfl (by simp [cA,bW,hk,p3])
  rw [if_neg p3]
  have c0:cA s.aA s.Cells w j=2:=by simp [cA,hk,h9,p0,p1,p2,p3]
  by_cases p4:j.Pc=4
  · rw [if_pos p4]
    exact fin _ rfl rfl rfl ⟨rfl,rfl⟩ rfl (by rw [c0];simp [cA,bW])
  rw [if_neg p4]
  exact fin _ rfl rfl rfl ⟨rfl,rfl⟩ rfl (by rw [c0];simp [cA,bW])
theorem aX0(hk:j.Op.Kind=7):aBU s.aA s.Cells w j (BD s w j):=by
  have fj:I3 j=iB j.Sub:=by simp [I3,hk]
  have fin:∀(r:JR),r.b=s.aA→r.c=s.Cells→r.j.Op=j.Op∧r.j.dE=j.dE→r.j.Sub=j.Sub→cA s.aA s.Cells w r.j+1≤cA s.aA s.Cells w j→aBU s.aA s.Cells w j r:=fun r e1 e2 e3 e4 h=>by
    refine⟨⟨0,.inl ⟨rfl,by rw [e1],e2⟩,by rw [e1,e2];omega⟩,?_,fun _ _ _=>by rw [e1],e3⟩
    rw [e1,fj];simp [I3,e3.1,hk,e4]
  unfold BD
  by_cases p0:j.Pc=0
  · rw [if_pos p0]
    have c0:cA s.aA s.Cells w j=4:=by simp [cA,p0,hk]
    split
    · exact fin _ rfl rfl ⟨rfl,rfl⟩ rfl (by rw [c0];simp [cA,bW])
    · split
      · exact fin _ rfl rfl ⟨rfl,rfl⟩ rfl (by rw [c0];simp [cA,bW])
      · refine fin _ rfl rfl ?_ ?_ ?_
        · simp only;split <;> exact⟨rfl,rfl⟩
        · simp only;split <;> rfl
        · rw [c0];simp only;split <;> simp [cA,bW,hk]
  rw [if_neg p0]
  by_cases p1:j.Pc=1
  · rw [if_pos p1]
    exact fin _ rfl rfl ⟨rfl,rfl⟩ rfl (by simp [cA,bW,hk,p1])
  rw [if_neg p1]
  have c0:cA s.aA s.Cells w j=2:=by simp [cA,hk,h9,p0,p1]
  by_cases p2:j.Pc=2
  · rw [if_pos p2]
    refine fin _ rfl rfl ?_ ?_ ?_
    · simp only [hC];split <;> exact⟨rfl,rfl⟩
    · simp only [hC];split <;> rfl
    · rw [c0];simp only [hC];split <;> simp [cA,bW]
  rw [if_neg p2]
  exact fin _ rfl rfl ⟨rfl,rfl⟩ rfl (by rw [c0];simp [cA,bW])
theorem aV4(k1:j.Op.Kind≠1)(k2:j.Op.Kind≠2)(k3:j.Op.Kind≠3)(k7:j.Op.Kind≠7):aBU s.aA s.Cells w j (tM s w j):=by
  have L:=aV2 hs.1 hw j.Sub
  have Lr:=L.rows
  obtain⟨d,hd1,hd2⟩:=L.d
  have D:d=0∧(d7 s.aA w j.Sub).1.aC.aJ=s.aA.aC.aJ∧s.Cells=s.Cells∨d=3:=by
    rcases hd1 with ⟨a,e⟩ | a
    · exact .inl ⟨a,e,rfl⟩
    · exact .inr a
  have ue:(yC s.aA.aC w).1.aJ=s.aA.aC.aJ:=by unfold yC;split <;> rfl
  have fj:I3 j=iB j.Sub:=by simp [I3,k1]
  have two:∀c,2≤cA s.aA s.Cells w j→aBU s.aA s.Cells w j ⟨s.aA,s.Cells,bW j 9 c,[]⟩:=fun c h=>by
    refine⟨⟨0,.inl ⟨rfl,rfl,rfl⟩,by simp [cA,bW] at h ⊢;exact h⟩,?_,fun _ _ _=>rfl,rfl,rfl⟩
    rw [fj];simp [I3,bW,k1]
  have ge2:2≤cA s.aA s.Cells w j:=by
    have:=aCP s.aA w j.Sub
    simp only [cA,if_neg h9,if_neg k1,if_neg k2,if_neg k3,if_neg k7]
    repeat' split
    all_goals omega
  unfold tM
  by_cases k6:j.Op.Kind=6
  · rw [if_pos k6]
    split
    · refine⟨⟨0,.inl ⟨rfl,ue,rfl⟩,by simp only [cA,bW];exact ge2⟩,?_,fun _ _ _=>rfl,rfl,rfl⟩
      rw [fj];simp [I3,bW,k1,eN]
    · exact two 1 ge2
  rw [if_neg k6]
  by_cases p:j.Pc=0∨j.Pc=1∧j.Op.Kind≠5
  · rw [if_pos p]
    cases hd:(d7 s.aA w j.Sub).2.cE with
    | true =>
      have z:=XA hd
      by_cases k5:j.Op.Kind=5
      · have p0:j.Pc=0:=by rcases p with p | p;exact p;exact absurd k5 p.2
        have c0:cA s.aA s.Cells w j=hJ s.aA w j.Sub+1:=by simp [cA,p0,k5]
        refine⟨⟨d,D,?_⟩,?_,L.oth,?_⟩
        · rw [c0];simp [cA,bW,k5];omega
        · rw [fj];simp [I3,bW,z,k5];omega
        · simp [bW,k5]
      · by_cases p0:j.Pc=0
        · have c0:cA s.aA s.Cells w j=hJ s.aA w j.Sub+3+5 * (eN s.aA w+iB j.Sub):=by simp [cA,p0,k1,k2,k3,k5,k6,k7]
          refine⟨⟨d,D,?_⟩,?_,L.oth,?_⟩
          · rw [c0];simp [cA,bW,k1,k2,k3,k5,k6,k7,p0,aP1];omega
          · rw [fj];simp [I3,bW,z,k5,p0,k1,aV3];omega
          · simp [bW,k5,p0]
        · have p1:j.Pc=1:=by rcases p with p | p;exact absurd p p0;exact p.1
          have c0:cA s.aA s.Cells w j=hJ s.aA w j.Sub+1:=by simp [cA,p1,k1,k2,k3,k5,k6,k7]
          refine⟨⟨d,D,?_⟩,?_,L.oth,?_⟩
          · rw [c0];simp [cA,bW,k5,p1];omega
          · rw [fj];simp [I3,bW,z,k5,p1,k1];omega
          · simp [bW,k5,p1]
    | false =>
      obtain⟨e1,e2⟩:=L.nd hd
      simp only [aL,if_false]
      refine⟨⟨0,.inl ⟨rfl,e1,rfl⟩,?_⟩,?_,L.oth,rfl,rfl⟩
      · by_cases k5:j.Op.Kind=5
        · have p0:j.Pc=0:=by rcases p with p | p;exact p;exact absurd k5 p.2
          simp [cA,p0,k5];omega
        · by_cases p0:j.Pc=0
          · simp [cA,p0,k1,k2,k3,k5,k6,k7];omega
          · have p1:j.Pc=1:=by rcases p with p | p;exact absurd p p0;exact p.1
            simp [cA,p1,k1,k2,k3,k5,k6,k7];omega
      · rw [fj];simp [I3,k1];omega
  rw [if_neg p]
  exact two 1 ge2
theorem aX1:aBU s.aA s.Cells w j (GV s w j):=by
  unfold GV
  by_cases k1:j.Op.Kind=1
  · rw [if_pos k1];exact aZB hs hw h9 k1
  rw [if_neg k1]
  by_cases k2:j.Op.Kind=2
  · rw [if_pos k2];exact aZC hs hw h9 k2
  rw [if_neg k2]
  by_cases k3:j.Op.Kind=3
  · rw [if_pos k3];exact aZD hs hw h9 k3
  rw [if_neg k3]
  by_cases k7:j.Op.Kind=7
  · rw [if_pos k7];exact aX0 hs hw h9 k7
  rw [if_neg k7]
  exact aV4 hs hw h9 k1 k2 k3 k7
end
end Go.Gv
end
noncomputable section
namespace Go.Gv
def kq(q:List dO):Nat:=(q.map fun o=>if o.Kind=1 then 1 else 0).sum
def opC(k:Nat)(o:dO):Nat:=if o.Kind=1 then 16 else if o.Kind=2 then 9 else if o.Kind=3 then 7 else if o.Kind=5 then 5 else if o.Kind=6 then 3 else if o.Kind=7 then 5 else 15+5 * k
def qC(k:Nat)(q:List dO):Nat:=(q.map (opC k)).sum
def jK(j:aZ):Nat:=if j.dE then I3 j else 0
def kW(s:aE)(w:Int):Nat:=kq (iM s.cL w)+eN s.aA w+jK (aM s w)
def jC(s:aE)(w:Int):Nat:=if (aM s w).dE then cA s.aA s.Cells w (aM s w) else 0
def GW(s:aE)(w:Int):Nat:=jC s w+qC (kW s w) (iM s.cL w)
def KB(s:aE)(w:Int):Prop:=(aM s w).dE=false∧iM s.cL w=[]
instance (s:aE) (w:Int):Decidable (KB s w):=by unfold KB;infer_instance
theorem aP3{k k':Nat}(h:k'≤k)(o:dO):opC k' o≤opC k o:=by
  unfold opC
  repeat' split
  all_goals omega
theorem XB{k k':Nat}(h:k'≤k):∀q:List dO,qC k' q≤qC k q
  | []=>Nat.le_refl _
  | o :: r => by
    have:=XB h r
    have:=aP3 h o
    simp only [qC,List.map_cons,List.sum_cons] at *
    omega
theorem aLQ{b b':aA}{v:Int}(hr:eN b' v=eN b v)(s:Sub):hJ b' v s≤hJ b v s+3:=by
  unfold hJ SX
  rw [hr]
  cases s.cE
  · simp only [aL,if_false]
    repeat' split
    all_goals omega
  · simp
theorem aIE{b b':aA}{v:Int}(hr:eN b' v=eN b v)(he:b'.aC.aJ=b.aC.aJ)(s:Sub):hJ b' v s=hJ b v s:=by
  unfold hJ
  rw [hr,he]
theorem aIF{b b':aA}{v:Int}(hr:eN b' v=eN b v)(he:b'.aC.aJ=b.aC.aJ)(c:List Int)(j:aZ):cA b' c v j=cA b c v j:=by
  unfold cA
  rw [aIE hr he,hr]
theorem aLR{b b':aA}{c c':List Int}{v:Int}(hr:eN b' v=eN b v)(j:aZ):cA b' c' v j≤cA b c v j+3:=by
  have h:=aLQ hr j.Sub
  unfold cA
  rw [hr]
  by_cases p9:j.Pc=9
  · rw [if_pos p9,if_pos p9];omega
  rw [if_neg p9,if_neg p9]
  by_cases k1:j.Op.Kind=1
  · rw [if_pos k1,if_pos k1]
    by_cases p0:j.Pc=0
    · rw [if_pos p0,if_pos p0];omega
    rw [if_neg p0,if_neg p0]
    repeat' split
    all_goals omega
  rw [if_neg k1,if_neg k1]
  by_cases k2:j.Op.Kind=2
  · rw [if_pos k2,if_pos k2]
    by_cases p0:j.Pc=0
    · rw [if_pos p0,if_pos p0];omega
    rw [if_neg p0,if_neg p0];omega
  rw [if_neg k2,if_neg k2]
  by_cases k3:j.Op.Kind=3
  · rw [if_pos k3,if_pos k3]
    repeat' split
    all_goals omega
  rw [if_neg k3,if_neg k3]
  by_cases k7:j.Op.Kind=7
  · rw [if_pos k7,if_pos k7];omega
  rw [if_neg k7,if_neg k7]
  by_cases k6:j.Op.Kind=6
  · rw [if_pos k6,if_pos k6];omega
  rw [if_neg k6,if_neg k6]
  by_cases k5:j.Op.Kind=5
  · rw [if_pos k5,if_pos k5]
    by_cases p0:j.Pc=0
    · rw [if_pos p0,if_pos p0];omega
    rw [if_neg p0,if_neg p0];omega
  rw [if_neg k5,if_neg k5]
  by_cases p0:j.Pc=0
  · rw [if_pos p0,if_pos p0];omega
  rw [if_neg p0,if_neg p0]
  by_cases p1:j.Pc=1
  · rw [if_pos p1,if_pos p1];omega
  rw [if_neg p1,if_neg p1];omega
theorem aIG(b:aA)(c:List Int)(w:Int)(o:dO)(n:Int)(k:Nat)(hk:eN b w≤k):cA b c w (j7 b.aC w o n)+1≤opC k o:=by
  unfold j7 opC
  by_cases k1:o.Kind=1
  · rw [if_pos k1,if_pos k1];simp [cA,k1,hJ,vB,aKA]
  rw [if_neg k1,if_neg k1]
  by_cases k2:o.Kind=2
  · rw [if_pos (.inl k2),if_pos k2]
    split <;> simp [cA,k2,hJ,vB,SX]
  rw [if_neg k2]
  by_cases k5:o.Kind=5
  · rw [if_pos (show o.Kind=2∨o.Kind=5 from .inr k5),if_neg (show ¬o.Kind=3 by omega),if_pos k5]
    split <;> simp [cA,k5,hJ,vB,SX]
  rw [if_neg (show ¬(o.Kind=2∨o.Kind=5) by omega)]
  by_cases k3:o.Kind=3
  · rw [if_neg (show ¬o.Kind=4 by omega),if_pos k3];simp [cA,k3]
  rw [if_neg k3,if_neg k5]
  by_cases k6:o.Kind=6
  · rw [if_neg (show ¬o.Kind=4 by omega),if_pos k6];simp [cA,k6]
  rw [if_neg k6]
  by_cases k7:o.Kind=7
  · rw [if_neg (show ¬o.Kind=4 by omega),if_pos k7];simp [cA,k7]
  rw [if_neg k7]
  split
  · rename_i k4
    simp [cA,k4,hJ,vB,aAB,iB];omega
  · simp [cA,k1,k2,k3,k5,k6,k7,hJ,iB];omega
theorem aSV(c:aC)(w:Int)(o:dO)(n:Int):jK (j7 c w o n)≤if o.Kind=1 then 1 else 0:=by
  unfold j7 jK I3
  by_cases k1:o.Kind=1
  · rw [if_pos k1];simp [k1,iB,vB]
  rw [if_neg k1]
  split
  · split <;> simp [k1,iB,vB]
  · split <;> simp [k1,iB,vB]
end Go.Gv
end
noncomputable section
namespace Go.Gv
theorem aCR{t:List Queue}(h3:t.length=3){w v:Int}(hw:0≤w∧w≤2)(hv:0≤v∧v≤2)(r:List dO):iM (t.set w.toNat ⟨r⟩) v=if v=w then r else iM t v:=by
  unfold iM
  simp only [List.getD_eq_getElem?_getD,List.getElem?_set]
  by_cases q:v=w
  · subst q;simp [show v.toNat < t.length by omega]
  · rw [if_neg q,if_neg (by omega)]
theorem Q9(f:Int→aZ){w v:Int}(h:v≠w)(j:aZ):HX f w j v=f v:=by simp [HX,h]
def aX2(s s':aE)(w:Int):Prop:=∃d,GW s' w+1+2 * d≤GW s w∧∀v,0≤v∧v≤2→v≠w→GW s' v≤GW s v+d
noncomputable section
variable {s:aE} (hs:yT s) {w:Int} (hw:0≤w∧w≤2)
include hs hw
theorem aT4(h:KB s w):lO s w=s:=by
  unfold lO LN
  rw [if_pos h.1,h.2]
theorem aP4(hser:s.aG≠1000000)(h:¬KB s w):aX2 s (lO s w) w:=by
  have h3:=hs.2.2.1
  have t3:s.cL.length=3:=hs.2.2.2.1.1
  unfold lO
  by_cases hb:(aM s w).dE=false
  · rw [if_pos hb]
    unfold LN
    cases ho:iM s.cL w with
    | nil=>exact absurd ⟨hb,ho⟩ h
    | cons o r =>
      simp only
      rw [if_neg hser]
      have ja:=fun(v:Int) (hv:0≤v∧v≤2)=>oZ h3 hw hv s.aA s.Cells (j7 s.aA.aC w o (s.aG+1)) (s.cL.set w.toNat ⟨r⟩) (s.Log ++ [⟨1,w,s.aG+1,o.Cell,0,0,0⟩]) (s.aG+1)
      have ta:=fun(v:Int) (hv:0≤v∧v≤2)=>aCR t3 hw hv r
      refine⟨0,?_,fun v hv hn=>?_⟩
      · have jw:=ja w hw
        rw [dP] at jw
        have tw:=ta w hw
        rw [if_pos rfl] at tw
        have bz:(j7 s.aA.aC w o (s.aG+1)).dE=true:=by unfold j7;split;rfl;split;split <;> rfl;split <;> rfl
        have kle:kW ⟨s.aA,s.Cells,s.aV.set w.toNat (j7 s.aA.aC w o (s.aG+1)),s.cL.set w.toNat ⟨r⟩,s.Log ++ [⟨1,w,s.aG+1,o.Cell,0,0,0⟩],s.aG+1⟩ w≤kW s w:=by
          have:=aSV s.aA.aC w o (s.aG+1)
          unfold kW
          rw [jw,tw,ho]
          simp only [kq,List.map_cons,List.sum_cons]
          omega
        have rk:eN s.aA w≤kW s w:=by unfold kW;omega
        have sc:=aIG s.aA s.Cells w o (s.aG+1) (kW s w) rk
        have qm:=XB kle r
        unfold GW jC
        rw [jw,tw,ho,hb,bz]
        have e:qC (kW s w) (o :: r)=opC (kW s w) o+qC (kW s w) r:=by simp [qC]
        rw [e]
        simp only [if_true,aL,if_false]
        omega
      · have jv:=ja v hv
        rw [Q9 _ hn] at jv
        have tv:=ta v hv
        rw [if_neg hn] at tv
        unfold GW jC kW
        rw [jv,tv]
        exact Nat.le_refl _
  rw [if_neg hb]
  have hb':(aM s w).dE=true:=by simpa using hb
  by_cases h9:(aM s w).Pc=9
  · rw [if_pos h9]
    have ja:=fun(v:Int) (hv:0≤v∧v≤2)=>oZ h3 hw hv s.aA s.Cells lZ s.cL (s.Log ++ [MM w (aM s w)]) s.aG
    refine⟨0,?_,fun v hv hn=>?_⟩
    · have jw:=ja w hw
      rw [dP] at jw
      have kle:kW ⟨s.aA,s.Cells,s.aV.set w.toNat lZ,s.cL,s.Log ++ [MM w (aM s w)],s.aG⟩ w≤kW s w:=by
        unfold kW
        rw [jw]
        have:jK lZ=0:=rfl
        show kq (iM s.cL w)+eN s.aA w+jK lZ≤_
        omega
      have qm:=XB kle (iM s.cL w)
      have:=aLP s.aA s.Cells w (aM s w)
      unfold GW jC
      rw [jw,hb']
      have:lZ.dE=false:=rfl
      rw [this]
      simp only [if_true,aL,if_false]
      omega
    · have jv:=ja v hv
      rw [Q9 _ hn] at jv
      unfold GW jC kW
      rw [jv]
      exact Nat.le_refl _
  rw [if_neg h9]
  have J:=aX1 hs hw h9
  unfold j6
  have ja:=fun(v:Int) (hv:0≤v∧v≤2)=>oZ h3 hw hv (GV s w (aM s w)).b (GV s w (aM s w)).c (GV s w (aM s w)).j s.cL (s.Log++(GV s w (aM s w)).l) s.aG
  generalize GV s w (aM s w)=r at J ja
  obtain⟨d,hd,hl⟩:=J.low
  refine⟨d,?_,fun v hv hn=>?_⟩
  · have jw:=ja w hw
    rw [dP] at jw
    have kle:kW ⟨r.b,r.c,s.aV.set w.toNat r.j,s.cL,s.Log++r.l,s.aG⟩ w≤kW s w:=by
      have:=J.rows
      unfold kW jK
      rw [jw,J.op.2,hb']
      simp only [if_true]
      omega
    have qm:=XB kle (iM s.cL w)
    unfold GW jC
    rw [jw,J.op.2,hb']
    simp only [if_true]
    omega
  · have jv:=ja v hv
    rw [Q9 _ hn] at jv
    have ro:=J.oth v hv hn
    unfold GW jC kW
    rw [jv]
    simp only
    rw [ro]
    by_cases bv:(aM s v).dE=true
    · rw [if_pos bv,if_pos bv]
      rcases hd with ⟨d0,e1,e2⟩ | d3
      · rw [e2,aIF ro e1];omega
      · have:=aLR (c:=s.Cells) (c':=r.c) ro (aM s v);omega
    · rw [if_neg bv,if_neg bv];omega
end
def phi(s:aE):Nat:=GW s 0+GW s 1+GW s 2
theorem aGC{s:aE}(hs:yT s){w:Int}(hw:0≤w∧w≤2)(hser:s.aG≠1000000)(h:¬KB s w):phi (lO s w)+1≤phi s:=by
  obtain⟨d,h1,h2⟩:=aP4 hs hw hser h
  unfold phi
  have hc:w=0∨w=1∨w=2:=by omega
  rcases hc with rfl | rfl | rfl
  · have a:=h2 1 (by omega) (by omega)
    have b:=h2 2 (by omega) (by omega)
    omega
  · have a:=h2 0 (by omega) (by omega)
    have b:=h2 2 (by omega) (by omega)
    omega
  · have a:=h2 0 (by omega) (by omega)
    have b:=h2 1 (by omega) (by omega)
    omega
def wait(s:aE)(k:Nat):Nat:=if KB s ((k % 3:Nat):Int) then (if KB s (((k+1) % 3:Nat):Int) then 2 else 1) else 0
theorem aP5{s:aE}(hs:yT s)(h:∀v:Int,0≤v∧v≤2→KB s v):KA s:=by
  have h3:=hs.2.2.1
  have t3:s.cL.length=3:=hs.2.2.2.1.1
  refine⟨fun j hj=>?_,fun q hq=>?_⟩
  · obtain⟨i,hi,e⟩:=List.getElem_of_mem hj
    have:=(h (i:Int) (by omega)).1
    unfold aM at this
    rw [Int.toNat_natCast,List.getD_eq_getElem?_getD,List.getElem?_eq_getElem hi] at this
    rw [←e];exact this
  · obtain⟨i,hi,e⟩:=List.getElem_of_mem hq
    have:=(h (i:Int) (by omega)).2
    unfold iM at this
    rw [Int.toNat_natCast,List.getD_eq_getElem?_getD,List.getElem?_eq_getElem hi] at this
    rw [←e];exact this
theorem aAC(P:aE→Prop)(hP:∀s (w:Int),yT s→(0≤w∧w≤2)→P s→yT (lO s w)∧P (lO s w))(hser:∀s,P s→s.aG≠1000000):∀n k (s:aE),yT s→P s→3 * phi s+wait s k < n→KA (SW n k s)∧P (SW n k s)
  | 0,_,_,_,_,h=>absurd h (Nat.not_lt_zero _)
  | n + 1, k, s, hs, hp, h => by
    rw [SW]
    by_cases i:KA s
    · rw [if_pos i];exact⟨i,hp⟩
    rw [if_neg i]
    have hw:0≤(((k % 3:Nat):Int))∧(((k % 3:Nat):Int))≤2:=by omega
    by_cases q:KB s ((k % 3:Nat):Int)
    · rw [aT4 hs hw q]
      refine aAC P hP hser n (k+1) s hs hp ?_
      have e:wait s (k+1)+1≤wait s k:=by
        have wk:wait s k=if KB s (((k+1) % 3:Nat):Int) then 2 else 1:=by unfold wait;rw [if_pos q]
        rw [wk]
        by_cases q1:KB s (((k+1) % 3:Nat):Int)
        · rw [if_pos q1]
          unfold wait
          rw [if_pos q1]
          by_cases q2:KB s (((k+1+1) % 3:Nat):Int)
          · exfalso
            refine i (aP5 hs fun v hv=>?_)
            have:v=((k % 3:Nat):Int)∨v=(((k+1) % 3:Nat):Int)∨v=(((k+1+1) % 3:Nat):Int):=by omega
            rcases this with e | e | e <;> rw [e] <;> assumption
          · rw [if_neg q2];omega
        · rw [if_neg q1]
          unfold wait
          rw [if_neg q1]
          omega
      omega
    · obtain⟨o1,o2⟩:=hP s _ hs hw hp
      refine aAC P hP hser n (k+1) _ o1 o2 ?_
      have:=aGC hs hw (hser s hp) q
      have w2:∀s' k',wait s' k'≤2:=fun s' k'=>by unfold wait;split;split <;> omega;omega
      have:=w2 (lO s ((k % 3:Nat):Int)) (k+1)
      omega
end Go.Gv
end
noncomputable section
namespace Go.Gv
def gI(c:Int):Prop:=0≤c∧c≤8
theorem jM{b:aA}{w:Int}{s:Sub}(h:gI s.Code):gI (d7 b w s).2.Code:=by
  have e:∀(x:Sub) c,gI c→gI (pC x c).Code:=fun _ _ h=>h
  have c0:gI 0:=by unfold gI;omega
  have c1:gI 1:=by unfold gI;omega
  have c2:gI 2:=by unfold gI;omega
  have c3:gI 3:=by unfold gI;omega
  have c4:gI 4:=by unfold gI;omega
  have c8:gI 8:=by unfold gI;omega
  have al:∀p,gI (A9 b s p).2.Code:=fun p=>by
    unfold A9;split;exact c0;split;exact c3;exact h
  unfold d7
  split
  · exact h
  split
  · unfold IZ;split;exact c2;split;exact al _;split;exact al _;split;exact al _;exact c1
  split
  · unfold C9;split;exact h;split;split;split;exact c0;exact c4;exact c1;exact c1
  split
  · unfold l4;split;exact h;split;split;split;exact h;exact c8;exact c1;split;exact c0;exact c1
  split
  · unfold jI;split;exact h;split;split;exact h;exact c0;split;split;split;exact h;exact h;exact c1;split;split;exact h;exact c1;exact c1
  split
  · unfold OO;split;exact h;split;split;exact h;exact c1;split;split;exact c0;exact h;exact c1
  exact c1
structure aIH (j:aZ) (r:JR):Prop where
  ser:r.j.aG=j.aG
  ev:∀e∈r.l,e.Kind=2∨e.Kind=3
  code:gI j.Code∧gI j.Sub.Code→gI r.j.Code∧gI r.j.Sub.Code
theorem je{j:aZ}{b:aA}{c:List Int}{q:aZ}{l:List Ev}(h1:q.aG=j.aG)(h2:∀e∈l,e.Kind=2∨e.Kind=3)(h3:gI j.Code∧gI j.Sub.Code→gI q.Code∧gI q.Sub.Code):aIH j ⟨b,c,q,l⟩:=⟨h1,h2,h3⟩
noncomputable section
variable {s:aE} {w:Int} {j:aZ}
theorem PJ:∀e∈([]:List Ev),e.Kind=2∨e.Kind=3:=fun e h=>by cases h
theorem ev3(h:Int):∀e∈[BK w j h],e.Kind=2∨e.Kind=3:=fun e he=>by rw [List.mem_singleton.1 he];exact .inr rfl
theorem MV{c:Int}(h:0≤c∧c≤8):gI c:=h
theorem aGD(m:Mem)(h n:Int):gI (tL m h n).2:=by unfold tL;split <;> exact MV (by simp only;omega)
theorem aGE(c:aC)(pc:Int):(hC c w j pc).aG=j.aG∧(hC c w j pc).Sub=j.Sub∧gI (hC c w j pc).Code:=by
  unfold hC;split <;> exact⟨rfl,rfl,MV (by simp only [bW];omega)⟩
theorem aZE:aIH j (I0 s w j):=by
  unfold I0
  split
  · split
    · split
      · exact je rfl PJ fun h=>⟨jM h.2,jM h.2⟩
      · split
        · exact je rfl PJ fun h=>⟨MV (by simp only [bW];omega),jM h.2⟩
        · exact je rfl PJ fun h=>⟨MV (by simp only [bW];omega),jM h.2⟩
    · exact je rfl PJ fun h=>⟨h.1,jM h.2⟩
  split
  · split
    · exact je rfl PJ fun h=>⟨MV (by simp only [bW];omega),h.2⟩
    · exact je rfl PJ fun h=>⟨aGD ..,h.2⟩
  split
  · split
    · exact je rfl (fun e he=>by rw [List.mem_singleton.1 he];exact .inl rfl) fun h=>⟨MV (by simp only [bW];omega),h.2⟩
    · exact je rfl (fun e he=>by rw [List.mem_singleton.1 he];exact .inl rfl) fun h=>⟨MV (by simp only [bW];omega),MV (by simp only [bW,vB];omega)⟩
  split
  · split
    · exact je rfl PJ fun h=>⟨jM h.2,jM h.2⟩
    · exact je rfl PJ fun h=>⟨h.1,jM h.2⟩
  exact je rfl PJ fun h=>⟨MV (by simp only [bW];omega),h.2⟩
theorem aZF:aIH j (G4 s w j):=by
  unfold G4
  split
  · split
    · exact je rfl PJ fun h=>⟨MV (by simp only [bW];omega),jM h.2⟩
    · exact je rfl PJ fun h=>⟨h.1,jM h.2⟩
  split
  · split <;> exact je rfl (ev3 _) fun h=>⟨MV (by simp only [bW];omega),h.2⟩
  split
  · exact je rfl PJ fun h=>⟨MV (by simp only [bW];omega),h.2⟩
  split
  · obtain⟨a,b,c⟩:=aGE (j:=j) (w:=w) s.aA.aC 4
    exact je a PJ fun h=>⟨c,by rw [b];exact h.2⟩
  split
  · exact je rfl PJ fun h=>⟨h.1,h.2⟩
  exact je rfl PJ fun h=>⟨MV (by simp only [bW];omega),h.2⟩
theorem aZG:aIH j (LM s w j):=by
  unfold LM
  split
  · split
    · exact je rfl (ev3 _) fun h=>⟨MV (by simp only [bW];omega),h.2⟩
    · exact je rfl PJ fun h=>⟨MV (by simp only [bW];omega),h.2⟩
  split
  · exact je rfl PJ fun h=>⟨MV (by simp only [bW];omega),h.2⟩
  split
  · split
    · exact je rfl (ev3 _) fun h=>⟨MV (by simp only [bW];omega),h.2⟩
    · exact je rfl PJ fun h=>⟨MV (by simp only [bW];omega),h.2⟩
  split
  · exact je rfl PJ fun h=>⟨MV (by simp only [bW];omega),h.2⟩
  split
  · exact je rfl PJ fun h=>⟨h.1,h.2⟩
  exact je rfl PJ fun h=>⟨MV (by simp only [bW];omega),h.2⟩
theorem aX3:aIH j (BD s w j):=by
  unfold BD
  split
  · split
    · exact je rfl PJ fun h=>⟨MV (by simp only [bW];omega),h.2⟩
    · split
      · exact je rfl PJ fun h=>⟨MV (by simp only [bW];omega),h.2⟩
      · split <;> exact je rfl (ev3 _) fun h=>⟨MV (by simp only [bW];omega),h.2⟩
  split
  · exact je rfl PJ fun h=>⟨MV (by simp only [bW];omega),h.2⟩
  split
  · obtain⟨a,b,c⟩:=aGE (j:=j) (w:=w) s.aA.aC 9
    exact je a PJ fun h=>⟨c,by rw [b];exact h.2⟩
  exact je rfl PJ fun h=>⟨MV (by simp only [bW];omega),h.2⟩
theorem aV6:aIH j (tM s w j):=by
  unfold tM
  split
  · split
    · refine je rfl PJ fun h=>⟨?_,h.2⟩
      simp only [bW]
      split <;> exact MV (by omega)
    · exact je rfl PJ fun h=>⟨MV (by simp only [bW];omega),h.2⟩
  split
  · split
    · split
      · exact je rfl PJ fun h=>⟨jM h.2,jM h.2⟩
      · split
        · exact je rfl PJ fun h=>⟨MV (by simp only [bW];omega),MV (by simp only [bW,vB];omega)⟩
        · exact je rfl PJ fun h=>⟨jM h.2,jM h.2⟩
    · exact je rfl PJ fun h=>⟨h.1,jM h.2⟩
  exact je rfl PJ fun h=>⟨MV (by simp only [bW];omega),h.2⟩
theorem aX4:aIH j (GV s w j):=by
  unfold GV
  split
  · exact aZE
  split
  · exact aZF
  split
  · exact aZG
  split
  · exact aX3
  exact aV6
end
end Go.Gv
end
noncomputable section
namespace Go.Gv
def LO(f:Int→Nat):Nat:=f 0+f 1+f 2
theorem OS{f g:Int→Nat}{w:Int}(hw:0≤w∧w≤2)(hg:∀v,0≤v∧v≤2→v≠w→g v=f v):LO g+f w=LO f+g w:=by
  have hc:w=0∨w=1∨w=2:=by omega
  unfold LO
  rcases hc with rfl | rfl | rfl
  · have a:=hg 1 (by omega) (by omega)
    have b:=hg 2 (by omega) (by omega)
    omega
  · have a:=hg 0 (by omega) (by omega)
    have b:=hg 2 (by omega) (by omega)
    omega
  · have a:=hg 0 (by omega) (by omega)
    have b:=hg 1 (by omega) (by omega)
    omega
theorem RB{f g:Int→Nat}(hg:∀v,0≤v∧v≤2→g v=f v):LO g=LO f:=by
  unfold LO
  rw [hg 0 (by omega),hg 1 (by omega),hg 2 (by omega)]
def kN(k:Int)(l:List Ev):Nat:=l.countP fun e=>e.Kind == k
def tN(n:Int)(l:List Ev):Nat:=l.countP fun e=>e.Kind == 4 && e.aG == n
def bJ(j:aZ):Nat:=if j.dE then 1 else 0
def bN(n:Int)(j:aZ):Nat:=if j.dE=true∧j.aG=n then 1 else 0
def one(n m:Int):Nat:=if 1≤n∧n≤m then 1 else 0
structure Tl (N:Nat) (s:aE):Prop where
  tot:s.aG+LO (fun v=>(iM s.cL v).length)=N
  calls:(kN 1 s.Log:Int)=s.aG
  aQF:(kN 4 s.Log:Int)+LO (fun v=>bJ (aM s v))=s.aG
  each:∀n,tN n s.Log+LO (fun v=>bN n (aM s v))=one n s.aG
  UU:(∀e∈s.Log,e.Kind=4→gI e.Code)∧∀v,0≤v∧v≤2→gI (aM s v).Code∧gI (aM s v).Sub.Code
theorem aGF(c:aC)(w:Int)(o:dO)(n:Int):(j7 c w o n).dE=true∧(j7 c w o n).aG=n∧gI (j7 c w o n).Code∧gI (j7 c w o n).Sub.Code:=by
  unfold j7
  have z:gI 0:=MV (by omega)
  have u:gI 1:=MV (by omega)
  split
  · exact⟨rfl,rfl,z,z⟩
  split
  · split
    · exact⟨rfl,rfl,u,z⟩
    · exact⟨rfl,rfl,z,z⟩
  split
  · exact⟨rfl,rfl,z,z⟩
  · exact⟨rfl,rfl,z,z⟩
theorem OT(k:Int)(l m:List Ev):kN k (l++m)=kN k l+kN k m:=List.countP_append ..
theorem aII(n:Int)(l m:List Ev):tN n (l++m)=tN n l+tN n m:=List.countP_append ..
theorem aT5{k:Int}{l:List Ev}(hk:k≠2∧k≠3)(h:∀e∈l,e.Kind=2∨e.Kind=3):kN k l=0:=by
  unfold kN
  rw [List.countP_eq_zero]
  intro e he q
  have:=h e he
  have:e.Kind=k:=by simpa using q
  omega
theorem aT6{n:Int}{l:List Ev}(h:∀e∈l,e.Kind≠4):tN n l=0:=by
  unfold tN
  rw [List.countP_eq_zero]
  intro e he q
  have:=h e he
  simp at q
  exact this q.1
theorem aSW{N:Nat}{s:aE}(hs:yT s){w:Int}(hw:0≤w∧w≤2)(hN:N < 1000000)(h:Tl N s):Tl N (lO s w):=by
  have h3:=hs.2.2.1
  have t3:s.cL.length=3:=hs.2.2.2.1.1
  have s0:=hs.2.2.2.2.1.1
  unfold lO
  by_cases hb:(aM s w).dE=false
  · rw [if_pos hb]
    unfold LN
    cases ho:iM s.cL w with
    | nil=>exact h
    | cons o r =>
      simp only
      by_cases hm:s.aG=1000000
      · rw [if_pos hm];exact h
      rw [if_neg hm]
      obtain⟨f1,f2,f3,f4⟩:=aGF s.aA.aC w o (s.aG+1)
      generalize j7 s.aA.aC w o (s.aG+1)=j at f1 f2 f3 f4
      have ja:=fun(v:Int) (hv:0≤v∧v≤2)=>oZ h3 hw hv s.aA s.Cells j (s.cL.set w.toNat ⟨r⟩) (s.Log ++ [⟨1,w,s.aG+1,o.Cell,0,0,0⟩]) (s.aG+1)
      have ta:=fun(v:Int) (hv:0≤v∧v≤2)=>aCR t3 hw hv r
      generalize hS:(⟨s.aA,s.Cells,s.aV.set w.toNat j,s.cL.set w.toNat ⟨r⟩,s.Log ++ [⟨1,w,s.aG+1,o.Cell,0,0,0⟩],s.aG+1⟩:aE)=S at ja
      have eT:S.cL=s.cL.set w.toNat ⟨r⟩:=by rw [←hS]
      have eL:S.Log=s.Log ++ [⟨1,w,s.aG+1,o.Cell,0,0,0⟩]:=by rw [←hS]
      have eS:S.aG=s.aG+1:=by rw [←hS]
      have jw:aM S w=j:=by rw [ja w hw,dP]
      have jv:∀v,0≤v∧v≤2→v≠w→aM S v=aM s v:=fun v hv hn=>by rw [ja v hv,Q9 _ hn]
      refine⟨?_,?_,?_,fun n=>?_,?_,fun v hv=>?_⟩
      · have u:=OS (f:=fun v=>(iM s.cL v).length) (g:=fun v=>(iM S.cL v).length) hw fun v hv hn=>by rw [eT,ta v hv,if_neg hn]
        have tw:iM S.cL w=r:=by rw [eT,ta w hw,if_pos rfl]
        simp only [tw,ho,List.length_cons] at u
        have:=h.tot
        rw [eS];omega
      · rw [eL,OT,eS]
        have:=h.calls
        have e:kN 1 [⟨1,w,s.aG+1,o.Cell,0,0,0⟩]=1:=rfl
        rw [e];omega
      · have u:=OS (f:=fun v=>bJ (aM s v)) (g:=fun v=>bJ (aM S v)) hw fun v hv hn=>by rw [jv v hv hn]
        simp only [jw,bJ,f1,hb,if_true,aL,if_false] at u
        rw [eL,OT,eS]
        have:=h.aQF
        have e:kN 4 [⟨1,w,s.aG+1,o.Cell,0,0,0⟩]=0:=rfl
        rw [e]
        simp only [bJ] at this ⊢
        omega
      · have u:=OS (f:=fun v=>bN n (aM s v)) (g:=fun v=>bN n (aM S v)) hw fun v hv hn=>by rw [jv v hv hn]
        have b1:bN n (aM s w)=0:=by simp [bN,hb]
        have b2:bN n (aM S w)=if s.aG+1=n then 1 else 0:=by rw [jw];simp [bN,f1,f2]
        simp only [b1,b2] at u
        rw [eL,aII,eS]
        have:=h.each n
        have e:tN n [⟨1,w,s.aG+1,o.Cell,0,0,0⟩]=0:=aT6 fun e he=>by rw [List.mem_singleton.1 he];simp
        rw [e]
        have k:one n (s.aG+1)=one n s.aG+if s.aG+1=n then 1 else 0:=by
          unfold one
          by_cases q:s.aG+1=n
          · rw [if_pos q,if_pos (by omega),if_neg (by omega)]
          · rw [if_neg q]
            by_cases q2:1≤n∧n≤s.aG
            · rw [if_pos q2,if_pos (by omega)]
            · rw [if_neg q2,if_neg (by omega)]
        rw [k];omega
      · intro e he
        rw [eL] at he
        rcases List.mem_append.1 he with he | he
        · exact h.UU.1 e he
        · rw [List.mem_singleton.1 he];intro q;simp at q
      · by_cases q:v=w
        · subst q;rw [jw];exact⟨f3,f4⟩
        · rw [jv v hv q];exact h.UU.2 v hv
  rw [if_neg hb]
  have hb':(aM s w).dE=true:=by simpa using hb
  by_cases h9:(aM s w).Pc=9
  · rw [if_pos h9]
    have ja:=fun(v:Int) (hv:0≤v∧v≤2)=>oZ h3 hw hv s.aA s.Cells lZ s.cL (s.Log ++ [MM w (aM s w)]) s.aG
    generalize hS:(⟨s.aA,s.Cells,s.aV.set w.toNat lZ,s.cL,s.Log ++ [MM w (aM s w)],s.aG⟩:aE)=S at ja
    have eT:S.cL=s.cL:=by rw [←hS]
    have eL:S.Log=s.Log ++ [MM w (aM s w)]:=by rw [←hS]
    have eS:S.aG=s.aG:=by rw [←hS]
    have jw:aM S w=lZ:=by rw [ja w hw,dP]
    have jv:∀v,0≤v∧v≤2→v≠w→aM S v=aM s v:=fun v hv hn=>by rw [ja v hv,Q9 _ hn]
    have nB:lZ.dE=false:=rfl
    refine⟨?_,?_,?_,fun n=>?_,?_,fun v hv=>?_⟩
    · rw [eT,eS];exact h.tot
    · rw [eL,OT,eS]
      have:=h.calls
      have e:kN 1 [MM w (aM s w)]=0:=rfl
      rw [e];omega
    · have u:=OS (f:=fun v=>bJ (aM s v)) (g:=fun v=>bJ (aM S v)) hw fun v hv hn=>by rw [jv v hv hn]
      simp only [jw,bJ,nB,hb',if_true,aL,if_false] at u
      rw [eL,OT,eS]
      have:=h.aQF
      have e:kN 4 [MM w (aM s w)]=1:=rfl
      rw [e]
      simp only [bJ] at this ⊢
      omega
    · have u:=OS (f:=fun v=>bN n (aM s v)) (g:=fun v=>bN n (aM S v)) hw fun v hv hn=>by rw [jv v hv hn]
      have b1:bN n (aM s w)=if (aM s w).aG=n then 1 else 0:=by simp [bN,hb']
      have b2:bN n (aM S w)=0:=by rw [jw];simp [bN,nB]
      simp only [b1,b2] at u
      rw [eL,aII,eS]
      have:=h.each n
      have e:tN n [MM w (aM s w)]=if (aM s w).aG=n then 1 else 0:=by
        by_cases q:(aM s w).aG=n <;> simp [tN,MM,q]
      rw [e];omega
    · intro e he
      rw [eL] at he
      rcases List.mem_append.1 he with he | he
      · exact h.UU.1 e he
      · rw [List.mem_singleton.1 he];intro _;exact(h.UU.2 w hw).1
    · by_cases q:v=w
      · subst q;rw [jw];exact⟨MV (by simp [lZ]),MV (by simp [lZ])⟩
      · rw [jv v hv q];exact h.UU.2 v hv
  rw [if_neg h9]
  have J:=aX1 hs hw h9
  have E:=aX4 (s:=s) (w:=w) (j:=aM s w)
  unfold j6
  have ja:=fun(v:Int) (hv:0≤v∧v≤2)=>oZ h3 hw hv (GV s w (aM s w)).b (GV s w (aM s w)).c (GV s w (aM s w)).j s.cL (s.Log++(GV s w (aM s w)).l) s.aG
  generalize GV s w (aM s w)=r at J E ja
  generalize hS:(⟨r.b,r.c,s.aV.set w.toNat r.j,s.cL,s.Log++r.l,s.aG⟩:aE)=S at ja
  have eT:S.cL=s.cL:=by rw [←hS]
  have eL:S.Log=s.Log++r.l:=by rw [←hS]
  have eS:S.aG=s.aG:=by rw [←hS]
  have jw:aM S w=r.j:=by rw [ja w hw,dP]
  have jv:∀v,0≤v∧v≤2→v≠w→aM S v=aM s v:=fun v hv hn=>by rw [ja v hv,Q9 _ hn]
  have same:∀(F:aZ→Nat),F r.j=F (aM s w)→LO (fun v=>F (aM S v))=LO (fun v=>F (aM s v)):=fun F hF=>RB fun v hv=>by
    by_cases q:v=w
    · subst q;rw [jw,hF]
    · rw [jv v hv q]
  refine⟨?_,?_,?_,fun n=>?_,?_,fun v hv=>?_⟩
  · rw [eT,eS];exact h.tot
  · rw [eL,OT,eS,aT5 (k:=1) (l:=r.l) (by omega) E.ev];exact h.calls
  · rw [eL,OT,eS,aT5 (k:=4) (l:=r.l) (by omega) E.ev,same bJ (by simp only [bJ,J.op.2])];exact h.aQF
  · have z:tN n r.l=0:=aT6 fun e he=>by have:=E.ev e he;omega
    rw [eL,aII,eS,z,same (bN n) (by simp only [bN,J.op.2,E.ser])];exact h.each n
  · intro e he
    rw [eL] at he
    rcases List.mem_append.1 he with he | he
    · exact h.UU.1 e he
    · intro q;have:=E.ev e he;omega
  · by_cases q:v=w
    · subst q;rw [jw];exact E.code (h.UU.2 v hv)
    · rw [jv v hv q];exact h.UU.2 v hv
end Go.Gv
end
noncomputable section
namespace Go.Gv
def rX(h:aD)(s:Int):Int:=ld h.Bytes ((dW s (aU h s)).toNat+4) 4
theorem aP6{h:aD}{x:Int}(hh:jA x)(hc:0≤aU h (x % 32)):T6 h x=rX h (x % 32):=by unfold T6 rX;rw [if_pos ⟨hh,hc⟩]
theorem aSX{b:List Int}{a:Nat}{n:Int}(h:a+4≤b.length)(hn:0≤n∧n≤4294967295):ld (B5 b a n) a 4=n:=by
  have e:∀j,bt (B5 b a n) j=if j=a+3 then n % 256 else if j=a+2 then n / 256 % 256 else if j=a+1 then n / 65536 % 256 else if j=a then n / 16777216 else bt b j:=fun j=>by
    unfold B5
    rw [yA (by simp;omega),yA (by simp;omega),yA (by simp;omega),yA (by omega)]
  rw [ld4 (by rw [J6];exact h),e,e,e,e,if_neg (by omega),if_neg (by omega),if_neg (by omega),if_pos rfl,if_neg (by omega),if_neg (by omega),if_pos rfl,if_neg (by omega),if_pos rfl,if_pos rfl]
  omega
theorem UR{h:aD}{s t:Int}(hc:0≤aU h s)(ht:0≤aU h t)(hn:s≠t):(dW s (aU h s)).toNat+12≤(dW t (aU h t)).toNat∨(dW t (aU h t)).toNat+12≤(dW s (aU h s)).toNat:=by
  obtain⟨p,i,p6,hi,es,ec,eo,ep⟩:=qU hc
  obtain⟨q,j,q6,hj,fs,fc,fo,fp⟩:=qU ht
  have room:∀c (i:Nat),i < (bP c).toNat→8+i * (aS c).toNat+12≤64:=fun c i h=>by
    have hcl:0≤c∧c≤2:=gG.1 (by omega)
    rcases fE hcl with rfl | rfl | rfl
    · rw [show(bP 0).toNat=4 from rfl] at h;rw [show(aS 0).toNat=12 from rfl];omega
    · rw [show(bP 1).toNat=2 from rfl] at h;rw [show(aS 1).toNat=20 from rfl];omega
    · rw [show(bP 2).toNat=1 from rfl] at h;rw [show(aS 2).toNat=44 from rfl];omega
  have r1:=room _ _ hi
  have r2:=room _ _ hj
  rw [eo,fo]
  by_cases e:p=q
  · subst e
    have hij:i≠j:=fun e=>hn (by omega)
    have hcl:0≤bL h p∧bL h p≤2:=gG.1 (by omega)
    generalize bL h p=c at hi hj hcl
    rcases fE hcl with rfl | rfl | rfl
    · rw [show(aS 0).toNat=12 from rfl];omega
    · rw [show(aS 1).toNat=20 from rfl];omega
    · rw [show(bP 2).toNat=1 from rfl] at hi hj;omega
  · have:p < q∨q < p:=by omega
    omega
theorem OU{h:aD}{s:Int}(hc:0≤aU h s):(dW s (aU h s)).toNat+8≤384:=(aPQ hc).1
theorem aSY{h:aD}(h384:h.Bytes.length=384){s t n:Int}(hc:0≤aU h s)(ht:0≤aU h t):rX ⟨T2 h.Bytes (dW s (aU h s)).toNat n,h.Class⟩ t=rX h t:=by
  have e1:=OU hc
  have e2:=OU ht
  show ld (T2 h.Bytes (dW s (aU h s)).toNat n) ((dW t (aU h t)).toNat+4) 4=ld h.Bytes ((dW t (aU h t)).toNat+4) 4
  refine FH (by omega) (A5 ..) fun j j1 j2=>?_
  by_cases e:s=t
  · subst e
    rw [tK (by omega),if_neg (by omega),if_neg (by omega)]
  · have:=UR hc ht e
    rw [tK (by omega),if_neg (by omega),if_neg (by omega)]
theorem aP7{h:aD}(h384:h.Bytes.length=384){s t n:Int}(hn:0≤n∧n≤4294967295)(hc:0≤aU h s)(ht:0≤aU h t):rX ⟨B5 h.Bytes ((dW s (aU h s)).toNat+4) n,h.Class⟩ t=if t=s then n else rX h t:=by
  have e1:=OU hc
  have e2:=OU ht
  show ld (B5 h.Bytes ((dW s (aU h s)).toNat+4) n) ((dW t (aU h t)).toNat+4) 4=if t=s then n else ld h.Bytes ((dW t (aU h t)).toNat+4) 4
  by_cases e:t=s
  · subst e
    rw [if_pos rfl,aSX (by omega) hn]
  · rw [if_neg e]
    have:=UR hc ht (fun q=>e q.symm)
    exact FH (by omega) (J6 ..) fun j j1 j2=>SM (by omega) (by omega)
theorem aSZ{h:aD}(hh:P8 h){s:Int}(hc:0≤aU h s):1≤gR h s∧gR h s≤7:=by
  obtain⟨p,i,p6,hi,es,ec,eo,ep⟩:=qU hc
  have hold:=(GQ hh.1 p6).1 (hh.2 p p6)
  have hcl:0≤bL h p∧bL h p≤2:=gG.1 (by omega)
  unfold T4 at hold
  rw [if_neg (by omega)] at hold
  unfold gR
  rw [eo]
  exact hold.2.2 i hi
theorem aP8{m:Mem}(hm:mD m){w h:Int}(hv:gY m h){t:Int}(ht:0≤aU m.aD t):rX (BC m w h).aD t=rX m.aD t:=by
  have hcl:=gH hv.2.1
  have hh:(BC m w h).aD=⟨T2 m.aD.Bytes (dW (h % 32) (aU m.aD (h % 32))).toNat (h / 32+1),m.aD.Class⟩:=by
    unfold BC;simp only [apply_ite Mem.aD,ite_self]
  rw [hh]
  exact aSY hm.1.1.1.1 hcl ht
structure aV7 (m m':Mem) (x n:Int):Prop where
  state:∀t,d6 m' t=d6 m t
  gen:∀t,0≤aU m.aD t→gR m'.aD t=gR m.aD t
  dat:∀t,0≤aU m.aD t→rX m'.aD t=if t=x then n else rX m.aD t
theorem aGG{m:Mem}(hm:mD m){h n:Int}(hv:gY m h)(hn:0≤n∧n≤65535):(tL m h n).2=0∧aV7 m (tL m h n).1 (h % 32) n:=by
  have hcl:=gH hv.2.1
  unfold tL
  rw [if_pos hv]
  obtain⟨_,hg⟩:=P8.put hm.1.1 hcl (n:=n) ⟨hn.1,by omega⟩
  refine⟨rfl,fun t=>?_,hg,fun t ht=>aP7 hm.1.1.1.1 ⟨hn.1,by omega⟩ hcl ht⟩
  by_cases q:0≤aU m.aD t
  · exact SL rfl (hg t q) Iff.rfl
  · unfold d6
    have c:aU m.aD t < 0:=by omega
    exact(if_pos (show aU _ t < 0 from c)).trans (if_pos c).symm
structure aIJ (m m':Mem) (x:Int):Prop where
  was:d6 m x≠3
  now:d6 m' x=3
  gen:1≤gR m'.aD x∧gR m'.aD x≤6
  rest:∀t,t≠x→(d6 m' t=3↔d6 m t=3)
  same:∀t,d6 m t=3→gR m'.aD t=gR m.aD t∧rX m'.aD t=rX m.aD t
theorem aCS{m:Mem}(hm:mD m){ls:aB}{x:Int}(h1:∀t,t∈cX m.aB↔t∈cX ls∨t=x)(h2:x∉cX ls):aIJ m ⟨m.aD,ls⟩ x:=by
  have hx:x∈cX m.aB:=(h1 x).2 (.inr rfl)
  obtain⟨a,b⟩:=mD.nF hm hx
  refine⟨fun q=>(fZ.1 q).2.1 hx,fZ.2 ⟨a,h2,b⟩,⟨(aSZ hm.1.1 a).1,b⟩,fun t ht=>?_,fun t _=>⟨rfl,rfl⟩⟩
  rw [fZ,fZ]
  have:t∈cX m.aB↔t∈cX ls:=by rw [h1];exact⟨fun q=>q.elim id fun q=>absurd q ht,.inl⟩
  simp only [this]
theorem aLS{l:List Int}(h:l≠[]):l=(GS l).1 ++ [(GS l).2]:=by
  unfold GS
  rcases List.eq_nil_or_concat l with rfl | ⟨L,b,rfl⟩
  · exact absurd rfl h
  · simp
theorem aGH{l:List aN}{k:Nat}(hk:k < l.length)(h:dF l k≠[]):∃A B,cM l=A++((GS (dF l k)).2 :: B)∧cM (l.set k ⟨(GS (dF l k)).1⟩)=A++B:=by
  have e:=aLS h
  refine⟨cM (l.take k)++(GS (dF l k)).1,cM (l.drop (k+1)),?_,?_⟩
  · rw [yR hk,cY hk]
    conv=>lhs;rw [e]
    simp
  · rw [B4 hk];simp
theorem aGI{l:List aN}{k:Nat}(hk:k < l.length)(h:dF l k=[]):l.set k ⟨(GS (dF l k)).1⟩=l∧(GS (dF l k)).2 = -1:=by
  rw [h]
  refine⟨?_,rfl⟩
  have e:(⟨(GS []).1⟩:aN)=l[k]:=by
    have:=cY hk
    rw [h] at this
    cases hl:l[k] with
    | mk s=>rw [hl] at this;simp only at this;subst this;rfl
  rw [e,List.set_getElem_self]
theorem aEC{m:Mem}(hm:mD m){w c:Int}(hw:0≤w∧w≤2)(hc:0≤c∧c≤2):(A8 m w c=(m,-1))∨0≤(A8 m w c).2∧aIJ m (A8 m w c).1 (A8 m w c).2:=by
  obtain⟨hcnt,h3,h9,_⟩:=mD.facts hm
  have hk:(w * 3+c).toNat < m.aB.Own.length:=by omega
  unfold A8
  by_cases q:dF m.aB.Own (w * 3+c).toNat=[]
  · left
    obtain⟨a,b⟩:=aGI hk q
    rw [a,b]
  · right
    obtain⟨A,B,e1,e2⟩:=aGH hk q
    have nd:=hm.1.2.2.2.2.2
    have rg:=hm.1.2.2.2.2.1
    unfold cX at nd rg
    rw [e1] at nd rg
    refine⟨(rg _ (by simp)).1,aCS hm (fun t=>?_) ?_⟩
    · unfold cX;simp only;rw [e1,e2];simp only [List.mem_append,List.mem_cons]
      constructor
      · rintro(h | h | h | h)
        · exact .inl (.inl h)
        · exact .inl (.inr (.inl h))
        · exact .inr h
        · exact .inl (.inr (.inr h))
      · rintro((h | h | h) | h)
        · exact .inl h
        · exact .inr (.inl h)
        · exact .inr (.inr (.inr h))
        · exact .inr (.inr (.inl h))
    · unfold cX;simp only;rw [e2]
      have:(cM m.aB.Global++(A++(GS (dF m.aB.Own (w * 3+c).toNat)).2 :: B)).Perm ((GS (dF m.aB.Own (w * 3+c).toNat)).2 :: (cM m.aB.Global++(A++B))):=by
        rw [←List.append_assoc,←List.append_assoc];exact List.perm_middle
      exact(List.nodup_cons.1 (this.nodup_iff.1 nd)).1
theorem aBV{m:Mem}(hm:mD m){c:Int}(hc:0≤c∧c≤2):(rD m c=(m,-1))∨0≤(rD m c).2∧aIJ m (rD m c).1 (rD m c).2:=by
  obtain⟨hcnt,h3,h9,_⟩:=mD.facts hm
  have hk:c.toNat < m.aB.Global.length:=by omega
  unfold rD
  by_cases q:dF m.aB.Global c.toNat=[]
  · left
    obtain⟨a,b⟩:=aGI hk q
    rw [a,b]
  · right
    obtain⟨A,B,e1,e2⟩:=aGH hk q
    have nd:=hm.1.2.2.2.2.2
    have rg:=hm.1.2.2.2.2.1
    unfold cX at nd rg
    rw [e1] at nd rg
    refine⟨(rg _ (by simp)).1,aCS hm (fun t=>?_) ?_⟩
    · unfold cX;simp only;rw [e1,e2];simp only [List.mem_append,List.mem_cons]
      constructor
      · rintro((h | h | h) | h)
        · exact .inl (.inl (.inl h))
        · exact .inr h
        · exact .inl (.inl (.inr h))
        · exact .inl (.inr h)
      · rintro(((h | h) | h) | h)
        · exact .inl (.inl h)
        · exact .inl (.inr (.inr h))
        · exact .inr h
        · exact .inl (.inr (.inl h))
    · unfold cX;simp only;rw [e2]
      have:(A++(GS (dF m.aB.Global c.toNat)).2 :: B++cM m.aB.Own).Perm ((GS (dF m.aB.Global c.toNat)).2 :: (A++B++cM m.aB.Own)):=by
        rw [List.append_assoc,List.append_assoc,List.cons_append];exact List.perm_middle
      exact(List.nodup_cons.1 (this.nodup_iff.1 nd)).1
theorem aIK{m:Mem}(hm:mD m){c:Int}(hc:0≤c∧c≤2):(EC m c=(m,-1))∨0≤(EC m c).2∧aIJ m (EC m c).1 (EC m c).2:=by
  obtain⟨hcnt,h3,h9,h1,_⟩:=mD.facts hm
  have hs:=hm.1.1.1
  unfold EC
  by_cases q:SQ m.aD=6
  · left;rw [if_pos q]
  right
  rw [if_neg q]
  obtain⟨hp,hun⟩:=aPJ hs q
  generalize SQ m.aD=p at hp hun
  obtain⟨a,b,d,e⟩:=P8.aT1 hm.1.1 hp (by omega) hc
  have hpp:0 < bP c:=gG.2 hc
  have hp4:=lI c
  have hk:c.toNat < m.aB.Global.length:=by omega
  have hcons:gS p (bP c).toNat=(p:Int) * 4 :: (gS p (bP c).toNat).drop 1:=by
    have:0 < (gS p (bP c).toNat).length:=by rw [GP];omega
    have h0:=List.drop_eq_getElem_cons this
    rw [List.drop_zero] at h0
    have e0:(gS p (bP c).toNat)[0]=(p:Int) * 4:=by simp [gS]
    rw [e0] at h0;exact h0
  have hnd:=aFW p (bP c).toNat
  rw [hcons,List.nodup_cons] at hnd
  have hxs:∀t,t∈(gS p (bP c).toNat).drop 1↔∃i,i < (bP c).toNat∧t=(p:Int) * 4+(i:Nat)∧i≠0:=fun t=>by
    constructor
    · intro h
      obtain⟨i,hi,rfl⟩:=aPD (List.mem_of_mem_drop h)
      refine⟨i,hi,rfl,fun z=>hnd.1 ?_⟩
      subst z;simpa using h
    · rintro⟨i,hi,rfl,i0⟩
      have hmem:(p:Int) * 4+(i:Nat)∈gS p (bP c).toNat:=by simp only [gS,List.mem_map,List.mem_range];exact⟨i,hi,rfl⟩
      rw [hcons] at hmem
      rcases List.mem_cons.1 hmem with h | h
      · omega
      · exact h
  generalize (gS p (bP c).toNat).drop 1=xs at hnd hxs
  have hmem:∀t,t∈cX ⟨m.aB.Global.set c.toNat ⟨dF m.aB.Global c.toNat++xs⟩,m.aB.Own⟩↔t∈cX m.aB∨t∈xs:=fun t=>by
    unfold cX;rw [←cY hk];simp only [List.mem_append,A6 hk];rw [or_right_comm]
  have hno:∀i,i < (bP c).toNat→¬0≤aU m.aD ((p:Int) * 4+(i:Nat)):=fun i hi z=>(d _ z).1 (by omega)
  have e0:=e 0 (by omega)
  rw [show(p:Int) * 4+((0:Nat):Int)=(p:Int) * 4 by omega] at e0
  have hno0:=hno 0 (by omega)
  rw [show(p:Int) * 4+((0:Nat):Int)=(p:Int) * 4 by omega] at hno0
  have bts:=fun j=>(aPB hm.1.1.1.1 hp hc (bP c).toNat (by omega) j).1
  have hbl:=GO m.aD.Bytes p c (bP c).toNat
  refine⟨by simp only;omega,fun z=>hno0 (fZ.1 z).1,fZ.2 ⟨by simp only [e0.1];exact hc.1,fun z=>?_,by simp only [e0.2];omega⟩,by simp only [e0.2];omega,fun t ht=>?_,fun t ht=>?_⟩
  · rcases(hmem _).1 z with y | y
    · exact hno0 (mD.nF hm y).1
    · exact hnd.1 y
  · rw [fZ,fZ]
    simp only at ht
    by_cases z:0≤aU m.aD t
    · obtain⟨z1,z2⟩:=d t z
      have zx:t∉xs:=fun y=>by obtain⟨i,hi,rfl,_⟩:=(hxs t).1 y;exact hno i hi z
      have:t∈cX (⟨m.aB.Global.set c.toNat ⟨dF m.aB.Global c.toNat++xs⟩,m.aB.Own⟩:aB)↔t∈cX m.aB:=by rw [hmem];exact⟨fun y=>y.elim id fun y=>absurd y zx,.inl⟩
      simp only [this,b t z1,z2]
    · refine⟨fun y=>?_,fun y=>absurd y.1 z⟩
      exfalso
      obtain⟨y1,y2,y3⟩:=y
      by_cases zp:(t / 4).toNat=p
      · obtain⟨r1,r2,r3⟩:=nU y1
        rw [zp,OK hs hp,if_pos rfl] at r2
        exact y2 ((hmem t).2 (.inr ((hxs t).2 ⟨(t % 4).toNat,by omega,by omega,by omega⟩)))
      · simp only at y1
        rw [b t zp] at y1;exact z y1
  · have ht':=fZ.1 ht
    obtain⟨z1,z2⟩:=d t ht'.1
    refine⟨z2,?_⟩
    obtain⟨p',i',p6',hi',es',ec',eo',ep'⟩:=qU ht'.1
    have hend:=OU ht'.1
    have hz':=rC hs p6' rfl hi'
    have room:8+i' * (aS (bL m.aD p')).toNat+8≤64:=by
      have hcl:0≤bL m.aD p'∧bL m.aD p'≤2:=gG.1 (by omega)
      generalize bL m.aD p'=c' at hi' hcl
      rcases fE hcl with rfl | rfl | rfl
      · rw [show(bP 0).toNat=4 from rfl] at hi';rw [show(aS 0).toNat=12 from rfl];omega
      · rw [show(bP 1).toNat=2 from rfl] at hi';rw [show(aS 1).toNat=20 from rfl];omega
      · rw [show(bP 2).toNat=1 from rfl] at hi';rw [show(aS 2).toNat=44 from rfl];omega
    unfold rX
    simp only
    rw [b t z1]
    exact FH (by omega) hbl fun j j1 j2=>bts j (by omega)
structure aP9 (b:aA) (r:aA×Sub) (s:Sub):Prop where
  clock:r.1.aC=b.aC
  aZ2:r.1.aO=b.aO
  haz:r.1.m7=b.m7
  two:r.1.Mem=b.Mem∧(r.2.cE=true∧r.2.Code≠0∨r.2.cE=false∧r.2.Kind=1∧0≤r.2.Pc∧r.2.Pc≤3) ∨
    r.2.cE=true∧r.2.Code=0∧jA r.2.Out∧gY r.1.Mem r.2.Out∧aIJ b.Mem r.1.Mem (r.2.Out % 32)
theorem aS0{b:aA}(hm:mD b.Mem){w:Int}(hw:0≤w∧w≤2){s:Sub}(hk:s.Kind=1)(hd:s.cE=false)(hp:0≤s.Pc∧s.Pc≤3):aP9 b (d7 b w s) s:=by
  have hr:=Z1 s.A
  have e:d7 b w s=IZ b w s:=by unfold d7;simp [hk,hd]
  rw [e]
  have fin:∀p:Mem×Int,(p=(b.Mem,-1)∨0≤p.2∧aIJ b.Mem p.1 p.2)→aP9 b (A9 b s p) s:=fun p h=>by
    unfold A9
    rcases h with rfl | ⟨h0,h1⟩
    · rw [if_neg (by simp)]
      split
      · exact⟨rfl,rfl,rfl,.inl ⟨rfl,.inl ⟨rfl,by simp [pC]⟩⟩⟩
      · exact⟨rfl,rfl,rfl,.inl ⟨rfl,.inr ⟨hd,hk,by simp only;omega,by simp only;omega⟩⟩⟩
    · rw [if_pos h0]
      have h23:=(nU (fZ.1 h1.now).1).1
      have eh:aH9 p.1 p.2=gR p.1.aD p.2 * 32+p.2:=if_pos h1.gen
      have hg:=h1.gen
      have e1:aH9 p.1 p.2 % 32=p.2:=by omega
      have e2:aH9 p.1 p.2 / 32=gR p.1.aD p.2:=by omega
      have hn:jA (aH9 p.1 p.2):=by unfold jA;omega
      refine⟨rfl,rfl,rfl,.inr ⟨rfl,rfl,hn,⟨hn,?_,?_⟩,?_⟩⟩
      · simp only [pC];rw [e1];exact h1.now
      · simp only [pC];rw [e1,e2]
      · simp only [pC];rw [e1];exact h1
  unfold IZ
  by_cases c0:vA s.A < 0
  · rw [if_pos c0]
    exact⟨rfl,rfl,rfl,.inl ⟨rfl,.inl ⟨rfl,by simp [pC]⟩⟩⟩
  rw [if_neg c0]
  have hc:0≤vA s.A∧vA s.A≤2:=by omega
  split
  · exact fin _ (aEC hm hw hc)
  split
  · exact fin _ (aBV hm hc)
  split
  · exact fin _ (aIK hm hc)
  · omega
end Go.Gv
end
noncomputable section
namespace Go.Gv
def FO(j:aZ):Int:=if j.Op.Kind=1 then (if j.Pc=1∨j.Pc=2 then j.H else if j.Pc=3 then j.Old else 0) else 0
def nm(c:List Int)(J:Int→aZ)(i:Int):Int:=if i < 2 then cellAt c i else FO (J (i - 2))
structure Ow (b:aA) (N:Int→Int):Prop where
  live:∀i,0≤i∧i≤4→N i≠0→gY b.Mem (N i)∧¬BG b.aO (N i % 32)
  once:∀i j,0≤i∧i≤4→0≤j∧j≤4→N i≠0→N i=N j→i=j
  all:∀t,d6 b.Mem t=3→¬BG b.aO t→∃i,(0≤i∧i≤4)∧N i≠0∧N i % 32=t
theorem aAD{m:Mem}{h g:Int}(a:gY m h)(b:gY m g)(e:h % 32=g % 32):h=g:=by
  have h1:=a.2.2
  have h2:=b.2.2
  rw [e] at h1
  omega
theorem Ow.perm{b b':aA}{N N':Int→Int}(h:Ow b N)(hm:b'.Mem=b.Mem)(hl:b'.aO=b.aO)(σ:Int→Int)(hr:∀i,0≤i∧i≤4→0≤σ i∧σ i≤4)(hi:∀i,σ (σ i)=i)(he:∀i,0≤i∧i≤4→N' i=N (σ i)):Ow b' N':=by
  refine⟨fun i hi' hn=>?_,fun i j hi' hj' hn e=>?_,fun t ht hh=>?_⟩
  · rw [he i hi'] at hn ⊢
    rw [hm,hl]
    exact h.live _ (hr i hi') hn
  · rw [he i hi'] at hn
    rw [he i hi',he j hj'] at e
    have:=h.once _ _ (hr i hi') (hr j hj') hn e
    rw [←hi i,this,hi]
  · rw [hm] at ht
    rw [hl] at hh
    obtain⟨i,a,b,c⟩:=h.all t ht hh
    exact⟨σ i,hr i a,by rw [he _ (hr i a),hi];exact b,by rw [he _ (hr i a),hi];exact c⟩
theorem Ow.congr{b b':aA}{N N':Int→Int}(h:Ow b N)(hm:b'.Mem=b.Mem)(hl:b'.aO=b.aO)(he:∀i,0≤i∧i≤4→N' i=N i):Ow b' N':=h.perm hm hl id (fun _ h=>h) (fun _=>rfl) he
noncomputable section
variable {b b':aA} {N N':Int→Int} (h:Ow b N)
include h
theorem Ow.aZH(hb:pB b)(hl:b'.aO=b.aO){H:Int}(ht:aIJ b.Mem b'.Mem (H % 32))(hv:gY b'.Mem H){i:Int}(hi:0≤i∧i≤4)(h0:N i=0)(hN:N' i=H)(ho:∀j,0≤j∧j≤4→j≠i→N' j=N j):Ow b' N':=by
  have nh:¬BG b.aO (H % 32):=fun⟨r,r1,r2,r3⟩=>ht.was (by rw [←r3];exact(hb.2 r r1).1.2.1)
  have ne:∀j,0≤j∧j≤4→N j≠0→N j % 32≠H % 32:=fun j hj hn e=>ht.was (by rw [←e];exact(h.live j hj hn).1.2.1)
  have g7:∀g,gY b.Mem g→gY b'.Mem g:=fun g hg=>by
    have e:g % 32≠H % 32:=fun e=>ht.was (by rw [←e];exact hg.2.1)
    exact⟨hg.1,(ht.rest _ e).2 hg.2.1,by rw [(ht.same _ hg.2.1).1];exact hg.2.2⟩
  refine⟨fun j hj hn=>?_,fun j k hj hk hn e=>?_,fun t hs hh=>?_⟩
  · by_cases q:j=i
    · subst q;rw [hN,hl];exact⟨hv,nh⟩
    · rw [ho j hj q] at hn ⊢
      rw [hl]
      exact⟨g7 _ (h.live j hj hn).1,(h.live j hj hn).2⟩
  · by_cases q:j=i
    · by_cases q2:k=i
      · rw [q,q2]
      · rw [q,hN,ho k hk q2] at e
        exact absurd (by rw [e]) (ne k hk (by rw [←e];intro z;rw [q,hN] at hn;exact hn z))
    · by_cases q2:k=i
      · rw [q2,hN,ho j hj q] at e
        rw [ho j hj q] at hn
        exact absurd (by rw [e]) (ne j hj hn)
      · rw [ho j hj q] at hn
        rw [ho j hj q,ho k hk q2] at e
        exact h.once j k hj hk hn e
  · by_cases q:t=H % 32
    · exact⟨i,hi,by rw [hN];have:=hv.1;unfold jA at this;omega,by rw [hN,q]⟩
    · rw [hl] at hh
      obtain⟨j,j1,j2,j3⟩:=h.all t ((ht.rest t q).1 hs) hh
      have:j≠i:=fun e=>by rw [e,h0] at j2;exact j2 rfl
      exact⟨j,j1,by rw [ho j j1 this];exact j2,by rw [ho j j1 this];exact j3⟩
theorem Ow.retired(hm:b'.Mem=b.Mem){i:Int}(hi:0≤i∧i≤4)(hn:N i≠0)(hl:∀t,BG b'.aO t↔BG b.aO t∨t=N i % 32)(hN:N' i=0)(ho:∀j,0≤j∧j≤4→j≠i→N' j=N j):Ow b' N':=by
  have hiL:=(h.live i hi hn).1
  refine⟨fun j hj hjn=>?_,fun j k hj hk hjn e=>?_,fun t hs hh=>?_⟩
  · have q:j≠i:=fun e=>hjn (by rw [e,hN])
    rw [ho j hj q] at hjn ⊢
    rw [hm,hl]
    obtain⟨a,b⟩:=h.live j hj hjn
    refine⟨a,fun z=>z.elim b fun z=>q (h.once j i hj hi hjn (aAD a hiL z))⟩
  · have q:j≠i:=fun e=>hjn (by rw [e,hN])
    have q2:k≠i:=fun e'=>by rw [e',hN] at e;exact hjn e
    rw [ho j hj q] at hjn
    rw [ho j hj q,ho k hk q2] at e
    exact h.once j k hj hk hjn e
  · rw [hm] at hs
    rw [hl] at hh
    obtain⟨j,j1,j2,j3⟩:=h.all t hs (fun z=>hh (.inl z))
    have:j≠i:=fun e=>hh (.inr (by rw [←j3,e]))
    exact⟨j,j1,by rw [ho j j1 this];exact j2,by rw [ho j j1 this];exact j3⟩
theorem Ow.aX5{x:Int}(hx:BG b.aO x)(h3:d6 b'.Mem x≠3)(hs:∀t,t≠x→d6 b'.Mem t=d6 b.Mem t)(hg:∀t,t≠x→d6 b.Mem t=3→gR b'.Mem.aD t=gR b.Mem.aD t)(hl:∀t,t≠x→(BG b'.aO t↔BG b.aO t))(he:∀i,0≤i∧i≤4→N' i=N i):Ow b' N':=by
  refine⟨fun i hi hn=>?_,fun i j hi hj hn e=>?_,fun t ht hh=>?_⟩
  · rw [he i hi] at hn ⊢
    obtain⟨a,c⟩:=h.live i hi hn
    have q:N i % 32≠x:=fun e=>c (by rw [e];exact hx)
    exact⟨⟨a.1,by rw [hs _ q];exact a.2.1,by rw [hg _ q a.2.1];exact a.2.2⟩,by rw [hl _ q];exact c⟩
  · rw [he i hi] at hn
    rw [he i hi,he j hj] at e
    exact h.once i j hi hj hn e
  · have q:t≠x:=fun e=>h3 (by rw [←e];exact ht)
    rw [hs t q] at ht
    rw [hl t q] at hh
    obtain⟨i,a,c,d⟩:=h.all t ht hh
    exact⟨i,a,by rw [he i a];exact c,by rw [he i a];exact d⟩
end
def zEw:Ev:=⟨0,0,0,0,0,0,0⟩
def PK(L:List Ev)(k:Int):Ev:=L.foldl (fun a e=>if e.Kind=2∧e.Cell=k then e else a) zEw
theorem SZ(L:List Ev)(e:Ev)(k:Int):PK (L ++ [e]) k=if e.Kind=2∧e.Cell=k then e else PK L k:=by
  unfold PK;rw [List.foldl_append];rfl
def rdS(n:Int)(a:(Int→Ev)×Option (Ev×Ev))(e:Ev):(Int→Ev)×Option (Ev×Ev):=(fun k=>if e.Kind=2∧e.Cell=k then e else a.1 k,if e.Kind=3∧e.aG=n then some (e,a.1 e.Cell) else a.2)
def US(L:List Ev)(n:Int):Option (Ev×Ev):=(L.foldl (rdS n) (fun _=>zEw,none)).2
theorem aV8(L:List Ev)(n:Int)(k:Int):(L.foldl (rdS n) (fun _=>zEw,none)).1 k=PK L k:=by
  have:∀(L:List Ev) a,(L.foldl (rdS n) a).1 k=L.foldl (fun a e=>if e.Kind=2∧e.Cell=k then e else a) (a.1 k):=by
    intro L
    induction L with
    | nil=>intro a;rfl
    | cons e L ih=>intro a;rw [List.foldl_cons,List.foldl_cons,ih];rfl
  exact this L _
theorem PE(L:List Ev)(e:Ev)(n:Int):US (L ++ [e]) n=if e.Kind=3∧e.aG=n then some (e,PK L e.Cell) else US L n:=by
  unfold US
  rw [List.foldl_append,List.foldl_cons,List.foldl_nil]
  show(if e.Kind=3∧e.aG=n then some (e,(L.foldl (rdS n) (fun _=>zEw,none)).1 e.Cell) else _)=_
  rw [aV8]
theorem aS1{L:List Ev}{n:Int}(h:∀e∈L,e.aG≠n):US L n=none:=by
  have:∀(L:List Ev) a,(∀e∈L,e.aG≠n)→(L.foldl (rdS n) a).2=a.2:=by
    intro L
    induction L with
    | nil=>intro a _;rfl
    | cons e L ih =>
      intro a h
      rw [List.foldl_cons,ih _ fun x hx=>h x (List.mem_cons_of_mem _ hx)]
      exact if_neg fun q=>h e (List.mem_cons_self ..) q.2
  exact this L _ h
def Told(o:Option (Ev×Ev))(code val:Int):Prop:=(code=0→∃e x,o=some (e,x)∧x.Handle≠0∧x.Handle=e.Handle∧x.cV=val)∧(code=8→∃e x,o=some (e,x)∧x.Handle=0∧e.Handle=0)
theorem Told.other{o:Option (Ev×Ev)}{code val:Int}(h0:code≠0)(h8:code≠8):Told o code val:=⟨fun q=>absurd q h0,fun q=>absurd q h8⟩
def TrL(L:List Ev):Prop:=∀M e N,L=M++e :: N→e.Kind=4→US M e.aG≠none→Told (US M e.aG) e.Code e.cV
theorem TrL.snoc{L:List Ev}(h:TrL L){e:Ev}(he:e.Kind=4→US L e.aG≠none→Told (US L e.aG) e.Code e.cV):TrL (L ++ [e]):=by
  intro M x N hx hk hr
  rcases List.eq_nil_or_concat N with rfl | ⟨N',y,rfl⟩
  · have:=List.append_inj' hx (by rfl)
    obtain⟨rfl,q⟩:=this
    injection q with q
    subst q
    exact he hk hr
  · have e1:M++x :: (N'.concat y)=(M++x :: N') ++ [y]:=by simp
    rw [e1] at hx
    have:=List.append_inj' hx (by rfl)
    exact h M x N' this.1 hk hr
def o7(b:aA)(c:List Int)(J:Int→aZ)(e H:Int):Prop:=(∃k,(0≤k∧k≤1)∧cellAt c k=H)∨(∃v,(0≤v∧v≤2)∧(J v).Op.Kind=1∧(J v).Pc=3∧(J v).Old=H∧((J v).Sub.Pc=0∨e≤(J v).Sub.E))∨∃r∈bZ b.aO,r.Handle=H∧e≤r.aJ
def UnJ(j:aZ)(v H:Int):Prop:=j.Op.Kind=4→j.Pc=1→j.Sub.H=H→(j.Sub.Pc=2→j.Sub.B≤v)∧j.Sub.Pc≠3
def LP(J:Int→aZ)(v H:Int):Prop:=∀a,0≤a∧a≤2→UnJ (J a) v H
def aV9(b:aA)(old:Int)(s:Sub):Prop:=s.Kind=2∧s.cE=false∧s.A=old∧(s.Pc=0∨s.Pc=1∧0≤s.E∧s.E≤b.aC.aJ)
def aQA(e:Int)(l:List dA)(s:Sub):Prop:=s.Kind=4∧s.cE=false∧(s.Pc=0∨s.E≤e∧(s.Pc=1∧0≤s.Row∨s.Pc=2∧(0≤s.B∧s.B≤2)∧DV l s∧BA (ED l s.Row) s.E∨s.Pc=3∧DV l s∧BA (ED l s.Row) s.E))
def aQB(j:aZ):Prop:=j.Op.Kind=2∧(j.Pc=2∨j.Pc=3)∨j.Op.Kind=7∧(j.Pc=1∨j.Pc=2)
def aAE(j:aZ):Prop:=j.Op.Kind=2∧j.Pc=3∨j.Op.Kind=7∧j.Pc=2
def Reads(j:aZ):Prop:=j.Op.Kind=2∨j.Op.Kind=3∨j.Op.Kind=7
def Saw(o:Option (Ev×Ev))(H:Int)(x:Ev):Prop:=∃e,o=some (e,x)∧e.Handle=H∧x.Handle=H∧H≠0
def Pinned(c:aC)(v:Int):Prop:=(b9 c v).On=true∧(b9 c v).dI=false
structure Jv (b:aA) (c:List Int) (J:Int→aZ) (o:Option (Ev×Ev)) (v:Int) (j:aZ):Prop where
  idle:j.dE=false→j.Op.Kind=0
  s0:j.Op.Kind=1→j.Pc=0→j.Sub.Kind=1∧j.Sub.cE=false∧0≤j.Sub.Pc∧j.Sub.Pc≤3
  s1:j.Op.Kind=1→j.Pc=1∨j.Pc=2→j.H≠0
  s2:j.Op.Kind=1→j.Pc=2→rX b.Mem.aD (j.H % 32)=j.Op.cV
  s3:j.Op.Kind=1→j.Pc=3→j.Old≠0∧aV9 b j.Old j.Sub
  k:j.Op.Kind=4→j.Pc=1→aQA b.aC.aJ (cC b.aO v) j.Sub
  g:aQB j→Pinned b.aC v→o7 b c J (b9 b.aC v).aJ j.H∧∃x,Saw o j.H x∧(¬aAE j→rX b.Mem.aD (j.H % 32)=x.cV)∧(aAE j→j.cV=x.cV)
  z1:j.Op.Kind=3→j.Pc=1∨j.Pc=2∨j.Pc=3→j.H≠0
  z2:j.Op.Kind=3→j.Pc=2∨j.Pc=3→oY b.m7 v=j.H
  z3:j.Op.Kind=3→j.Pc=3→o7 b c J 0 j.H∧LP J v j.H∧∃x,Saw o j.H x∧rX b.Mem.aD (j.H % 32)=x.cV
  t:Reads j→j.Pc=9∨j.Pc=4→Told o j.Code j.cV
  n:j.dE=true→¬Reads j→o=none
structure Frm (b b':aA) (c c':List Int) (J J':Int→aZ) (v:Int) (j:aZ):Prop where
  ep:b.aC.aJ≤b'.aC.aJ
  rows:cC b'.aO v=cC b.aO v
  pin:Pinned b'.aC v→Pinned b.aC v∧(b9 b'.aC v).aJ=(b9 b.aC v).aJ
  haz:oY b'.m7 v=oY b.m7 v
  safe:∀e H,H≠0→e≤b.aC.aJ→(b.aC.aJ≤e+1∨∃u,(0≤u∧u≤2)∧LP J u H)→o7 b c J e H→o7 b' c' J' e H
  unp:oY b.m7 v=j.H→LP J v j.H→LP J' v j.H
  aX8:∀e H,o7 b c J e H→H≠0→rX b'.Mem.aD (H % 32)=rX b.Mem.aD (H % 32)
  aZN:FO j≠0→rX b'.Mem.aD (FO j % 32)=rX b.Mem.aD (FO j % 32)
theorem Jv.frame{b b':aA}{c c':List Int}{J J':Int→aZ}{o o':Option (Ev×Ev)}{v:Int}{j:aZ}(hv:0≤v∧v≤2)(h:Jv b c J o v j)(hc:GX b.aC)(he:aQB j→Pinned b.aC v→b.aC.aJ≤(b9 b.aC v).aJ+1)
    (f:Frm b b' c c' J J' v j) (ho:j.dE=true→o'=o):Jv b' c' J' o' v j:=by
  have busy:j.Op.Kind≠0→o'=o:=fun q=>ho (by cases hb:j.dE with
    | true=>rfl
    | false=>exact absurd (h.idle hb) q)
  have hpe:=(ON hc hv).1
  refine⟨h.idle,h.s0,h.s1,fun k p=>?_,fun k p=>?_,fun k p=>?_,fun g p=>?_,h.z1,fun k p=>?_,fun k p=>?_,fun r p=>?_,fun bb r=>?_⟩
  · have e:FO j=j.H:=by unfold FO;rw [if_pos k,if_pos (.inr p)]
    have:=f.aZN (by rw [e];exact h.s1 k (.inr p))
    rw [e] at this
    rw [this];exact h.s2 k p
  · obtain⟨a,q1,q2,q3,q4⟩:=h.s3 k p
    exact⟨a,q1,q2,q3,q4.imp id fun z=>⟨z.1,z.2.1,Int.le_trans z.2.2 f.ep⟩⟩
  · obtain⟨q1,q2,q3⟩:=h.k k p
    rw [f.rows]
    exact⟨q1,q2,q3.imp id fun z=>⟨Int.le_trans z.1 f.ep,z.2⟩⟩
  · obtain⟨p1,p2⟩:=f.pin p
    obtain⟨s,x,x1,x2,x3⟩:=h.g g p1
    have hk:j.Op.Kind≠0:=by rcases g with g | g <;> omega
    rw [p2,busy hk]
    have h0:=x1.choose_spec.2.2.2
    refine⟨f.safe _ _ h0 hpe.2 (.inl (he g p1)) s,x,x1,fun l=>?_,x3⟩
    rw [f.aX8 _ _ s h0];exact x2 l
  · rw [f.haz];exact h.z2 k p
  · obtain⟨s,u,x,x1,x2⟩:=h.z3 k p
    rw [busy (by omega)]
    have h0:=x1.choose_spec.2.2.2
    refine⟨f.safe _ _ h0 hc.1.1 (.inr ⟨v,hv,u⟩) s,f.unp (h.z2 k (.inr p)) u,x,x1,?_⟩
    rw [f.aX8 _ _ s h0];exact x2
  · rw [busy (by unfold Reads at r;omega)];exact h.t r p
  · rw [ho bb];exact h.n bb r
structure Sv (b:aA) (c:List Int) (J:Int→aZ) (L:List Ev) (n:Int):Prop where
  ow:Ow b (nm c J)
  cv:∀k,0≤k∧k≤1→(PK L k).Handle=cellAt c k∧(cellAt c k≠0→rX b.Mem.aD (cellAt c k % 32)=(PK L k).cV)
  jv:∀v,0≤v∧v≤2→Jv b c J (US L (J v).aG) v (J v)
  tr:TrL L
  se:(∀e∈L,e.aG≤n)∧(∀v,0≤v∧v≤2→(J v).dE=true→(J v).aG≤n)∧∀v u,0≤v∧v≤2→0≤u∧u≤2→(J v).dE=true→(J u).dE=true→v≠u→(J v).aG≠(J u).aG
theorem lK(c:List Int)(J:Int→aZ){k:Int}(hk:0≤k∧k≤1):nm c J k=cellAt c k:=by unfold nm;rw [if_pos (by omega)]
theorem fH(c:List Int)(J:Int→aZ){v:Int}(hv:0≤v∧v≤2):nm c J (v+2)=FO (J v):=by unfold nm;rw [if_neg (by omega)];congr 2;omega
theorem aAF{i:Int}(hi:0≤i∧i≤4):(0≤i∧i≤1)∨∃v,(0≤v∧v≤2)∧i=v+2:=by
  by_cases h:i≤1
  · exact .inl ⟨hi.1,h⟩
  · exact .inr ⟨i - 2,by omega,by omega⟩
theorem aKB{l:List aY}{r:dA}(hr:r∈bZ l)(hh:jA r.Handle):BG l (r.Handle % 32):=⟨r,hr,hh,rfl⟩
theorem o7.live{b:aA}{c:List Int}{J:Int→aZ}(hb:pB b)(ho:Ow b (nm c J)){e H:Int}(h:o7 b c J e H)(h0:H≠0):gY b.Mem H:=by
  rcases h with ⟨k,hk,q⟩ | ⟨v,hv,k1,p3,q,_⟩ | ⟨r,hr,q,_⟩
  · have:=ho.live k (by omega) (by rw [lK c J hk,q];exact h0)
    rw [lK c J hk,q] at this;exact this.1
  · have en:FO (J v)=H:=by unfold FO;rw [if_pos k1,if_neg (by omega),if_pos p3,q]
    have:=ho.live (v+2) (by omega) (by rw [fH c J hv,en];exact h0)
    rw [fH c J hv,en] at this;exact this.1
  · rw [←q];exact(hb.2 r hr).1
theorem o7.apart{b:aA}{c:List Int}{J:Int→aZ}(hb:pB b)(ho:Ow b (nm c J)){e H:Int}(h:o7 b c J e H)(h0:H≠0){w:Int}(hw:0≤w∧w≤2)(hk:(J w).Op.Kind=1)(hp:(J w).Pc=1∨(J w).Pc=2)(hn:(J w).H≠0):H % 32≠(J w).H % 32:=by
  intro z
  have ew:FO (J w)=(J w).H:=by unfold FO;rw [if_pos hk,if_pos hp]
  have lw:=ho.live (w+2) (by omega) (by rw [fH c J hw,ew];exact hn)
  rw [fH c J hw,ew] at lw
  have e2:=aAD (h.live hb ho h0) lw.1 z
  rcases h with ⟨k,hk',q⟩ | ⟨v,hv,k1,p3,q,_⟩ | ⟨r,hr,q,_⟩
  · have:=ho.once k (w+2) (by omega) (by omega) (by rw [lK c J hk',q];exact h0) (by rw [lK c J hk',q,fH c J hw,ew,e2])
    omega
  · have en:FO (J v)=H:=by unfold FO;rw [if_pos k1,if_neg (by omega),if_pos p3,q]
    have:=ho.once (v+2) (w+2) (by omega) (by omega) (by rw [fH c J hv,en];exact h0) (by rw [fH c J hv,en,fH c J hw,ew,e2])
    have:v=w:=by omega
    subst this;omega
  · apply lw.2
    rw [←z,←q]
    exact aKB hr (hb.2 r hr).1.1
end Go.Gv
end
noncomputable section
namespace Go.Gv
noncomputable section
variable {b:aA} {c:List Int} {J:Int→aZ} {L:List Ev} {n:Int} (h:Sv b c J L n) (hb:pB b) (hep:Ep b.aC J) {w:Int} (hw:0≤w∧w≤2)
include h hb hep hw
theorem Sv.make{b':aA}{c':List Int}{j':aZ}{L':List Ev}{n':Int}(ow':Ow b' (nm c' (HX J w j')))
    (cv':∀k,0≤k∧k≤1→(PK L' k).Handle=cellAt c' k∧(cellAt c' k≠0→rX b'.Mem.aD (cellAt c' k % 32)=(PK L' k).cV))
    (fr:∀v,0≤v∧v≤2→v≠w→Frm b b' c c' J (HX J w j') v (J v)) (jw:Jv b' c' (HX J w j') (US L' j'.aG) w j')
    (rd:∀m,((J w).dE=true→m≠(J w).aG)→US L' m=US L m) (tr:TrL L') (se:∀e∈L',e.aG≤n') (hn:n≤n')
    (js:j'.dE=true→j'.aG≤n'∧(j'.aG=(J w).aG∧(J w).dE=true∨n < j'.aG)):Sv b' c' (HX J w j') L' n':=by
  refine⟨ow',cv',fun v hv=>?_,tr,se,fun v hv hbv=>?_,fun v u hv hu hbv hbu hvu=>?_⟩
  · by_cases q:v=w
    · subst q;rw [dP];exact jw
    · rw [dY _ _ q]
      refine(h.jv v hv).frame hv hb.1.2.1 (fun g p=>(hep.2 v hv (fun z=>?_) p.1 p.2).1) (fr v hv q) fun bv=>rd _ fun bw=>h.se.2.2 v w hv hw bv bw q
      have:=z.2.2
      rcases g with g | g <;> omega
  · by_cases q:v=w
    · subst q;rw [dP] at hbv ⊢;exact(js hbv).1
    · rw [dY _ _ q] at hbv ⊢
      exact Int.le_trans (h.se.2.1 v hv hbv) hn
  · have key:∀u,0≤u∧u≤2→(J u).dE=true→u≠w→j'.dE=true→j'.aG≠(J u).aG:=fun u hu bu q bw=>by
      rcases(js bw).2 with ⟨a1,a2⟩ | a
      · rw [a1];exact h.se.2.2 w u hw hu a2 bu (fun z=>q z.symm)
      · have:=h.se.2.1 u hu bu;omega
    by_cases q:v=w
    · subst q
      rw [dP] at hbv ⊢
      rw [dY _ _ (fun z=>hvu z.symm)] at hbu ⊢
      exact key u hu hbu (fun z=>hvu z.symm) hbv
    · rw [dY _ _ q] at hbv ⊢
      by_cases q2:u=w
      · subst q2
        rw [dP] at hbu ⊢
        exact fun z=>key v hv hbv q hbu z.symm
      · rw [dY _ _ q2] at hbu ⊢
        exact h.se.2.2 v u hv hu hbv hbu hvu
omit h hb hep in
theorem DW{c':List Int}{j':aZ}{i:Int}(hi:0≤i∧i≤4)(q:i≠w+2)(hc:∀k,0≤k∧k≤1→i=k→cellAt c' k=cellAt c k):nm c' (HX J w j') i=nm c J i:=by
  rcases aAF hi with hk | ⟨v,hv,rfl⟩
  · rw [lK _ _ hk,lK _ _ hk];exact hc i hk rfl
  · rw [fH _ _ hv,fH _ _ hv,dY _ _ (by omega)]
structure Qt (b b':aA) (J:Int→aZ) (w:Int) (j':aZ):Prop where
  mem:b'.Mem=b.Mem
  lim:b'.aO=b.aO
  ep:b.aC.aJ≤b'.aC.aJ
  pin:∀v,0≤v∧v≤2→v≠w→Pinned b'.aC v→Pinned b.aC v∧(b9 b'.aC v).aJ=(b9 b.aC v).aJ
  haz:∀v,0≤v∧v≤2→v≠w→oY b'.m7 v=oY b.m7 v
  name:FO j'=FO (J w)
  old:(J w).Op.Kind=1→(J w).Pc=3→j'.Op.Kind=1∧j'.Pc=3∧j'.Old=(J w).Old∧(j'.Sub.Pc=0∨j'.Sub.E=(J w).Sub.E∧(J w).Sub.Pc≠0∨b.aC.aJ≤j'.Sub.E)
  col:∀v,0≤v∧v≤2→∀H,oY b.m7 v=H→UnJ (J w) v H→UnJ j' v H
omit h hb hep in
theorem Qt.safe{b':aA}{j':aZ}(q:Qt b b' J w j'){e H:Int}(he:e≤b.aC.aJ)(s:o7 b c J e H):o7 b' c (HX J w j') e H:=by
  rcases s with s | ⟨v,hv,k1,p3,o,s⟩ | s
  · exact .inl s
  · refine .inr (.inl ⟨v,hv,?_⟩)
    by_cases z:v=w
    · subst z
      rw [dP]
      obtain⟨a1,a2,a3,a4⟩:=q.old k1 p3
      refine⟨a1,a2,by rw [a3];exact o,?_⟩
      rcases a4 with a4 | ⟨a4,a5⟩ | a4
      · exact .inl a4
      · rcases s with s | s
        · exact absurd s a5
        · exact .inr (by omega)
      · exact .inr (by omega)
    · rw [dY _ _ z];exact⟨k1,p3,o,s⟩
  · rw [←q.lim] at s;exact .inr (.inr s)
omit h hb hep in
theorem Qt.frm{b':aA}{j':aZ}(q:Qt b b' J w j'){v:Int}(hv:0≤v∧v≤2)(hn:v≠w):Frm b b' c c J (HX J w j') v (J v):=by
  refine⟨q.ep,by rw [q.lim],q.pin v hv hn,q.haz v hv hn,fun e H _ he _ s=>q.safe hw he s,fun hz u a ha=>?_,fun e H _ _=>by rw [q.mem],fun _=>by rw [q.mem]⟩
  by_cases z:a=w
  · subst z;rw [dP];exact q.col v hv _ hz (u _ hw)
  · rw [dY _ _ z];exact u a ha
theorem Sv.quiet{b':aA}{j':aZ}(q:Qt b b' J w j')(hB:(J w).dE=true)(hser:j'.aG=(J w).aG){l:List Ev}(hl:l=[]∨∃x,l=[BK w (J w) x])
    (jw:Jv b' c (HX J w j') (US (L++l) j'.aG) w j'):Sv b' c (HX J w j') (L++l) n:=by
  have ow':Ow b' (nm c (HX J w j')):=h.ow.congr q.mem q.lim fun i hi=>by
    by_cases z:i=w+2
    · subst z;rw [fH _ _ hw,fH _ _ hw,dP,q.name]
    · exact DW hw hi z fun _ _ _=>rfl
  have fr:=fun v (hv:0≤v∧v≤2) hn=>q.frm (c:=c) hw hv hn
  have sn:=h.se.2.1 w hw hB
  rcases hl with rfl | ⟨x,rfl⟩
  · rw [List.append_nil] at jw ⊢
    exact h.make hb hep hw ow' (fun k hk=>by rw [q.mem];exact h.cv k hk) fr jw (fun _ _=>rfl) h.tr h.se.1 (Int.le_refl _) fun _=>⟨by omega,.inl ⟨hser,hB⟩⟩
  · have e2:∀k,PK (L ++ [BK w (J w) x]) k=PK L k:=fun k=>by rw [SZ,if_neg (fun z=>by have:=z.1;simp [BK] at this)]
    refine h.make hb hep hw ow' (fun k hk=>by rw [q.mem,e2];exact h.cv k hk) fr jw (fun m hm=>?_) (h.tr.snoc fun z=>by simp [BK] at z) (fun e he=>?_) (Int.le_refl _) fun _=>⟨by omega,.inl ⟨hser,hB⟩⟩
    · rw [PE,if_neg (fun z=>hm hB z.2.symm)]
    · rcases List.mem_append.1 he with z | z
      · exact h.se.1 e z
      · rw [List.mem_singleton.1 z];exact sn
omit h hb hep hw in
theorem PF(j:aZ)(x:Int):US (L ++ [BK w j x]) j.aG=some (BK w j x,PK L j.Op.Cell):=by
  rw [PE,if_pos ⟨rfl,rfl⟩];rfl
end
noncomputable section
variable {b:aA} {c:List Int} {J:Int→aZ} {o:Option (Ev×Ev)} {v:Int} {j:aZ} (hb:j.dE=true)
include hb
theorem EE(k:j.Op.Kind=2∨j.Op.Kind=7)(g:aQB j→Pinned b.aC v→o7 b c J (b9 b.aC v).aJ j.H∧∃x,Saw o j.H x∧(¬aAE j→rX b.Mem.aD (j.H % 32)=x.cV)∧(aAE j→j.cV=x.cV))(t:j.Pc=9∨j.Pc=4→Told o j.Code j.cV):Jv b c J o v j:=
  ⟨fun q=>absurd (hb.symm.trans q) (by decide),fun q=>by omega,fun q=>by omega,fun q=>by omega,fun q=>by omega,fun q=>by omega,g,fun q=>by omega,fun q=>by omega,fun q=>by omega,fun _=>t,fun _ r=>absurd (by unfold Reads;omega) r⟩
theorem OV(k:j.Op.Kind=3)(z1:j.Pc=1∨j.Pc=2∨j.Pc=3→j.H≠0)(z2:j.Pc=2∨j.Pc=3→oY b.m7 v=j.H)(z3:j.Pc=3→o7 b c J 0 j.H∧LP J v j.H∧∃x,Saw o j.H x∧rX b.Mem.aD (j.H % 32)=x.cV)(t:j.Pc=9∨j.Pc=4→Told o j.Code j.cV):Jv b c J o v j:=
  ⟨fun q=>absurd (hb.symm.trans q) (by decide),fun q=>by omega,fun q=>by omega,fun q=>by omega,fun q=>by omega,fun q=>by omega,fun q=>by rcases q with q | q <;> omega,fun _=>z1,fun _=>z2,fun _=>z3,fun _=>t,fun _ r=>absurd (by unfold Reads;omega) r⟩
theorem OW(k:j.Op.Kind=1)(s0:j.Pc=0→j.Sub.Kind=1∧j.Sub.cE=false∧0≤j.Sub.Pc∧j.Sub.Pc≤3)(s1:j.Pc=1∨j.Pc=2→j.H≠0)(s2:j.Pc=2→rX b.Mem.aD (j.H % 32)=j.Op.cV)(s3:j.Pc=3→j.Old≠0∧aV9 b j.Old j.Sub)(n:o=none):Jv b c J o v j:=
  ⟨fun q=>absurd (hb.symm.trans q) (by decide),fun _=>s0,fun _=>s1,fun _=>s2,fun _=>s3,fun q=>by omega,fun q=>by rcases q with q | q <;> omega,fun q=>by omega,fun q=>by omega,fun q=>by omega,fun r=>by unfold Reads at r;omega,fun _ _=>n⟩
theorem OX(k:j.Op.Kind=4∨j.Op.Kind=5∨j.Op.Kind=6)(kk:j.Op.Kind=4→j.Pc=1→aQA b.aC.aJ (cC b.aO v) j.Sub)(n:o=none):Jv b c J o v j:=
  ⟨fun q=>absurd (hb.symm.trans q) (by decide),fun q=>by omega,fun q=>by omega,fun q=>by omega,fun q=>by omega,kk,fun q=>by rcases q with q | q <;> omega,fun q=>by omega,fun q=>by omega,fun q=>by omega,fun r=>by unfold Reads at r;omega,fun _ _=>n⟩
end
theorem FI{j:aZ}(h:j.Pc=0∨j.Pc=1∧j.Op.Kind=2∨j.Pc=4∨j.Pc=9):¬aQB j:=fun g=>by rcases g with g | g <;> omega
theorem LQ{j:aZ}{v H:Int}(h:j.Op.Kind≠4):UnJ j v H:=fun q=>absurd q h
theorem uM{j:aZ}(h:j.Op.Kind≠1):FO j=0:=if_neg h
theorem UT{j:aZ}(h1:j.Pc≠1)(h2:j.Pc≠2)(h3:j.Pc≠3):FO j=0:=by
  unfold FO
  split
  · rw [if_neg (show ¬(j.Pc=1∨j.Pc=2) by omega)]
  · rfl
theorem aS2{j:aZ}(k:j.Op.Kind=1)(p:j.Pc=1∨j.Pc=2):FO j=j.H:=by unfold FO;rw [if_pos k,if_pos p]
theorem nm3{j:aZ}(k:j.Op.Kind=1)(p:j.Pc=3):FO j=j.Old:=by unfold FO;rw [if_pos k,if_neg (by omega),if_pos p]
theorem OY{b:aA}{J:Int→aZ}{w:Int}{j':aZ}(name:FO j'=FO (J w))(old:(J w).Op.Kind≠1∨(J w).Pc≠3)(col:j'.Op.Kind≠4∨j'.Pc≠1):Qt b b J w j':=
  ⟨rfl,rfl,Int.le_refl _,fun _ _ _ p=>⟨p,rfl⟩,fun _ _ _=>rfl,name,fun k p=>by omega,fun _ _ _ _ _=>by rcases col with q | q;exact LQ q;exact fun _ p=>absurd p q⟩
theorem OZ{b:aA}{cl:aC}{J:Int→aZ}{w:Int}{j':aZ}(ep:b.aC.aJ≤cl.aJ)(pin:∀v,0≤v∧v≤2→v≠w→Pinned cl v→Pinned b.aC v∧(b9 cl v).aJ=(b9 b.aC v).aJ)(name:FO j'=FO (J w))(old:(J w).Op.Kind≠1∨(J w).Pc≠3)(col:j'.Op.Kind≠4∨j'.Pc≠1∨j'.Sub.Pc=0):Qt b ⟨b.Mem,cl,b.aO,b.m7⟩ J w j':=
  ⟨rfl,rfl,ep,pin,fun _ _ _=>rfl,name,fun k p=>by omega,fun _ _ _ _ _=>by
    rcases col with q | q | q
    · exact LQ q
    · exact fun _ p=>absurd p q
    · exact fun _ _ _=>by omega⟩
theorem aQC{b:aA}(hc:GX b.aC){w:Int}(hw:0≤w∧w≤2)(s:Sub):∃cl:aC,(OO b w s).1=⟨b.Mem,cl,b.aO,b.m7⟩∧cl.aJ=b.aC.aJ∧∀v,0≤v∧v≤2→v≠w→b9 cl v=b9 b.aC v:=by
  unfold OO GU
  split
  · exact⟨_,rfl,rfl,fun _ _ _=>rfl⟩
  split
  · split
    · refine⟨⟨b.aC.aJ,b.aC.cK.set w.toNat ⟨true,s.E,false,0⟩⟩,rfl,rfl,fun v hv hn=>by rw [uL hc hw hv,if_neg hn]⟩
    · exact⟨_,rfl,rfl,fun _ _ _=>rfl⟩
  split
  · split
    · exact⟨_,rfl,rfl,fun _ _ _=>rfl⟩
    · exact⟨_,rfl,rfl,fun _ _ _=>rfl⟩
  · exact⟨_,rfl,rfl,fun _ _ _=>rfl⟩
theorem aKC{c:aC}(hc:GX c){w:Int}(hw:0≤w∧w≤2):(yC c w).1.aJ=c.aJ∧∀v,0≤v∧v≤2→v≠w→b9 (yC c w).1 v=b9 c v:=by
  unfold yC
  split
  · exact⟨rfl,fun v hv hn=>by rw [uL hc hw hv,if_neg hn]⟩
  · exact⟨rfl,fun _ _ _=>rfl⟩
theorem S1{c c':aC}{v:Int}(h:b9 c' v=b9 c v)(p:Pinned c' v):Pinned c v∧(b9 c' v).aJ=(b9 c v).aJ:=by
  unfold Pinned at *;rw [h] at p;exact⟨p,by rw [h]⟩
theorem aIL{b:aA}(hc:GX b.aC)(s:Sub):∃cl:aC,(l4 b s).1=⟨b.Mem,cl,b.aO,b.m7⟩∧b.aC.aJ≤cl.aJ∧∀v,0≤v∧v≤2→Pinned cl v→Pinned b.aC v∧(b9 cl v).aJ=(b9 b.aC v).aJ:=by
  unfold l4
  split
  · exact⟨_,rfl,Int.le_refl _,fun _ _ p=>⟨p,rfl⟩⟩
  split
  · split
    · rename_i hB
      obtain⟨l1,l2,_⟩:=aF9 hc hB s.E
      have key:b.aC.aJ≤(uU b.aC s.B s.E).1.aJ∧∀v,0≤v∧v≤2→Pinned (uU b.aC s.B s.E).1 v→Pinned b.aC v∧(b9 (uU b.aC s.B s.E).1 v).aJ=(b9 b.aC v).aJ:=⟨by omega,fun v hv p=>by
        obtain⟨a1,a2,a3⟩:=l2 v hv
        exact⟨⟨by rw [←a1];exact p.1,a3 p.2⟩,a2⟩⟩
      split <;> exact⟨_,rfl,key.1,key.2⟩
    · exact⟨_,rfl,Int.le_refl _,fun _ _ p=>⟨p,rfl⟩⟩
  split
  · refine⟨_,rfl,?_,?_⟩
    · unfold SR;split
      · rename_i q;simp only;omega
      · exact Int.le_refl _
    · intro v hv p
      unfold SR at p ⊢
      split
      · rename_i q
        rw [if_pos q] at p
        exact⟨p,rfl⟩
      · rename_i q
        rw [if_neg q] at p
        exact⟨p,rfl⟩
  · exact⟨_,rfl,Int.le_refl _,fun _ _ p=>⟨p,rfl⟩⟩
theorem aCT{z:List Int}(hz:GL z){w v:Int}(hw:0≤w∧w≤2)(hv:0≤v∧v≤2){H:Int}(hh:jA H):oY (J9 z w H) v=if v=w then H else oY z v:=by
  have:=hz.1
  unfold J9 oY
  rw [if_pos hh]
  simp only [List.getD_eq_getElem?_getD,List.getElem?_set]
  by_cases q:v=w
  · subst q;simp [show v.toNat < z.length by omega]
  · rw [if_neg q,if_neg (by omega)]
theorem aS3{z:List Int}(hz:GL z){w v:Int}(hw:0≤w∧w≤2)(hv:0≤v∧v≤2)(hn:v≠w):oY (T7 z w) v=oY z v:=by
  unfold T7
  split
  · rfl
  · unfold oY
    simp only [List.getD_eq_getElem?_getD,List.getElem?_set]
    rw [if_neg (by omega)]
theorem aIM{c:List Int}(h2:c.length=2){k i:Int}(hk:0≤k∧k≤1)(hi:0≤i∧i≤1)(x:Int):cellAt (c.set k.toNat x) i=if i=k then x else cellAt c i:=by
  unfold cellAt
  simp only [List.getD_eq_getElem?_getD,List.getElem?_set]
  by_cases q:i=k
  · subst q;simp [show i.toNat < c.length by omega]
  · rw [if_neg q,if_neg (by omega)]
end Go.Gv
end
noncomputable section
namespace Go.Gv
noncomputable section
variable {s:aE} (hs:yT s) {n:Int} (h:Sv s.aA s.Cells (aM s) s.Log n) (hep:Ep s.aA.aC (aM s)) {w:Int} (hw:0≤w∧w≤2) {j:aZ} (hj:aM s w=j) (hb:j.dE=true) (hjk:kX j.Op∧dQ j.H∧dQ j.Old)
include hs h hep hw hj hb
theorem aAG{pc:Int}(g:aQB j)(l:aAE j):Told (US s.Log j.aG) (hC s.aA.aC w j pc).Code (hC s.aA.aC w j pc).cV:=by
  unfold hC
  by_cases q:(b9 s.aA.aC w).On=true∧(b9 s.aA.aC w).dI=false
  · rw [if_pos q]
    have:=h.jv w hw
    rw [hj] at this
    obtain⟨_,x,⟨e,x1,x2,x3,x4⟩,_,x5⟩:=this.g g q
    refine⟨fun _=>⟨e,x,x1,by rw [x3];exact x4,by rw [x2,x3],(x5 l).symm⟩,fun q=>by simp [bW] at q⟩
  · rw [if_neg q];exact Told.other (by simp [bW]) (by simp [bW])
theorem aED{e H:Int}(sa:o7 s.aA s.Cells (aM s) e H)(h0:H≠0):T6 s.aA.Mem.aD H=rX s.aA.Mem.aD (H % 32):=by
  have l:=sa.live hs.1 h.ow h0
  exact aP6 l.1 (gH l.2.1)
include hjk
theorem aWA(k2:j.Op.Kind=2):Sv (G4 s w j).b (G4 s w j).c (HX (aM s) w (G4 s w j).j) (s.Log++(G4 s w j).l) n:=by
  have hB:(aM s w).dE=true:=by rw [hj];exact hb
  have hc:=hs.1.1.2.1
  have own:=h.jv w hw
  have nk:(aM s w).Op.Kind≠1∨(aM s w).Pc≠3:=.inl (by rw [hj];omega)
  have nm0:∀j':aZ,j'.Op.Kind=j.Op.Kind→FO j'=FO (aM s w):=fun j' q=>by rw [uM (by omega),uM (by rw [hj];omega)]
  have nc:∀j':aZ,j'.Op.Kind=j.Op.Kind→j'.Op.Kind≠4∨j'.Pc≠1:=fun j' q=>.inl (by omega)
  have q0:=fun(j':aZ) (q:j'.Op.Kind=j.Op.Kind)=>OY (b:=s.aA) (J:=aM s) (w:=w) (nm0 j' q) nk (nc j' q)
  have cell:=hjk.1.2.2.1
  have hcv:=h.cv j.Op.Cell cell
  rw [hj] at own
  unfold G4
  by_cases p0:j.Pc=0
  · rw [if_pos p0]
    obtain⟨_,_,_,i4⟩:=hep.1 w hw hB
    rw [hj] at i4
    obtain⟨sk,sd,_⟩:=i4 ⟨hb,.inl k2,p0⟩
    have es:d7 s.aA w j.Sub=OO s.aA w j.Sub:=by unfold d7;simp [sk,sd]
    rw [es]
    obtain⟨cl,e1,e2,e3⟩:=aQC hc hw j.Sub
    simp only [e1]
    refine h.quiet hs.1 hep hw (OZ (by omega) (fun v hv hn p=>S1 (e3 v hv hn) p) (nm0 _ (by split <;> rfl)) nk (.inl (by split <;> (simp only [bW];omega)))) hB (by rw [hj];split <;> rfl) (.inl rfl) ?_
    split
    · exact EE hb (.inl k2) (fun g=>absurd g (FI (.inr (.inl ⟨rfl,k2⟩)))) (fun q=>by simp [bW] at q)
    · exact EE hb (.inl k2) (fun g=>absurd g (FI (.inl p0))) (fun q=>by simp only at q;omega)
  rw [if_neg p0]
  by_cases p1:j.Pc=1
  · rw [if_pos p1]
    by_cases c0:cellAt s.Cells j.Op.Cell=0
    · rw [if_pos c0,c0]
      refine h.quiet hs.1 hep hw (by exact q0 _ rfl) hB (by exact(congrArg aZ.aG hj).symm) (.inr ⟨0,by rw [hj]⟩) ?_
      have rs:=PF (L:=s.Log) (w:=w) j 0
      refine EE hb (.inl k2) (fun g=>absurd g (FI (.inr (.inr (.inl rfl))))) fun _=>⟨fun q=>by simp [bW] at q,fun _=>⟨_,_,rs,by rw [hcv.1,c0],rfl⟩⟩
    · rw [if_neg c0]
      refine h.quiet hs.1 hep hw (by exact q0 _ rfl) hB (by exact(congrArg aZ.aG hj).symm) (.inr ⟨_,by rw [hj]⟩) ?_
      have rs:=PF (L:=s.Log) (w:=w) j (cellAt s.Cells j.Op.Cell)
      refine EE hb (.inl k2) (fun _ _=>⟨.inl ⟨_,cell,rfl⟩,_,⟨_,rs,rfl,hcv.1,c0⟩,fun _=>hcv.2 c0,fun l=>?_⟩) (fun q=>by simp [bW] at q)
      rcases l with ⟨_,l⟩ | ⟨l,_⟩
      · simp [bW] at l
      · simp only [bW] at l;omega
  rw [if_neg p1]
  by_cases p2:j.Pc=2
  · rw [if_pos p2]
    have q:=q0 (bW {j with cV:=T6 s.aA.Mem.aD j.H} 3 0) rfl
    refine h.quiet hs.1 hep hw q hB (by exact(congrArg aZ.aG hj).symm) (.inl rfl) ?_
    rw [List.append_nil]
    refine EE hb (.inl k2) (fun _ p=>?_) (fun q=>by simp [bW] at q)
    obtain⟨sa,x,x1,x2,_⟩:=own.g (.inl ⟨k2,.inl p2⟩) p
    have x2:=x2 fun l=>by rcases l with l | l <;> omega
    have h0:=x1.choose_spec.2.2.2
    refine⟨q.safe hw ((ON hc hw).1.2) sa,x,x1,fun nl=>absurd (.inl ⟨k2,rfl⟩) nl,fun _=>?_⟩
    show T6 s.aA.Mem.aD j.H=x.cV
    rw [aED hs h hep hw hj hb sa h0,x2]
  rw [if_neg p2]
  by_cases p3:j.Pc=3
  · rw [if_pos p3]
    have ct:=aAG hs h hep hw hj hb (pc:=4) (.inl ⟨k2,.inr p3⟩) (.inl ⟨k2,p3⟩)
    have ce:(hC s.aA.aC w j 4).Op=j.Op∧(hC s.aA.aC w j 4).aG=j.aG∧(hC s.aA.aC w j 4).dE=true∧(hC s.aA.aC w j 4).Pc=4:=by unfold hC;split <;> exact⟨rfl,rfl,hb,rfl⟩
    generalize hC s.aA.aC w j 4=j' at ct ce
    refine h.quiet hs.1 hep hw (by exact q0 _ (by rw [ce.1])) hB (by rw [hj];exact ce.2.1) (.inl rfl) ?_
    rw [List.append_nil]
    exact EE ce.2.2.1 (.inl (by rw [ce.1];exact k2)) (fun g=>absurd g (FI (.inr (.inr (.inl ce.2.2.2))))) fun _=>by rw [ce.2.1];exact ct
  rw [if_neg p3]
  by_cases p4:j.Pc=4
  · rw [if_pos p4]
    obtain⟨u1,u2⟩:=aKC hc hw
    refine h.quiet hs.1 hep hw (OZ (by omega) (fun v hv hn p=>S1 (u2 v hv hn) p) (nm0 (bW j 9 j.Code) rfl) nk (.inl (by simp only [bW];omega))) hB (by exact(congrArg aZ.aG hj).symm) (.inl rfl) ?_
    rw [List.append_nil]
    exact EE hb (.inl k2) (fun g=>absurd g (FI (.inr (.inr (.inr rfl))))) fun _=>own.t (.inl k2) (.inr p4)
  rw [if_neg p4]
  refine h.quiet hs.1 hep hw (by exact q0 _ rfl) hB (by exact(congrArg aZ.aG hj).symm) (.inl rfl) ?_
  exact EE hb (.inl k2) (fun g=>absurd g (FI (.inr (.inr (.inr rfl))))) fun _=>Told.other (by simp [bW]) (by simp [bW])
theorem aS4(k7:j.Op.Kind=7):Sv (BD s w j).b (BD s w j).c (HX (aM s) w (BD s w j).j) (s.Log++(BD s w j).l) n:=by
  have hB:(aM s w).dE=true:=by rw [hj];exact hb
  have hc:=hs.1.1.2.1
  have own:=h.jv w hw
  have nk:(aM s w).Op.Kind≠1∨(aM s w).Pc≠3:=.inl (by rw [hj];omega)
  have nm0:∀j':aZ,j'.Op.Kind=j.Op.Kind→FO j'=FO (aM s w):=fun j' q=>by rw [uM (by omega),uM (by rw [hj];omega)]
  have nc:∀j':aZ,j'.Op.Kind=j.Op.Kind→j'.Op.Kind≠4∨j'.Pc≠1:=fun j' q=>.inl (by omega)
  have q0:=fun(j':aZ) (q:j'.Op.Kind=j.Op.Kind)=>OY (b:=s.aA) (J:=aM s) (w:=w) (nm0 j' q) nk (nc j' q)
  have cell:=hjk.1.2.2.1
  have hcv:=h.cv j.Op.Cell cell
  rw [hj] at own
  have fin:∀{j':aZ},j'.Op=j.Op→j'.aG=j.aG→j'.dE=true→j'.Pc=9→Told (US s.Log j.aG) j'.Code j'.cV→Sv s.aA s.Cells (HX (aM s) w j') (s.Log ++ []) n:=fun e1 e2 e3 e4 e5=>by
    refine h.quiet hs.1 hep hw (by exact q0 _ (by rw [e1])) hB (by rw [hj];exact e2) (.inl rfl) ?_
    rw [List.append_nil]
    exact EE e3 (.inr (by rw [e1];exact k7)) (fun g=>absurd g (FI (.inr (.inr (.inr e4))))) fun _=>by rw [e2];exact e5
  unfold BD
  by_cases p0:j.Pc=0
  · rw [if_pos p0]
    split
    · exact fin rfl rfl hb rfl (Told.other (by simp [bW]) (by simp [bW]))
    split
    · exact fin rfl rfl hb rfl (Told.other (by simp [bW]) (by simp [bW]))
    by_cases c0:cellAt s.Cells j.Op.Cell=0
    · rw [if_pos c0,c0]
      refine h.quiet hs.1 hep hw (by exact q0 _ rfl) hB (by exact(congrArg aZ.aG hj).symm) (.inr ⟨0,by rw [hj]⟩) ?_
      have rs:=PF (L:=s.Log) (w:=w) j 0
      refine EE hb (.inr k7) (fun g=>absurd g (FI (.inr (.inr (.inr rfl))))) fun _=>⟨fun q=>by simp [bW] at q,fun _=>⟨_,_,rs,by rw [hcv.1,c0],rfl⟩⟩
    · rw [if_neg c0]
      refine h.quiet hs.1 hep hw (by exact q0 _ rfl) hB (by exact(congrArg aZ.aG hj).symm) (.inr ⟨_,by rw [hj]⟩) ?_
      have rs:=PF (L:=s.Log) (w:=w) j (cellAt s.Cells j.Op.Cell)
      refine EE hb (.inr k7) (fun _ _=>⟨.inl ⟨_,cell,rfl⟩,_,⟨_,rs,rfl,hcv.1,c0⟩,fun _=>hcv.2 c0,fun l=>?_⟩) (fun q=>by simp [bW] at q)
      rcases l with ⟨l,_⟩ | ⟨_,l⟩
      · simp only [bW] at l;omega
      · simp [bW] at l
  rw [if_neg p0]
  by_cases p1:j.Pc=1
  · rw [if_pos p1]
    have q:=q0 (bW {j with cV:=T6 s.aA.Mem.aD j.H} 2 0) rfl
    refine h.quiet hs.1 hep hw q hB (by exact(congrArg aZ.aG hj).symm) (.inl rfl) ?_
    rw [List.append_nil]
    refine EE hb (.inr k7) (fun _ p=>?_) (fun q=>by simp [bW] at q)
    obtain⟨sa,x,x1,x2,_⟩:=own.g (.inr ⟨k7,.inl p1⟩) p
    have x2:=x2 fun l=>by rcases l with l | l <;> omega
    have h0:=x1.choose_spec.2.2.2
    refine⟨q.safe hw ((ON hc hw).1.2) sa,x,x1,fun nl=>absurd (.inr ⟨k7,rfl⟩) nl,fun _=>?_⟩
    show T6 s.aA.Mem.aD j.H=x.cV
    rw [aED hs h hep hw hj hb sa h0,x2]
  rw [if_neg p1]
  by_cases p2:j.Pc=2
  · rw [if_pos p2]
    have ct:=aAG hs h hep hw hj hb (pc:=9) (.inr ⟨k7,.inr p2⟩) (.inr ⟨k7,p2⟩)
    have ce:(hC s.aA.aC w j 9).Op=j.Op∧(hC s.aA.aC w j 9).aG=j.aG∧(hC s.aA.aC w j 9).dE=true∧(hC s.aA.aC w j 9).Pc=9:=by unfold hC;split <;> exact⟨rfl,rfl,hb,rfl⟩
    exact fin ce.1 ce.2.1 ce.2.2.1 ce.2.2.2 ct
  rw [if_neg p2]
  exact fin rfl rfl hb rfl (Told.other (by simp [bW]) (by simp [bW]))
theorem aWB(k3:j.Op.Kind=3):Sv (LM s w j).b (LM s w j).c (HX (aM s) w (LM s w j).j) (s.Log++(LM s w j).l) n:=by
  have hB:(aM s w).dE=true:=by rw [hj];exact hb
  have hc:=hs.1.1.2.1
  have hz:=hs.1.1.2.2.2
  have own:=h.jv w hw
  have nk:(aM s w).Op.Kind≠1∨(aM s w).Pc≠3:=.inl (by rw [hj];omega)
  have nm0:∀j':aZ,j'.Op.Kind=j.Op.Kind→FO j'=FO (aM s w):=fun j' q=>by rw [uM (by omega),uM (by rw [hj];omega)]
  have nc:∀j':aZ,j'.Op.Kind=j.Op.Kind→j'.Op.Kind≠4∨j'.Pc≠1:=fun j' q=>.inl (by omega)
  have q0:=fun(j':aZ) (q:j'.Op.Kind=j.Op.Kind)=>OY (b:=s.aA) (J:=aM s) (w:=w) (nm0 j' q) nk (nc j' q)
  have cell:=hjk.1.2.2.1
  have hcv:=h.cv j.Op.Cell cell
  rw [hj] at own
  unfold LM
  by_cases p0:j.Pc=0
  · rw [if_pos p0]
    by_cases c0:cellAt s.Cells j.Op.Cell=0
    · rw [if_pos c0]
      refine h.quiet hs.1 hep hw (by exact q0 _ rfl) hB (by exact(congrArg aZ.aG hj).symm) (.inr ⟨0,by rw [hj]⟩) ?_
      have rs:=PF (L:=s.Log) (w:=w) j 0
      exact OV hb k3 (fun q=>by simp [bW] at q) (fun q=>by simp [bW] at q) (fun q=>by simp [bW] at q) fun _=>⟨fun q=>by simp [bW] at q,fun _=>⟨_,_,rs,by rw [hcv.1,c0],rfl⟩⟩
    · rw [if_neg c0]
      refine h.quiet hs.1 hep hw (by exact q0 _ rfl) hB (by exact(congrArg aZ.aG hj).symm) (.inl rfl) ?_
      exact OV hb k3 (fun _=>c0) (fun q=>by simp [bW] at q) (fun q=>by simp [bW] at q) (fun q=>by simp [bW] at q)
  rw [if_neg p0]
  by_cases p1:j.Pc=1
  · rw [if_pos p1]
    have h0:=own.z1 k3 (.inl p1)
    have hh:jA j.H:=hjk.2.1.resolve_left h0
    have q:Qt s.aA ⟨s.aA.Mem,s.aA.aC,s.aA.aO,J9 s.aA.m7 w j.H⟩ (aM s) w (bW j 2 0):=⟨rfl,rfl,Int.le_refl _,fun _ _ _ p=>⟨p,rfl⟩,fun v hv hn=>by rw [aCT hz hw hv hh,if_neg hn],nm0 _ rfl,fun k p=>by omega,fun _ _ _ _ _=>LQ (by simp only [bW];omega)⟩
    refine h.quiet hs.1 hep hw q hB (by exact(congrArg aZ.aG hj).symm) (.inl rfl) ?_
    exact OV hb k3 (fun _=>h0) (fun _=>by rw [aCT hz hw hw hh,if_pos rfl];rfl) (fun q=>by simp [bW] at q) (fun q=>by simp [bW] at q)
  rw [if_neg p1]
  by_cases p2:j.Pc=2
  · rw [if_pos p2]
    by_cases ce:cellAt s.Cells j.Op.Cell=j.H
    · rw [if_pos ce]
      have h0:=own.z1 k3 (.inr (.inl p2))
      refine h.quiet hs.1 hep hw (by exact q0 _ rfl) hB (by exact(congrArg aZ.aG hj).symm) (.inr ⟨j.H,by rw [hj]⟩) ?_
      have rs:=PF (L:=s.Log) (w:=w) j j.H
      refine OV hb k3 (fun _=>h0) (fun _=>own.z2 k3 (.inl p2)) (fun _=>⟨.inl ⟨_,cell,ce⟩,fun a ha=>?_,_,⟨_,rs,rfl,by rw [hcv.1,ce];rfl,h0⟩,?_⟩) (fun q=>by simp [bW] at q)
      · by_cases z:a=w
        · subst z;rw [dP];exact LQ (by simp only [bW];omega)
        · rw [dY _ _ z]
          intro k4 a1 aH
          simp only [bW] at aH
          obtain⟨_,_,ck⟩:=(h.jv a ha).k k4 a1
          have hl:=(h.ow.live j.Op.Cell (by omega) (by rw [lK _ _ cell,ce];exact h0)).2
          rw [lK _ _ cell,ce] at hl
          have no:∀{l},DV (cC s.aA.aO a) l→l.H=j.H→False:=fun{l} at_ e=>by
            obtain⟨b1,b2,b3⟩:=at_
            have hm:=OR hs.1.1.2.2.1 ha (Z4 (l:=cC s.aA.aO a) (k:=l.Row) ⟨b1,b2⟩)
            apply hl
            rw [←e,←b3]
            exact aKB hm (hs.1.2 _ hm).1.1
          rcases ck with ck | ⟨_,ck | ck | ck⟩
          · exact⟨fun z=>by omega,by omega⟩
          · exact⟨fun z=>by omega,by omega⟩
          · exact absurd (no ck.2.2.1 aH) id
          · exact absurd (no ck.2.1 aH) id
      · show rX s.aA.Mem.aD (j.H % 32)=_
        rw [←ce];exact hcv.2 (by rw [ce];exact h0)
    · rw [if_neg ce]
      refine h.quiet hs.1 hep hw (by exact q0 _ rfl) hB (by exact(congrArg aZ.aG hj).symm) (.inl rfl) ?_
      exact OV hb k3 (fun q=>by simp [bW] at q) (fun q=>by simp [bW] at q) (fun q=>by simp [bW] at q) (fun q=>by simp [bW] at q)
  rw [if_neg p2]
  by_cases p3:j.Pc=3
  · rw [if_pos p3]
    refine h.quiet hs.1 hep hw (by exact q0 _ rfl) hB (by exact(congrArg aZ.aG hj).symm) (.inl rfl) ?_
    rw [List.append_nil]
    obtain⟨sa,u,x,x1,x2⟩:=own.z3 k3 p3
    obtain⟨e,y1,y2,y3,h0⟩:=x1
    refine OV hb k3 (fun q=>by simp [bW] at q) (fun q=>by simp [bW] at q) (fun q=>by simp [bW] at q) fun _=>⟨fun _=>⟨e,x,y1,by rw [y3];exact h0,by rw [y2,y3],?_⟩,fun q=>by simp [bW] at q⟩
    show x.cV=T6 s.aA.Mem.aD j.H
    rw [aED hs h hep hw hj hb sa h0,x2]
  rw [if_neg p3]
  by_cases p4:j.Pc=4
  · rw [if_pos p4]
    have q:Qt s.aA ⟨s.aA.Mem,s.aA.aC,s.aA.aO,T7 s.aA.m7 w⟩ (aM s) w (bW j 9 j.Code):=⟨rfl,rfl,Int.le_refl _,fun _ _ _ p=>⟨p,rfl⟩,fun v hv hn=>aS3 hz hw hv hn,nm0 _ rfl,fun k p=>by omega,fun _ _ _ _ _=>LQ (by simp only [bW];omega)⟩
    refine h.quiet hs.1 hep hw q hB (by exact(congrArg aZ.aG hj).symm) (.inl rfl) ?_
    rw [List.append_nil]
    exact OV hb k3 (fun q=>by simp [bW] at q) (fun q=>by simp [bW] at q) (fun q=>by simp [bW] at q) fun _=>own.t (.inr (.inl k3)) (.inr p4)
  rw [if_neg p4]
  refine h.quiet hs.1 hep hw (by exact q0 _ rfl) hB (by exact(congrArg aZ.aG hj).symm) (.inl rfl) ?_
  exact OV hb k3 (fun q=>by simp [bW] at q) (fun q=>by simp [bW] at q) (fun q=>by simp [bW] at q) fun _=>Told.other (by simp [bW]) (by simp [bW])
end
end Go.Gv
end
noncomputable section
namespace Go.Gv
theorem map_inj{α:Type}{f:α→Int}:∀{l:List α},(l.map f).Nodup→∀x∈l,∀y∈l,f x=f y→x=y
  | [],_,x,hx,_,_,_=>by cases hx
  | a :: t, h, x, hx, y, hy, e => by
    rw [List.map_cons,List.nodup_cons] at h
    rcases List.mem_cons.1 hx with ex | hx
    · rcases List.mem_cons.1 hy with ey | hy
      · rw [ex,ey]
      · exact absurd (List.mem_map.2 ⟨y,hy,by rw [←e,ex]⟩) h.1
    · rcases List.mem_cons.1 hy with ey | hy
      · exact absurd (List.mem_map.2 ⟨x,hx,by rw [e,ey]⟩) h.1
      · exact map_inj h.2 x hx y hy e
theorem aAH{l:List aY}(h3:l.length=3){w v:Int}(hw:0≤w∧w≤2)(hv:0≤v∧v≤2)(hn:v≠w)(x:aY):cC (l.set w.toNat x) v=cC l v:=by
  unfold cC
  simp only [List.getD_eq_getElem?_getD,List.getElem?_set]
  rw [if_neg (by omega)]
theorem aQD{l:List aY}(hl:uS l){w:Int}(hw:0≤w∧w≤2){x r:dA}:r∈bZ (l.set w.toNat ⟨cC l w ++ [x]⟩)↔r∈bZ l∨r=x:=by
  have h3:=hl.1
  have kx:w.toNat < l.length:=by omega
  have hrow:l[w.toNat].Rows=cC l w:=by
    have:=B7 hl hw
    rw [fD hw.1 (by omega)] at this
    injection this with this
    rw [this]
  rw [BZ kx,yQ kx,hrow]
  simp only [List.mem_append,List.mem_singleton]
  constructor
  · rintro(a | (a | a) | a)
    · exact .inl (.inl a)
    · exact .inl (.inr (.inl a))
    · exact .inr a
    · exact .inl (.inr (.inr a))
  · rintro((a | a | a) | a)
    · exact .inl a
    · exact .inr (.inl (.inl a))
    · exact .inr (.inr a)
    · exact .inr (.inl (.inr a))
noncomputable section
variable {s:aE} (hs:yT s) {n:Int} (h:Sv s.aA s.Cells (aM s) s.Log n) (hep:Ep s.aA.aC (aM s)) {w:Int} (hw:0≤w∧w≤2) {j:aZ} (hj:aM s w=j) (hb:j.dE=true) (hjk:kX j.Op∧dQ j.H∧dQ j.Old)
include hs h hep hw hj hb
theorem aGJ{b':aA}(hl:b'.aO=s.aA.aO){j':aZ}(h3:(aM s w).Pc≠3∨(aM s w).Op.Kind≠1){e H:Int}(sa:o7 s.aA s.Cells (aM s) e H):o7 b' s.Cells (HX (aM s) w j') e H:=by
  rcases sa with sa | ⟨v,hv,k1,p3,o⟩ | sa
  · exact .inl sa
  · have z:v≠w:=fun z=>by subst z;omega
    exact .inr (.inl ⟨v,hv,by rw [dY _ _ z];exact⟨k1,p3,o⟩⟩)
  · rw [←hl] at sa;exact .inr (.inr sa)
theorem aEE{j':aZ}(hk:j'.Op.Kind≠4){v H:Int}(u:LP (aM s) v H):LP (HX (aM s) w j') v H:=fun a ha=>by
  by_cases z:a=w
  · subst z;rw [dP];exact LQ hk
  · rw [dY _ _ z];exact u a ha
include hjk
theorem aWC(k1:j.Op.Kind=1):Sv (I0 s w j).b (I0 s w j).c (HX (aM s) w (I0 s w j).j) (s.Log++(I0 s w j).l) n:=by
  have hB:(aM s w).dE=true:=by rw [hj];exact hb
  have hc:=hs.1.1.2.1
  have hm:=hs.1.1.1
  have own:=h.jv w hw
  have cell:=hjk.1.2.2.1
  have hcv:=h.cv j.Op.Cell cell
  have hval:0≤j.Op.cV∧j.Op.cV≤65535:=by have:=hjk.1.2.2.2;rw [if_pos k1] at this;exact this.2
  have sn:=h.se.2.1 w hw hB
  rw [hj] at own sn
  have rn:=own.n hb (by unfold Reads;omega)
  have i4:(w+2:Int) ≥ 0∧w+2≤4:=by omega
  unfold I0
  by_cases p0:j.Pc=0
  · rw [if_pos p0]
    obtain⟨sk,sd,sp⟩:=own.s0 k1 p0
    obtain⟨e1,e2,e3,e4⟩:=aS0 hm hw sk sd sp
    have eb:(d7 s.aA w j.Sub).1=⟨(d7 s.aA w j.Sub).1.Mem,s.aA.aC,s.aA.aO,s.aA.m7⟩:=by rw [←e1,←e2,←e3]
    have n0:FO (aM s w)=0:=by rw [hj];exact UT (by omega) (by omega) (by omega)
    have nk:(aM s w).Op.Kind≠1∨(aM s w).Pc≠3:=.inr (by rw [hj];omega)
    generalize hr:d7 s.aA w j.Sub=r at e1 e2 e3 e4 eb
    rcases e4 with ⟨m0,m1⟩ | ⟨d,c0,hn,lv,tk⟩
    · rw [m0] at eb
      have eb':r.1=s.aA:=by rw [eb]
      have q:=fun(j':aZ) (hk:j'.Op.Kind=j.Op.Kind) (hp:j'.Pc=0∨j'.Pc=9)=>OY (b:=s.aA) (J:=aM s) (w:=w) (j':=j') (by rw [n0,UT (by omega) (by omega) (by omega)]) nk (.inl (by omega))
      rcases m1 with ⟨d,c0⟩ | ⟨d,m1⟩
      · rw [if_pos d,if_pos c0,eb']
        refine h.quiet hs.1 hep hw (by exact q _ rfl (.inr rfl)) hB (by exact(congrArg aZ.aG hj).symm) (.inl rfl) ?_
        rw [List.append_nil]
        exact OW hb k1 (fun q=>by simp [bW] at q) (fun q=>by simp [bW] at q) (fun q=>by simp [bW] at q) (fun q=>by simp [bW] at q) rn
      · rw [d,if_neg (by simp),eb']
        refine h.quiet hs.1 hep hw (by exact q _ rfl (.inl p0)) hB (by rw [hj]) (.inl rfl) ?_
        rw [List.append_nil]
        exact OW hb k1 (fun _=>⟨m1.1,d,m1.2⟩) (fun q=>by simp only at q;omega) (fun q=>by simp only at q;omega) (fun q=>by simp only at q;omega) rn
    · rw [if_pos d,if_neg (by omega),if_pos hn,List.append_nil]
      have h0:r.2.Out≠0:=by unfold jA at hn;omega
      have nj:FO (bW {j with Sub:=r.2,H:=r.2.Out} 1 0)=r.2.Out:=aS2 k1 (.inl rfl)
      have dat:∀H,gY s.aA.Mem H→rX r.1.Mem.aD (H % 32)=rX s.aA.Mem.aD (H % 32):=fun H hl=>(tk.same _ hl.2.1).2
      refine h.make hs.1 hep hw ?_ (fun k hk=>?_) (fun v hv hn=>⟨by rw [e1];exact Int.le_refl _,by rw [e2],fun p=>by rw [e1] at p ⊢;exact⟨p,rfl⟩,by rw [e3],fun e H _ _ _ sa=>aGJ hs h hep hw hj hb e2 nk.symm sa,fun _ u=>aEE hs h hep hw hj hb (by simp only [bW];omega) u,fun e H sa hH=>dat H (sa.live hs.1 h.ow hH),fun hH=>?_⟩) ?_ (fun _ _=>rfl) h.tr h.se.1 (Int.le_refl _) fun _=>⟨sn,.inl ⟨by rw [hj];rfl,hB⟩⟩
      · refine h.ow.aZH hs.1 e2 tk lv (i:=w+2) ⟨by omega,by omega⟩ (by rw [fH _ _ hw,n0]) (by rw [fH _ _ hw,dP,nj]) fun i hi q=>DW hw hi q fun _ _ _=>rfl
      · refine⟨(h.cv k hk).1,fun q=>?_⟩
        have l:=(h.ow.live k (by omega) (by rw [lK _ _ hk];exact q)).1
        rw [lK _ _ hk] at l
        rw [dat _ l];exact(h.cv k hk).2 q
      · have l:=(h.ow.live (v+2) (by omega) (by rw [fH _ _ hv];exact hH)).1
        rw [fH _ _ hv] at l
        exact dat _ l
      · exact OW hb k1 (fun q=>by simp [bW] at q) (fun _=>h0) (fun q=>by simp [bW] at q) (fun q=>by simp [bW] at q) rn
  rw [if_neg p0]
  by_cases p1:j.Pc=1
  · rw [if_pos p1]
    have nk:(aM s w).Op.Kind≠1∨(aM s w).Pc≠3:=.inr (by rw [hj];omega)
    have hH:=own.s1 k1 (.inl p1)
    have nw:FO (aM s w)=j.H:=by rw [hj];exact aS2 k1 (.inl p1)
    have lv:=(h.ow.live (w+2) (by omega) (by rw [fH _ _ hw,nw];exact hH)).1
    rw [fH _ _ hw,nw] at lv
    obtain⟨c0,st⟩:=aGG hm lv hval
    rw [c0,if_pos rfl,List.append_nil]
    have nj:FO (bW j 2 0)=j.H:=aS2 (j:=bW j 2 0) k1 (.inr rfl)
    have dat:∀H,gY s.aA.Mem H→H % 32≠j.H % 32→rX (tL s.aA.Mem j.H j.Op.cV).1.aD (H % 32)=rX s.aA.Mem.aD (H % 32):=fun H hl q=>by rw [st.dat _ (gH hl.2.1),if_neg q]
    have gen:∀H,gY s.aA.Mem H→gR (tL s.aA.Mem j.H j.Op.cV).1.aD (H % 32)=gR s.aA.Mem.aD (H % 32):=fun H hl=>st.gen _ (gH hl.2.1)
    have ap:∀i,0≤i∧i≤4→i≠w+2→nm s.Cells (aM s) i≠0→nm s.Cells (aM s) i % 32≠j.H % 32:=fun i hi q hn e=>by
      have l:=(h.ow.live i hi hn).1
      have:=aAD l lv e
      exact q (h.ow.once i (w+2) hi (by omega) hn (by rw [fH _ _ hw,nw];exact this))
    refine h.make hs.1 hep hw ?_ (fun k hk=>?_) (fun v hv hn=>⟨Int.le_refl _,rfl,fun p=>⟨p,rfl⟩,rfl,fun e H _ _ _ sa=>aGJ hs h hep hw hj hb rfl nk.symm sa,fun _ u=>aEE hs h hep hw hj hb (by simp only [bW];omega) u,fun e H sa hH'=>?_,fun hH'=>?_⟩) ?_ (fun _ _=>rfl) h.tr h.se.1 (Int.le_refl _) fun _=>⟨sn,.inl ⟨by rw [hj];rfl,hB⟩⟩
    · have he:∀i,0≤i∧i≤4→nm s.Cells (HX (aM s) w (bW j 2 0)) i=nm s.Cells (aM s) i:=fun i hi=>by
        by_cases z:i=w+2
        · subst z;rw [fH _ _ hw,fH _ _ hw,dP,nj,nw]
        · exact DW hw hi z fun _ _ _=>rfl
      refine⟨fun i hi hn=>?_,fun i k hi hk hn e=>?_,fun t ht hh=>?_⟩
      · rw [he i hi] at hn ⊢
        obtain⟨a,b⟩:=h.ow.live i hi hn
        exact⟨⟨a.1,by rw [st.state];exact a.2.1,by rw [gen _ a];exact a.2.2⟩,b⟩
      · rw [he i hi] at hn
        rw [he i hi,he k hk] at e
        exact h.ow.once i k hi hk hn e
      · rw [st.state] at ht
        obtain⟨i,a,b,c⟩:=h.ow.all t ht hh
        exact⟨i,a,by rw [he i a];exact b,by rw [he i a];exact c⟩
    · refine⟨(h.cv k hk).1,fun q=>?_⟩
      have hn:nm s.Cells (aM s) k≠0:=by rw [lK _ _ hk];exact q
      have l:=(h.ow.live k (by omega) hn).1
      have a:=ap k (by omega) (by omega) hn
      rw [lK _ _ hk] at l a
      show rX (tL s.aA.Mem j.H j.Op.cV).1.aD _=_
      rw [dat _ l a];exact(h.cv k hk).2 q
    · have l:=sa.live hs.1 h.ow hH'
      have a:=sa.apart hs.1 h.ow hH' hw (by rw [hj];exact k1) (by rw [hj];exact .inl p1) (by rw [hj];exact hH)
      rw [hj] at a
      exact dat _ l a
    · have hn':nm s.Cells (aM s) (v+2)≠0:=by rw [fH _ _ hv];exact hH'
      have l:=(h.ow.live (v+2) (by omega) hn').1
      have a:=ap (v+2) (by omega) (by omega) hn'
      rw [fH _ _ hv] at l a
      exact dat _ l a
    · refine OW hb k1 (fun q=>by simp [bW] at q) (fun _=>hH) (fun _=>?_) (fun q=>by simp [bW] at q) rn
      show rX (tL s.aA.Mem j.H j.Op.cV).1.aD (j.H % 32)=j.Op.cV
      rw [st.dat _ (gH lv.2.1),if_pos rfl]
  rw [if_neg p1]
  by_cases p2:j.Pc=2
  · rw [if_pos p2]
    have hH:=own.s1 k1 (.inr p2)
    have nw:FO (aM s w)=j.H:=by rw [hj];exact aS2 k1 (.inr p2)
    have c2:=hs.2.1
    have cs:=fun i (hi:0≤i∧i≤1)=>aIM (c:=s.Cells) c2 cell hi j.H
    have je:∃j',(if cellAt s.Cells j.Op.Cell=0 then bW {j with Old:=0} 9 0 else bW {j with Sub:=vB 2 (cellAt s.Cells j.Op.Cell),Old:=cellAt s.Cells j.Op.Cell} 3 0)=j'∧FO j'=cellAt s.Cells j.Op.Cell∧j'.Op=j.Op∧j'.aG=j.aG∧j'.dE=true∧(cellAt s.Cells j.Op.Cell≠0→j'.Pc=3∧j'.Old=cellAt s.Cells j.Op.Cell∧j'.Sub.Pc=0) ∧
        ((cellAt s.Cells j.Op.Cell=0∧j'.Pc=9)∨j'.Pc=3∧j'.Old≠0∧aV9 s.aA j'.Old j'.Sub):=by
      by_cases c0:cellAt s.Cells j.Op.Cell=0
      · exact⟨bW {j with Old:=0} 9 0,by rw [if_pos c0],by rw [c0];exact UT (by simp [bW]) (by simp [bW]) (by simp [bW]),rfl,rfl,hb,fun z=>absurd c0 z,.inl ⟨c0,rfl⟩⟩
      · exact⟨bW {j with Sub:=vB 2 (cellAt s.Cells j.Op.Cell),Old:=cellAt s.Cells j.Op.Cell} 3 0,by rw [if_neg c0],nm3 k1 rfl,rfl,rfl,hb,fun _=>⟨rfl,rfl,rfl⟩,.inr ⟨rfl,c0,rfl,rfl,rfl,.inl rfl⟩⟩
    obtain⟨j',ej,nj,jo,jse,jb,j3,jc⟩:=je
    rw [ej]
    generalize hE:(⟨2,w,j.aG,j.Op.Cell,j.H,j.Op.cV,0⟩:Ev)=E
    have eK:E.Kind=2:=by rw [←hE]
    have eC:E.Cell=j.Op.Cell:=by rw [←hE]
    have eH:E.Handle=j.H:=by rw [←hE]
    have eV:E.cV=j.Op.cV:=by rw [←hE]
    have eS:E.aG=j.aG:=by rw [←hE]
    have sE:∀k,PK (s.Log ++ [E]) k=if k=j.Op.Cell then E else PK s.Log k:=fun k=>by
      rw [SZ,eK,eC]
      by_cases z:k=j.Op.Cell
      · rw [if_pos ⟨rfl,z.symm⟩,if_pos z]
      · rw [if_neg (fun q=>z q.2.symm),if_neg z]
    have rE:∀m,US (s.Log ++ [E]) m=US s.Log m:=fun m=>by rw [PE,if_neg (fun z=>by have:=z.1;omega)]
    have safe:∀e H,H≠0→o7 s.aA s.Cells (aM s) e H→o7 s.aA (s.Cells.set j.Op.Cell.toNat j.H) (HX (aM s) w j') e H:=fun e H h0 sa=>by
      rcases sa with ⟨k,hk,q⟩ | ⟨v,hv,v1,v2,v3⟩ | sa
      · by_cases z:k=j.Op.Cell
        · subst z
          obtain⟨a1,a2,a3⟩:=j3 (by rw [q];exact h0)
          exact .inr (.inl ⟨w,hw,by rw [dP,jo];exact⟨k1,a1,by rw [a2,q],.inl a3⟩⟩)
        · exact .inl ⟨k,hk,by rw [cs k hk,if_neg z];exact q⟩
      · have z:v≠w:=fun z=>by subst z;rw [hj] at v2;omega
        exact .inr (.inl ⟨v,hv,by rw [dY _ _ z];exact⟨v1,v2,v3⟩⟩)
      · exact .inr (.inr sa)
    show Sv s.aA (s.Cells.set j.Op.Cell.toNat j.H) (HX (aM s) w j') (s.Log ++ [E]) n
    refine h.make hs.1 hep hw ?_ (fun k hk=>?_) (fun v hv hn=>⟨Int.le_refl _,rfl,fun p=>⟨p,rfl⟩,rfl,fun e H h0 _ _ sa=>safe e H h0 sa,fun _ u=>aEE hs h hep hw hj hb (by rw [jo];omega) u,fun _ _ _ _=>rfl,fun _=>rfl⟩) ?_ (fun m _=>rE m) (h.tr.snoc fun z=>by omega) (fun e he=>?_) (Int.le_refl _) fun _=>⟨by rw [jse];exact sn,.inl ⟨by rw [hj];exact jse,hB⟩⟩
    · refine h.ow.perm rfl rfl (fun i=>if i=j.Op.Cell then w+2 else if i=w+2 then j.Op.Cell else i) (fun i hi=>?_) (fun i=>?_) (fun i hi=>?_)
      · (try simp only);split <;> (try split) <;> omega
      · by_cases a:i=j.Op.Cell
        · simp only [if_pos a,if_neg (show ¬w+2=j.Op.Cell by omega),if_true];omega
        · by_cases b:i=w+2
          · simp only [if_neg a,if_pos b,if_true];omega
          · simp only [if_neg a,if_neg b]
      · (try simp only)
        by_cases a:i=j.Op.Cell
        · rw [if_pos a,a,lK _ _ cell,cs _ cell,if_pos rfl,fH _ _ hw,nw]
        · rw [if_neg a]
          by_cases b:i=w+2
          · rw [if_pos b,b,fH _ _ hw,dP,nj,lK _ _ cell]
          · rw [if_neg b]
            exact DW hw hi b fun k hk e=>by rw [cs k hk,if_neg (by omega)]
    · rw [sE k,cs k hk]
      by_cases z:k=j.Op.Cell
      · simp only [if_pos z]
        exact⟨eH,fun _=>by rw [eV];exact own.s2 k1 p2⟩
      · simp only [if_neg z];exact h.cv k hk
    · rw [rE,jse]
      have p93:j'.Pc=9∨j'.Pc=3:=jc.imp And.right And.left
      refine OW jb (by rw [jo];exact k1) (fun q=>by omega) (fun q=>by omega) (fun q=>by omega) (fun q=>?_) rn
      rcases jc with ⟨_,z⟩ | ⟨_,z⟩
      · omega
      · exact z
    · rcases List.mem_append.1 he with z | z
      · exact h.se.1 e z
      · rw [List.mem_singleton.1 z,eS];exact sn
  rw [if_neg p2]
  by_cases p3:j.Pc=3
  · rw [if_pos p3]
    obtain⟨o0,sk,sd,sa,sp⟩:=own.s3 k1 p3
    have es:d7 s.aA w j.Sub=C9 s.aA w j.Sub:=by unfold d7;simp [sk,sd]
    have nw:FO (aM s w)=j.Old:=by rw [hj];exact nm3 k1 p3
    have lo:=h.ow.live (w+2) (by omega) (by rw [fH _ _ hw,nw];exact o0)
    rw [fH _ _ hw,nw] at lo
    rw [es]
    unfold C9
    rcases sp with sp | ⟨sp,se0,se1⟩
    · simp only [if_pos sp,sd,aL,if_false]
      have q:Qt s.aA s.aA (aM s) w {j with Sub:={j.Sub with Pc:=1,E:=s.aA.aC.aJ,cE:=false}}:=⟨rfl,rfl,Int.le_refl _,fun _ _ _ p=>⟨p,rfl⟩,fun _ _ _=>rfl,(by rw [nw];exact nm3 (j:={j with Sub:={j.Sub with Pc:=1,E:=s.aA.aC.aJ,cE:=false}}) k1 p3),fun _ _=>⟨k1,p3,by rw [hj],.inr (.inr (Int.le_refl _))⟩,fun _ _ _ _ _=>LQ (by simp only;omega)⟩
      refine h.quiet hs.1 hep hw q hB (by rw [hj]) (.inl rfl) ?_
      rw [List.append_nil]
      exact OW hb k1 (fun q=>by simp only at q;omega) (fun q=>by simp only at q;omega) (fun q=>by simp only at q;omega) (fun _=>⟨o0,sk,rfl,sa,.inr ⟨rfl,hc.1.1,Int.le_refl _⟩⟩) rn
    · have hcond:gY s.aA.Mem j.Sub.A∧¬BG s.aA.aO (j.Sub.A % 32):=by rw [sa];exact lo
      simp only [if_neg (show ¬j.Sub.Pc=0 by omega),if_pos sp,if_pos (show 0≤j.Sub.E∧j.Sub.E≤s.aA.aC.aJ from ⟨se0,se1⟩),if_pos hcond,pC,if_true,List.append_nil]
      have hL:=hs.1.1.2.2.1
      have fa:=fun r=>aQD (l:=s.aA.aO) hL hw (x:=⟨j.Sub.A,j.Sub.E⟩) (r:=r)
      have n9:∀sub,FO (bW {j with Sub:=sub} 9 0)=0:=fun sub=>UT (by simp [bW]) (by simp [bW]) (by simp [bW])
      have ro:=fun v (hv:0≤v∧v≤2) hn=>aAH hL.1 hw hv hn ⟨cC s.aA.aO w ++ [⟨j.Sub.A,j.Sub.E⟩]⟩
      generalize hN:s.aA.aO.set w.toNat ⟨cC s.aA.aO w ++ [⟨j.Sub.A,j.Sub.E⟩]⟩=NL at fa ro
      refine h.make hs.1 hep hw ?_ (fun k hk=>h.cv k hk) (fun v hv hn=>⟨Int.le_refl _,ro v hv hn,fun p=>⟨p,rfl⟩,rfl,fun e H h0 _ _ x=>?_,fun _ u=>aEE hs h hep hw hj hb (by simp only [bW];omega) u,fun _ _ _ _=>rfl,fun _=>rfl⟩) ?_ (fun _ _=>rfl) h.tr h.se.1 (Int.le_refl _) fun _=>⟨sn,.inl ⟨by rw [hj];rfl,hB⟩⟩
      · refine h.ow.retired rfl (i:=w+2) ⟨by omega,by omega⟩ (by rw [fH _ _ hw,nw];exact o0) (fun t=>?_) (by rw [fH _ _ hw,dP,n9]) fun i hi q=>DW hw hi q fun _ _ _=>rfl
        rw [fH _ _ hw,nw]
        unfold BG
        constructor
        · rintro⟨r,r1,r2,r3⟩
          rcases(fa r).1 r1 with z | z
          · exact .inl ⟨r,z,r2,r3⟩
          · right;rw [←r3,z,sa]
        · rintro(⟨r,r1,r2,r3⟩ | z)
          · exact⟨r,(fa r).2 (.inl r1),r2,r3⟩
          · exact⟨_,(fa _).2 (.inr rfl),by simp only;rw [sa];exact lo.1.1,by simp only;rw [sa,z]⟩
      · rcases x with x | ⟨u,hu,u1,u2,u3,u4⟩ | ⟨r,r1,r2⟩
        · exact .inl x
        · by_cases z:u=w
          · subst z
            rw [hj] at u3 u4
            exact .inr (.inr ⟨_,(fa _).2 (.inr rfl),by simp only;rw [sa];exact u3,by simp only;omega⟩)
          · exact .inr (.inl ⟨u,hu,by rw [dY _ _ z];exact⟨u1,u2,u3,u4⟩⟩)
        · exact .inr (.inr ⟨r,(fa r).2 (.inl r1),r2⟩)
      · exact OW hb k1 (fun q=>by simp [bW] at q) (fun q=>by simp [bW] at q) (fun q=>by simp [bW] at q) (fun q=>by simp [bW] at q) rn
  rw [if_neg p3]
  refine h.quiet hs.1 hep hw (OY (by rw [hj,UT p1 p2 p3,UT (by simp [bW]) (by simp [bW]) (by simp [bW])]) (.inr (by rw [hj];exact p3)) (.inl (by simp only [bW];omega))) hB (by exact(congrArg aZ.aG hj).symm) (.inl rfl) ?_
  rw [List.append_nil]
  exact OW hb k1 (fun q=>by simp [bW] at q) (fun q=>by simp [bW] at q) (fun q=>by simp [bW] at q) (fun q=>by simp [bW] at q) rn
end
end Go.Gv
end
noncomputable section
namespace Go.Gv
structure aZL (b:aA) (w:Int) (NL:List aY) (r:dA):Prop where
  mem:r∈bZ b.aO
  live:gY b.Mem r.Handle
  rest:∀x∈bZ b.aO,x.Handle≠r.Handle→x∈bZ NL
  sub:∀x∈bZ NL,x∈bZ b.aO∧x.Handle≠r.Handle
  uni:∀x∈bZ b.aO,x.Handle=r.Handle→x=r
  other:∀v,0≤v∧v≤2→v≠w→cC NL v=cC b.aO v
theorem aS5{b:aA}(hb:pB b){w:Int}(hw:0≤w∧w≤2){k:Int}(hk:0≤k∧k < (cC b.aO w).length):aZL b w (b.aO.set w.toNat ⟨(cC b.aO w).eraseIdx k.toNat⟩) (ED (cC b.aO w) k):=by
  have hL:=hb.1.2.2.1
  have h3:=hL.1
  have kx:w.toNat < b.aO.length:=by omega
  have hm:=Z4 (l:=cC b.aO w) hk
  have hf:=OR hL hw hm
  have hjl:k.toNat < (cC b.aO w).length:=by omega
  have er:ED (cC b.aO w) k=(cC b.aO w)[k.toNat]:=by
    have:=aGB (l:=cC b.aO w) hjl
    rw [show((k.toNat:Nat):Int)=k by omega] at this
    exact this
  have hrow:b.aO[w.toNat].Rows=cC b.aO w:=by
    have:=B7 hL hw
    rw [fD hw.1 (by omega)] at this
    injection this with this
    rw [this]
  have hperm:=ZX hjl
  have hset:bZ (b.aO.set w.toNat ⟨(cC b.aO w).eraseIdx k.toNat⟩)=bZ (b.aO.take w.toNat)++((cC b.aO w).eraseIdx k.toNat++bZ (b.aO.drop (w.toNat+1))):=BZ kx _
  have hspl:bZ b.aO=bZ (b.aO.take w.toNat)++(cC b.aO w++bZ (b.aO.drop (w.toNat+1))):=by rw [yQ kx,hrow]
  have hp:(bZ b.aO).Perm (ED (cC b.aO w) k :: bZ (b.aO.set w.toNat ⟨(cC b.aO w).eraseIdx k.toNat⟩)):=by
    rw [hspl,hset,er]
    have e1:=(hperm.append_right (bZ (b.aO.drop (w.toNat+1)))).append_left (bZ (b.aO.take w.toNat))
    refine e1.trans ?_
    rw [List.cons_append]
    exact List.perm_middle
  have nd:=hL.2.2.2
  have nd2:=(hp.map yP).nodup_iff.1 nd
  rw [List.map_cons,List.nodup_cons] at nd2
  refine⟨hf,(hb.2 _ hf).1,fun x hx hn=>?_,fun x hx=>⟨hp.mem_iff.2 (List.mem_cons_of_mem _ hx),fun e=>?_⟩,fun x hx e=>?_,fun v hv hn=>aAH h3 hw hv hn _⟩
  · rcases List.mem_cons.1 (hp.mem_iff.1 hx) with z | z
    · exact absurd (by rw [z]) hn
    · exact z
  · exact nd2.1 (List.mem_map.2 ⟨x,hx,by unfold yP;rw [e]⟩)
  · exact map_inj nd x hx _ hf (by unfold yP;rw [e])
noncomputable section
variable {s:aE} (hs:yT s) {n:Int} (h:Sv s.aA s.Cells (aM s) s.Log n) (hep:Ep s.aA.aC (aM s)) {w:Int} (hw:0≤w∧w≤2) {j:aZ} (hj:aM s w=j) (hb:j.dE=true) (hjk:kX j.Op∧dQ j.H∧dQ j.Old)
include hs h hep hw hj hb
theorem aAI(k4:j.Op.Kind=4)(p1:j.Pc=1){j':aZ}(jo:j'.Op=j.Op)(jse:j'.aG=j.aG)(jb:j'.dE=true)(jp:(jI s.aA w j.Sub).2.cE=true∧j'.Pc=9∨(jI s.aA w j.Sub).2.cE=false∧j'.Pc=1∧j'.Sub=(jI s.aA w j.Sub).2) :
    Sv (jI s.aA w j.Sub).1 s.Cells (HX (aM s) w j') (s.Log ++ []) n:=by
  have hB:(aM s w).dE=true:=by rw [hj];exact hb
  have hL:=hs.1.1.2.2.1
  have own:=h.jv w hw
  rw [hj] at own
  have rn:=own.n hb (by unfold Reads;omega)
  obtain⟨sk,sd,ck⟩:=own.k k4 p1
  have nk:(aM s w).Op.Kind≠1∨(aM s w).Pc≠3:=.inl (by rw [hj];omega)
  have n0:FO (aM s w)=0:=uM (by rw [hj];omega)
  have nj:FO j'=0:=uM (by rw [jo];omega)
  have quiet:(jI s.aA w j.Sub).1=s.aA→(∀v,0≤v∧v≤2→∀H,oY s.aA.m7 v=H→UnJ j v H→j'.Pc=1→UnJ j' v H)→(j'.Pc=1→aQA s.aA.aC.aJ (cC s.aA.aO w) j'.Sub)→Sv (jI s.aA w j.Sub).1 s.Cells (HX (aM s) w j') (s.Log ++ []) n:=fun eb hu hk=>by
    rw [eb]
    have q:Qt s.aA s.aA (aM s) w j':=⟨rfl,rfl,Int.le_refl _,fun _ _ _ p=>⟨p,rfl⟩,fun _ _ _=>rfl,by rw [nj,n0],fun k _=>by rw [hj] at k;omega,fun v hv H hz u=>by
      rw [hj] at u
      by_cases z:j'.Pc=1
      · exact hu v hv H hz u z
      · exact fun _ p=>absurd p z⟩
    refine h.quiet hs.1 hep hw q hB (by rw [hj];exact jse) (.inl rfl) ?_
    rw [List.append_nil,jse]
    exact OX jb (.inl (by rw [jo];exact k4)) (fun _ p=>hk p) rn
  have e0:=hep
  unfold jI at jp quiet ⊢
  rcases ck with q0 | ⟨eE,⟨q1,r0⟩ | ⟨q2,hB2,ha,hr⟩ | ⟨q3,ha,hr⟩⟩
  · simp only [if_pos q0] at jp quiet ⊢
    rcases jp with jp | ⟨jd,jp,js⟩
    · rw [sd] at jp;cases jp.1
    refine quiet trivial (fun v hv H hz u _ _ _ _=>?_) fun _=>?_
    · rw [js];exact⟨fun z=>by simp at z,by simp⟩
    · rw [js];exact⟨sk,sd,.inr ⟨Int.le_refl _,.inl ⟨rfl,by simp⟩⟩⟩
  · simp only [if_neg (show ¬j.Sub.Pc=0 by omega),if_pos q1] at jp quiet ⊢
    by_cases q:rW (cC s.aA.aO w) j.Sub.E j.Sub.Row.toNat < (cC s.aA.aO w).length
    · simp only [if_pos q] at jp quiet ⊢
      rcases jp with jp | ⟨jd,jp,js⟩
      · rw [sd] at jp;cases jp.1
      obtain⟨f1,f2⟩:=Z3 q
      refine quiet trivial (fun v hv H hz u _ _ _ _=>?_) fun _=>?_
      · rw [js];exact⟨fun _=>hv.1,by simp⟩
      · rw [js]
        refine⟨sk,sd,.inr ⟨eE,.inr (.inl ⟨rfl,by simp,⟨by simp only;omega,by simp only;omega,rfl⟩,?_⟩)⟩⟩
        simp only
        rw [aGB q];exact f2
    · simp only [if_neg q] at jp quiet ⊢
      rcases jp with ⟨jd,jp⟩ | ⟨jd,jp,js⟩
      · exact quiet trivial (fun v hv H hz u p=>by omega) fun p=>by omega
      · cases jd
  · simp only [if_neg (show ¬j.Sub.Pc=0 by omega),if_neg (show ¬j.Sub.Pc=1 by omega),if_pos q2,if_pos (show(0≤j.Sub.B∧j.Sub.B≤2)∧DV (cC s.aA.aO w) j.Sub from ⟨hB2,ha⟩)] at jp quiet ⊢
    by_cases q:oY s.aA.m7 j.Sub.B=j.Sub.H
    · simp only [if_pos q] at jp quiet ⊢
      rcases jp with jp | ⟨jd,jp,js⟩
      · rw [sd] at jp;cases jp.1
      refine quiet trivial (fun v hv H hz u _ _ _ _=>?_) fun _=>?_
      · rw [js];exact⟨fun z=>by simp at z,by simp⟩
      · rw [js];exact⟨sk,sd,.inr ⟨eE,.inl ⟨rfl,by have:=ha.1;simp only;omega⟩⟩⟩
    · simp only [if_neg q] at jp quiet ⊢
      rcases jp with jp | ⟨jd,jp,js⟩
      · rw [sd] at jp;cases jp.1
      refine quiet trivial (fun v hv H hz u _ _ _ hH=>?_) fun _=>?_
      · rw [js] at hH ⊢
        simp only at hH ⊢
        obtain⟨u1,u2⟩:=u k4 p1 hH
        have u1:=u1 q2
        have ne:j.Sub.B≠v:=fun z=>q (by rw [z,hz,hH])
        refine⟨fun _=>by omega,?_⟩
        rw [if_neg (by omega)];omega
      · rw [js]
        refine⟨sk,sd,.inr ⟨eE,.inr ?_⟩⟩
        by_cases z:j.Sub.B=2
        · exact .inr ⟨by simp only [if_pos z],ha,hr⟩
        · exact .inl ⟨by simp only [if_neg z],by simp only;omega,ha,hr⟩
  · simp only [if_neg (show ¬j.Sub.Pc=0 by omega),if_neg (show ¬j.Sub.Pc=1 by omega),if_neg (show ¬j.Sub.Pc=2 by omega),if_pos q3,if_pos (show DV (cC s.aA.aO w) j.Sub∧BA (ED (cC s.aA.aO w) j.Sub.Row) j.Sub.E from ⟨ha,hr⟩)] at jp ⊢
    rcases jp with jp | ⟨jd,jp,js⟩
    · rw [sd] at jp;cases jp.1
    obtain⟨a0,a1,a2⟩:=ha
    obtain⟨o1,o2,o3,o4,o5,o6⟩:=aS5 hs.1 hw (k:=j.Sub.Row) ⟨a0,a1⟩
    rw [a2] at o2 o3 o4 o5
    generalize s.aA.aO.set w.toNat ⟨(cC s.aA.aO w).eraseIdx j.Sub.Row.toNat⟩=NL at o3 o4 o6
    obtain⟨f1,f2,f3,f4⟩:=aAA hs.1.1.1 hw o2
    have fs:=fun{t:Int} (ht:t≠j.Sub.H % 32)=>aIC hs.1.1.1 hw o2 ht
    have dat:∀H,gY s.aA.Mem H→rX (BC s.aA.Mem w j.Sub.H).aD (H % 32)=rX s.aA.Mem.aD (H % 32):=fun H hl=>aP8 hs.1.1.1 o2 (gH hl.2.1)
    have hheld:BG s.aA.aO (j.Sub.H % 32):=⟨_,o1,by rw [a2];exact o2.1,by rw [a2]⟩
    have hrl:=fun(H:Int)=>(h.ow.live H)
    have ripe:(ED (cC s.aA.aO w) j.Sub.Row).aJ≤j.Sub.E - 2:=by
      have:=hr.2
      have ec:=hs.1.1.2.1.1
      rw [aP (by have:=hr.1;omega) (by omega)] at this
      exact this
    have hln:∀t,t≠j.Sub.H % 32→(BG NL t↔BG s.aA.aO t):=fun t ht=>by
      constructor
      · rintro⟨r,r1,r2,r3⟩
        exact⟨r,(o4 r r1).1,r2,r3⟩
      · rintro⟨r,r1,r2,r3⟩
        exact⟨r,o3 r r1 (fun z=>ht (by rw [←r3,z])),r2,r3⟩
    rw [List.append_nil]
    have un':∀v,0≤v∧v≤2→∀H,LP (aM s) v H→LP (HX (aM s) w j') v H:=fun v hv H u a ha'=>by
      by_cases z:a=w
      · subst z;rw [dP]
        intro _ _ _
        rw [js];exact⟨fun z=>by simp at z,by simp⟩
      · rw [dY _ _ z];exact u a ha'
    refine h.make hs.1 hep hw ?_ (fun k hk=>?_) (fun v hv hn=>⟨Int.le_refl _,o6 v hv hn,fun p=>⟨p,rfl⟩,rfl,fun e H h0 _ hbl sa=>?_,fun _ u=>un' v hv _ u,fun e H sa hH'=>dat H (sa.live hs.1 h.ow hH'),fun hH'=>?_⟩) ?_ (fun _ _=>rfl) h.tr h.se.1 (Int.le_refl _) fun _=>⟨by rw [jse,←hj];exact h.se.2.1 w hw hB,.inl ⟨by rw [hj];exact jse,hB⟩⟩
    · refine h.ow.aX5 (x:=j.Sub.H % 32) hheld f4 (fun t ht=>fs ht) (fun t ht h3=>by rw [f2 t (gH h3),if_neg ht]) hln fun i hi=>?_
      by_cases z:i=w+2
      · subst z;rw [fH _ _ hw,fH _ _ hw,dP,nj,n0]
      · exact DW hw hi z fun _ _ _=>rfl
    · refine⟨(h.cv k hk).1,fun q=>?_⟩
      have l:=(h.ow.live k (by omega) (by rw [lK _ _ hk];exact q)).1
      rw [lK _ _ hk] at l
      show rX (BC s.aA.Mem w j.Sub.H).aD _=_
      rw [dat _ l];exact(h.cv k hk).2 q
    · rcases sa with sa | ⟨u,hu,u1,u2,u3⟩ | ⟨r,r1,r2,r3⟩
      · exact .inl sa
      · have z:u≠w:=fun z=>by subst z;rw [hj] at u1;omega
        exact .inr (.inl ⟨u,hu,by rw [dY _ _ z];exact⟨u1,u2,u3⟩⟩)
      · refine .inr (.inr ⟨r,o3 r r1 fun z=>?_,r2,r3⟩)
        rcases hbl with hbl | ⟨u,hu,un⟩
        · have er:=o5 r r1 z
          rw [er] at r3
          omega
        · have:=un w hw
          rw [hj] at this
          exact(this k4 p1 (by rw [←z];exact r2)).2 q3
    · have l:=(h.ow.live (v+2) (by omega) (by rw [fH _ _ hv];exact hH')).1
      rw [fH _ _ hv] at l
      exact dat _ l
    · rw [jse]
      refine OX jb (.inl (by rw [jo];exact k4)) (fun _ _=>?_) rn
      rw [js]
      exact⟨sk,sd,.inr ⟨eE,.inl ⟨rfl,a0⟩⟩⟩
include hjk
theorem aQE(k:j.Op.Kind=4∨j.Op.Kind=5∨j.Op.Kind=6):Sv (tM s w j).b (tM s w j).c (HX (aM s) w (tM s w j).j) (s.Log++(tM s w j).l) n:=by
  have hB:(aM s w).dE=true:=by rw [hj];exact hb
  have hc:=hs.1.1.2.1
  have own:=h.jv w hw
  have nk:(aM s w).Op.Kind≠1∨(aM s w).Pc≠3:=.inl (by rw [hj];omega)
  have nm0:∀j':aZ,j'.Op.Kind=j.Op.Kind→FO j'=FO (aM s w):=fun j' q=>by rw [uM (by omega),uM (by rw [hj];omega)]
  rw [hj] at own
  have rn:=own.n hb (by unfold Reads;omega)
  have bad:Sv s.aA s.Cells (HX (aM s) w (bW j 9 1)) (s.Log ++ []) n:=by
    refine h.quiet hs.1 hep hw (OY (j':=bW j 9 1) (nm0 _ rfl) nk (.inr (by simp [bW]))) hB (by exact(congrArg aZ.aG hj).symm) (.inl rfl) ?_
    rw [List.append_nil]
    exact OX hb k (fun _ q=>by simp [bW] at q) rn
  unfold tM
  by_cases k6:j.Op.Kind=6
  · rw [if_pos k6]
    by_cases p0:j.Pc=0
    · rw [if_pos p0]
      obtain⟨u1,u2⟩:=aKC hc hw
      refine h.quiet hs.1 hep hw (OZ (by omega) (fun v hv hn p=>S1 (u2 v hv hn) p) (nm0 (bW j 9 _) rfl) nk (.inr (.inl (by simp [bW])))) hB (by exact(congrArg aZ.aG hj).symm) (.inl rfl) ?_
      rw [List.append_nil]
      exact OX hb k (fun _ q=>by simp [bW] at q) rn
    · rw [if_neg p0];exact bad
  rw [if_neg k6]
  by_cases k5:j.Op.Kind=5
  · by_cases p0:j.Pc=0
    · rw [if_pos (.inl p0)]
      obtain⟨_,_,_,i4⟩:=hep.1 w hw hB
      rw [hj] at i4
      obtain⟨sk,sd,_⟩:=i4 ⟨hb,.inr k5,p0⟩
      have es:d7 s.aA w j.Sub=OO s.aA w j.Sub:=by unfold d7;simp [sk,sd]
      rw [es]
      obtain⟨cl,e1,e2,e3⟩:=aQC hc hw j.Sub
      simp only [e1,if_pos k5]
      refine h.quiet hs.1 hep hw (OZ (by omega) (fun v hv hn p=>S1 (e3 v hv hn) p) (nm0 _ (by split <;> rfl)) nk (.inl (by split <;> (simp only [bW];omega)))) hB (by rw [hj];split <;> rfl) (.inl rfl) ?_
      rw [List.append_nil]
      split
      · exact OX hb k (fun _ q=>by simp [bW] at q) rn
      · exact OX hb k (fun _ q=>by simp only at q;omega) rn
    · rw [if_neg (fun q=>q.elim p0 fun q=>q.2 k5)];exact bad
  have k4:j.Op.Kind=4:=by omega
  by_cases p0:j.Pc=0
  · rw [if_pos (.inl p0)]
    obtain⟨_,_,i3,_⟩:=hep.1 w hw hB
    rw [hj] at i3
    obtain⟨sk,sd,_⟩:=i3 ⟨hb,k4,p0⟩
    have es:d7 s.aA w j.Sub=l4 s.aA j.Sub:=by unfold d7;simp [sk,sd]
    rw [es]
    obtain⟨cl,e1,e2,e3⟩:=aIL hc j.Sub
    simp only [e1,if_neg k5,if_pos p0]
    refine h.quiet hs.1 hep hw (OZ e2 (fun v hv hn p=>e3 v hv p) (nm0 _ (by split <;> rfl)) nk ?_) hB (by rw [hj];split <;> rfl) (.inl rfl) ?_
    · split
      · exact .inr (.inr rfl)
      · exact .inr (.inl (by simp only;omega))
    rw [List.append_nil]
    split
    · exact OX hb k (fun _ _=>⟨rfl,rfl,.inl rfl⟩) rn
    · exact OX hb k (fun _ q=>by simp only at q;omega) rn
  by_cases p1:j.Pc=1
  · rw [if_pos (.inr ⟨p1,k5⟩)]
    obtain⟨sk,sd,_⟩:=own.k k4 p1
    have es:d7 s.aA w j.Sub=jI s.aA w j.Sub:=by unfold d7;simp [sk,sd]
    rw [es]
    simp only [if_neg k5,if_neg p0]
    cases hd:(jI s.aA w j.Sub).2.cE with
    | true=>rw [if_pos rfl];exact aAI hs h hep hw hj hb k4 p1 rfl rfl hb (.inl ⟨hd,rfl⟩)
    | false=>rw [if_neg (by simp)];exact aAI hs h hep hw hj hb k4 p1 rfl rfl hb (.inr ⟨hd,p1,rfl⟩)
  · rw [if_neg (fun q=>q.elim p0 fun q=>p1 q.1)];exact bad
end
theorem aT7{b:aA}{c:List Int}{J:Int→aZ}{o:Option (Ev×Ev)}{v:Int}:Jv b c J o v lZ:=by
  have k:lZ.Op.Kind=0:=rfl
  have bb:lZ.dE=false:=rfl
  refine⟨fun _=>k,?_,?_,?_,?_,?_,?_,?_,?_,?_,?_,?_⟩
  · intro q;omega
  · intro q;omega
  · intro q;omega
  · intro q;omega
  · intro q;omega
  · intro q;rcases q with q | q <;> omega
  · intro q;omega
  · intro q;omega
  · intro q;omega
  · intro q;unfold Reads at q;omega
  · intro q;rw [bb] at q;cases q
theorem aS6{s:aE}(hs:yT s){w:Int}(hw:0≤w∧w≤2)(hep:Ep s.aA.aC (aM s))(h:Sv s.aA s.Cells (aM s) s.Log s.aG):Sv (lO s w).aA (lO s w).Cells (aM (lO s w)) (lO s w).Log (lO s w).aG:=by
  have h3:=hs.2.2.1
  have hjk:JOk (aM s w):=by
    have h:=FN hs hw
    rw [fD hw.1 (by omega)] at h
    injection h with h
    rw [←h];exact hs.2.2.2.2.2.2 _ (List.getElem_mem _)
  have close:∀{b:aA} {c:List Int} {j':aZ} {t:List Queue} {L:List Ev} {m:Int},Sv b c (HX (aM s) w j') L m→Sv b c (aM ⟨b,c,s.aV.set w.toNat j',t,L,m⟩) L m:=fun{b c j' t L m} x=>by
    have e:∀v,0≤v∧v≤2→aM ⟨b,c,s.aV.set w.toNat j',t,L,m⟩ v=HX (aM s) w j' v:=fun v hv=>oZ h3 hw hv b c j' t L m
    have es:∀{e H},o7 b c (HX (aM s) w j') e H→o7 b c (aM ⟨b,c,s.aV.set w.toNat j',t,L,m⟩) e H:=fun{e' H} q=>by
      rcases q with q | ⟨v,hv,q⟩ | q
      · exact .inl q
      · exact .inr (.inl ⟨v,hv,by rw [e v hv];exact q⟩)
      · exact .inr (.inr q)
    refine⟨x.ow.congr rfl rfl fun i hi=>?_,x.cv,fun v hv=>?_,x.tr,x.se.1,fun v hv=>by rw [e v hv];exact x.se.2.1 v hv,fun v u hv hu=>by rw [e v hv,e u hu];exact x.se.2.2 v u hv hu⟩
    · rcases aAF hi with hk | ⟨v,hv,rfl⟩
      · rw [lK _ _ hk,lK _ _ hk]
      · rw [fH _ _ hv,fH _ _ hv,e v hv]
    · rw [e v hv]
      obtain⟨a1,a2,a3,a4,a5,a6,a7,a8,a9,a10,a11,a12⟩:=x.jv v hv
      refine⟨a1,a2,a3,a4,a5,a6,fun g p=>?_,a8,a9,fun k p=>?_,a11,a12⟩
      · obtain⟨q,r⟩:=a7 g p
        exact⟨es q,r⟩
      · obtain⟨q,u,r⟩:=a10 k p
        exact⟨es q,fun a ha=>by rw [e a ha];exact u a ha,r⟩
  unfold lO
  by_cases hb:(aM s w).dE=false
  · rw [if_pos hb]
    unfold LN
    cases ho:iM s.cL w with
    | nil=>exact h
    | cons o r =>
      simp only
      by_cases hm:s.aG=1000000
      · rw [if_pos hm];exact h
      rw [if_neg hm]
      refine close ?_
      obtain⟨f1,f2,_,_⟩:=aGF s.aA.aC w o (s.aG+1)
      have n0:FO (aM s w)=0:=uM (by have:=(h.jv w hw).idle hb;omega)
      have k0:=(h.jv w hw).idle hb
      have st:(j7 s.aA.aC w o (s.aG+1)).Op=o∧((j7 s.aA.aC w o (s.aG+1)).Pc=0∨(j7 s.aA.aC w o (s.aG+1)).Pc=9∧(j7 s.aA.aC w o (s.aG+1)).Code=1)∧(o.Kind=1→(j7 s.aA.aC w o (s.aG+1)).Sub=vB 1 o.f8):=by
        unfold j7
        split
        · exact⟨rfl,.inl rfl,fun _=>rfl⟩
        split
        · rename_i q1 q2
          split
          · exact⟨rfl,.inr ⟨rfl,rfl⟩,fun q=>absurd q q1⟩
          · exact⟨rfl,.inl rfl,fun q=>absurd q q1⟩
        split
        · rename_i q1 q2 q3
          exact⟨rfl,.inl rfl,fun q=>absurd q q1⟩
        · rename_i q1 q2 q3
          exact⟨rfl,.inl rfl,fun q=>absurd q q1⟩
      obtain⟨so,sp,ss⟩:=st
      generalize j7 s.aA.aC w o (s.aG+1)=j at f1 f2 so sp ss
      generalize hE:(⟨1,w,s.aG+1,o.Cell,0,0,0⟩:Ev)=E
      have eK:E.Kind=1:=by rw [←hE]
      have eS:E.aG=s.aG+1:=by rw [←hE]
      have rE:∀m,US (s.Log ++ [E]) m=US s.Log m:=fun m=>by rw [PE,if_neg (fun z=>by have:=z.1;omega)]
      have sE:∀k,PK (s.Log ++ [E]) k=PK s.Log k:=fun k=>by rw [SZ,if_neg (fun z=>by have:=z.1;omega)]
      have nj:FO j=0:=UT (by omega) (by omega) (by omega)
      have q:Qt s.aA s.aA (aM s) w j:=OY (by rw [n0,nj]) (.inl (by omega)) (.inr (by omega))
      refine h.make hs.1 hep hw ?_ (fun k hk=>by rw [sE];exact h.cv k hk) (fun v hv hn=>q.frm hw hv hn) ?_ (fun m _=>rE m) (h.tr.snoc fun z=>by omega) (fun e he=>?_) (by omega) fun _=>⟨by omega,.inr (by omega)⟩
      · refine h.ow.congr rfl rfl fun i hi=>?_
        by_cases z:i=w+2
        · subst z;rw [fH _ _ hw,fH _ _ hw,dP,nj,n0]
        · exact DW hw hi z fun _ _ _=>rfl
      · have rn:US (s.Log ++ [E]) j.aG=none:=by rw [rE];exact aS1 fun e he=>by have:=h.se.1 e he;omega
        refine⟨fun q=>(by rw [f1] at q;cases q),fun k p=>?_,fun k p=>by omega,fun k p=>by omega,fun k p=>by omega,fun k p=>by omega,fun g=>?_,fun k p=>by omega,fun k p=>by omega,fun k p=>by omega,fun k p=>?_,fun _ _=>rn⟩
        · rw [ss (by rw [←so];exact k)];exact⟨rfl,rfl,by simp [vB],by simp [vB]⟩
        · exact absurd g (FI (by omega))
        · exact Told.other (by omega) (by omega)
      · rcases List.mem_append.1 he with z | z
        · have:=h.se.1 e z;omega
        · rw [List.mem_singleton.1 z,eS];omega
  rw [if_neg hb]
  have hb':(aM s w).dE=true:=by simpa using hb
  by_cases h9:(aM s w).Pc=9
  · rw [if_pos h9]
    refine close ?_
    have own:=h.jv w hw
    have n0:FO (aM s w)=0:=UT (by omega) (by omega) (by omega)
    have nj:FO lZ=0:=uM (by decide)
    generalize hE:MM w (aM s w)=E
    have eK:E.Kind=4:=by rw [←hE];rfl
    have eS:E.aG=(aM s w).aG:=by rw [←hE];rfl
    have eC:E.Code=(aM s w).Code:=by rw [←hE];rfl
    have eV:E.cV=(aM s w).cV:=by rw [←hE];rfl
    have rE:∀m,US (s.Log ++ [E]) m=US s.Log m:=fun m=>by rw [PE,if_neg (fun z=>by have:=z.1;omega)]
    have sE:∀k,PK (s.Log ++ [E]) k=PK s.Log k:=fun k=>by rw [SZ,if_neg (fun z=>by have:=z.1;omega)]
    have q:Qt s.aA s.aA (aM s) w lZ:=OY (by rw [n0,nj]) (.inr (by omega)) (.inl (by decide))
    refine h.make hs.1 hep hw ?_ (fun k hk=>by rw [sE];exact h.cv k hk) (fun v hv hn=>q.frm hw hv hn) aT7 (fun m _=>rE m) (h.tr.snoc fun _ hr=>?_) (fun e he=>?_) (Int.le_refl _) fun q=>by cases q
    · refine h.ow.congr rfl rfl fun i hi=>?_
      by_cases z:i=w+2
      · subst z;rw [fH _ _ hw,fH _ _ hw,dP,nj,n0]
      · exact DW hw hi z fun _ _ _=>rfl
    · rw [eS] at hr ⊢
      rw [eC,eV]
      by_cases rr:Reads (aM s w)
      · exact own.t rr (.inl h9)
      · exact absurd (own.n hb' rr) hr
    · rcases List.mem_append.1 he with z | z
      · exact h.se.1 e z
      · rw [List.mem_singleton.1 z,eS];exact h.se.2.1 w hw hb'
  rw [if_neg h9]
  have hjo:=(DU hb').1 hjk
  have hk:=hjo.1.1
  unfold j6
  refine close ?_
  unfold GV
  by_cases k1:(aM s w).Op.Kind=1
  · rw [if_pos k1];exact aWC hs h hep hw rfl hb' hjo k1
  rw [if_neg k1]
  by_cases k2:(aM s w).Op.Kind=2
  · rw [if_pos k2];exact aWA hs h hep hw rfl hb' hjo k2
  rw [if_neg k2]
  by_cases k3:(aM s w).Op.Kind=3
  · rw [if_pos k3];exact aWB hs h hep hw rfl hb' hjo k3
  rw [if_neg k3]
  by_cases k7:(aM s w).Op.Kind=7
  · rw [if_pos k7];exact aS4 hs h hep hw rfl hb' hjo k7
  rw [if_neg k7]
  exact aQE hs h hep hw rfl hb' hjo (by omega)
end Go.Gv
end
noncomputable section
namespace Go.Gv
def lst(L:List Ev):Int:=L.foldl (fun a e=>if e.Kind=4∧e.VQ=1∧e.Code=0 then e.cV else a) 0
def aX7(a:Int)(e:Ev):Prop:=e.Kind=4→e.VQ=1→e.Code=6∨(e.Code=8∧a=0)∨(e.Code=0∧(100≤e.cV∧e.cV≤105)∧a≤e.cV)
def Good(L:List Ev):Prop:=∀M e N,L=M++e :: N→aX7 (lst M) e
theorem Good.snoc{L:List Ev}(h:Good L){e:Ev}(he:aX7 (lst L) e):Good (L ++ [e]):=by
  intro M x N hx
  rcases List.eq_nil_or_concat N with rfl | ⟨N',y,rfl⟩
  · obtain⟨rfl,q⟩:=List.append_inj' hx (by rfl)
    injection q with q
    subst q
    exact he
  · have e1:M++x :: (N'.concat y)=(M++x :: N') ++ [y]:=by simp
    rw [e1] at hx
    exact h M x N' (List.append_inj' hx (by rfl)).1
def w1N(L:List Ev):Nat:=L.countP fun e=>e.Kind == 4 && e.VQ == 1
structure Rg (T:Int→List dO) (J:Int→aZ) (L:List Ev) (on:Bool):Prop where
  q0:∀o∈T 0,o.Kind=1∧o.Cell=0∧100≤o.cV∧o.cV≤105
  p0:(T 0).Pairwise fun a b=>a.cV < b.cV
  j0:(J 0).dE=true→(J 0).Op.Kind=1∧(J 0).Op.Cell=0∧(100≤(J 0).Op.cV∧(J 0).Op.cV≤105)∧∀o∈T 0,(J 0).Op.cV < o.cV
  sw:∀e∈L,e.Kind=2→e.Cell=0∧(100≤e.cV∧e.cV≤105)∧(∀o∈T 0,e.cV < o.cV)∧((J 0).dE=true→(J 0).Pc=0∨(J 0).Pc=1∨(J 0).Pc=2→e.cV < (J 0).Op.cV)
  q1:∀o∈T 1,(o.Kind=2∨o.Kind=3)∧o.Cell=0
  j1:(J 1).dE=true→((J 1).Op.Kind=2∨(J 1).Op.Kind=3)∧(J 1).Op.Cell=0∧((J 1).Code=0∨(J 1).Code=6∨(J 1).Code=8)∧(0≤(J 1).Pc∧(J 1).Pc≤4∨(J 1).Pc=9)
  q2:∀o∈T 2,o.Kind=4
  j2:(J 2).dE=true→(J 2).Op.Kind=4
  pin:on=true→(J 1).dE=true∧(J 1).Op.Kind=2∧(J 1).Pc≠9
  cnt:w1N L+(if (J 1).dE=true then 1 else 0)+(T 1).length=6
  m1:lst L≤(PK L 0).cV∧(lst L≠0→(PK L 0).Handle≠0)
  m2:(J 1).dE=true→∀e x,US L (J 1).aG=some (e,x)→x.cV≤(PK L 0).cV∧lst L≤x.cV∧(x.Handle≠0→(PK L 0).Handle≠0∧100≤x.cV∧x.cV≤105)∧(x.Handle=0→lst L=0)
  aZP:Good L
noncomputable section
variable (s:aE) (w:Int) (j:aZ)
end
structure aZ1 (s:aE) (w:Int) (j:aZ) (r:JR):Prop where
  ev:r.l=[]∨∃x,r.l=[BK w j x]
  code:r.j.Code=0∨r.j.Code=6∨r.j.Code=8
  pc:0≤r.j.Pc∧r.j.Pc≤4∨r.j.Pc=9
  on:(b9 r.b.aC w).On=true→j.Op.Kind=2∧r.j.Pc≠9
noncomputable section
variable {T:Int→List dO} {J:Int→aZ} {L:List Ev} {on:Bool} (h:Rg T J L on)
include h
theorem Rg.congr{T':Int→List dO}{J':Int→aZ}{on':Bool}(t0:T' 0=T 0)(t1:T' 1=T 1)(j0:J' 0=J 0)(j1:J' 1=J 1)(t2:∀o∈T' 2,o.Kind=4)(j2:(J' 2).dE=true→(J' 2).Op.Kind=4)(o:on'=true→on=true):Rg T' J' L on':=by
  refine⟨by rw [t0];exact h.q0,by rw [t0];exact h.p0,by rw [t0,j0];exact h.j0,by rw [t0,j0];exact h.sw,by rw [t1];exact h.q1,by rw [j1];exact h.j1,t2,j2,by rw [j1];exact fun q=>h.pin (o q),by rw [t1,j1];exact h.cnt,h.m1,by rw [j1];exact h.m2,h.aZP⟩
end
noncomputable section
variable {s:aE} (hs:yT s) (hv:Sv s.aA s.Cells (aM s) s.Log s.aG) (hep:Ep s.aA.aC (aM s)) (h:Rg (iM s.cL) (aM s) s.Log (b9 s.aA.aC 1).On)
include hs hv hep h
end
end Go.Gv
end
