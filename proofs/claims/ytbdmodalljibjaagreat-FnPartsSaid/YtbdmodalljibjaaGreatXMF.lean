import Derived.Test.YtbdmodalljibjaaGreatXME
set_option linter.unusedVariables false
set_option linter.unusedSimpArgs false
set_option linter.unusedSectionVars false
set_option linter.constructorNameAsVariable false
set_option linter.unnecessarySimpa false
noncomputable section
set_option linter.unusedVariables false
set_option linter.unusedSimpArgs false
set_option linter.unusedSectionVars false
namespace Go.Gv
def cC(c:aD)(w:Int):gR:=c.aQ.getD w.toNat ⟨false,0,false,0⟩
theorem tB{c:aD}(hc:FR c){w:Int}(hw:0≤w∧w≤2):idx c.aQ w=some (cC c w):=by
  have:=hc.2.1
  rw [eO hw.1 (by omega)]
  simp [cC,List.getD_eq_getElem?_getD,List.getElem?_eq_getElem (show w.toNat < c.aQ.length by omega)]
def BU(c:aD)(w e:Int):aD×Bool:=
  if (cC c w).On=false∨(cC c w).cR=true∨(cC c w).aG=e then (c,true)
  else if (cC c w).Seen=2 then (⟨c.aG,c.aQ.set w.toNat {cC c w with cR:=true,Seen:=0}⟩,true)
  else (⟨c.aG,c.aQ.set w.toNat {cC c w with Seen:=(cC c w).Seen+1}⟩,false)
theorem XQ{c:aD}(hc:FR c){w:Int}(hw:0≤w∧w≤2):POk c.aG (cC c w):=by
  have:=tB hc hw
  have h2:=hc.2.1
  rw [eO hw.1 (by omega)] at this
  injection this with this
  rw [←this]
  exact hc.2.2 _ (List.getElem_mem _)
theorem aMU{c:aD}(hc:FR c){w:Int}(hw:0≤w∧w≤2)(e:Int):BA c w e=some (BU c w e):=by
  have hp:=XQ hc hw
  have hx:=tB hc hw
  have hsm:=hc.small
  unfold BA xE BU
  rw [kG hsm.1,fL,decide_eq_true hc,bQ,decide_eq_true hw,hx]
  simp only [Option.bind_some,Bool.not_true,Bool.false_eq_true,if_false,mX,hx]
  generalize cC c w=p at *
  have ew:aZ (p.Seen+1)=p.Seen+1:=aK (by have:=hp.2.1;omega) (by have:=hp.2.1;omega)
  cases h1:p.On
  · simp
  · cases h2:p.cR
    · by_cases h3:p.aG=e
      · simp [h3]
      · have h3':(p.aG == e)=false:=by simpa using h3
        by_cases h4:p.Seen=2
        · simp [h3,h3',h4]
        · have h4':(p.Seen == 2)=false:=by simpa using h4
          simp [h3,h3',h4,h4',ew]
    · simp
def aAP(c:aD)(e:Int):aD×Bool:=if c.aG=e∧e≠100000 then (⟨e+1,c.aQ⟩,true) else (c,false)
theorem aMV{c:aD}(hc:FR c)(e:Int):HN c e=some (aAP c e):=by
  have hsm:=hc.small
  unfold HN xF aAP
  rw [kG hsm.1,fL,decide_eq_true hc]
  simp only [Option.bind_some,Bool.not_true,Bool.false_eq_true,if_false]
  by_cases h1:c.aG=e
  · have he:=hc.1
    have ew:aZ (e+1)=e+1:=aK (by omega) (by omega)
    by_cases h2:e=100000
    · simp [h1,h2]
    · have h2':(e == 100000)=false:=by simpa using h2
      simp [h1,h2,h2',ew]
  · simp [h1]
def MV(c:aD)(w e:Int):aD×Bool:=if 0≤e∧e≤c.aG then (⟨c.aG,c.aQ.set w.toNat ⟨true,e,false,0⟩⟩,true) else (c,false)
theorem aI9{c:aD}(hc:FR c){w:Int}(hw:0≤w∧w≤2)(e:Int):D4 c w e=some (MV c w e):=by
  have hsm:=hc.small
  unfold D4 tZ MV
  rw [kG hsm.1,fL,decide_eq_true hc,bQ,decide_eq_true hw,bQ]
  simp only [Option.bind_some,Bool.not_true,Bool.false_eq_true,if_false]
  by_cases h1:0≤e∧e≤c.aG
  · simp [h1,tB hc hw]
  · simp [h1]
def MW(c:aD)(w:Int):aD×Bool:=if (cC c w).On then (⟨c.aG,c.aQ.set w.toNat ⟨false,0,false,0⟩⟩,true) else (c,false)
theorem aAQ{c:aD}(hc:FR c){w:Int}(hw:0≤w∧w≤2):zT c w=some (MW c w):=by
  have hsm:=hc.small
  have hx:=tB hc hw
  unfold zT t7 MW
  rw [kG hsm.1,fL,decide_eq_true hc,bQ,decide_eq_true hw,hx]
  simp only [Option.bind_some,Bool.not_true,Bool.false_eq_true,if_false,hx]
  cases h1:(cC c w).On <;> simp
def y6(b:aA)(s:Sub):aA×Sub:=
  if s.Pc=0 then (b,{s with Pc:=1,E:=b.aD.aG,B:=0})
  else if s.Pc=1 then
    if 0≤s.B∧s.B≤2 then
      if (BU b.aD s.B s.E).2 then ({b with aD:=(BU b.aD s.B s.E).1},{s with Pc:=if s.B=2 then 2 else 1,B:=s.B+1})
      else ({b with aD:=(BU b.aD s.B s.E).1},CE s 8)
    else (b,CE s 1)
  else if s.Pc=2 then ({b with aD:=(aAP b.aD s.E).1},CE {s with Out:=if (aAP b.aD s.E).2 then 1 else s.Out} 0)
  else (b,CE s 1)
theorem aEB{b:aA}(hc:FR b.aD)(s:Sub):oT b s=some (y6 b s):=by
  unfold oT y6
  rw [aMV hc,bQ]
  simp only [bC,nV,nW,Option.bind_some]
  by_cases p0:s.Pc=0
  · have p0':(s.Pc == 0)=true:=by simpa using p0
    simp only [p0',if_true,if_pos p0]
  · have p0':(s.Pc == 0)=false:=by simpa using p0
    simp only [p0',Bool.false_eq_true,if_false,if_neg p0]
    by_cases p1:s.Pc=1
    · have p1':(s.Pc == 1)=true:=by simpa using p1
      simp only [p1',if_true,if_pos p1]
      by_cases hB:0≤s.B∧s.B≤2
      · have ew:aZ (s.B+1)=s.B+1:=aK (by omega) (by omega)
        simp only [decide_eq_true hB,Bool.not_true,Bool.false_eq_true,if_false,if_pos hB,aMU hc hB,Option.bind_some,ew]
        cases h:(BU b.aD s.B s.E).2
        · simp [CE]
        · by_cases q:s.B=2
          · have q':(s.B+1 == 3)=true:=by simp [q]
            simp [q',q]
          · have q':(s.B+1 == 3)=false:=by simp;omega
            simp [q',q,p1]
      · simp only [decide_eq_false hB,Bool.not_false,if_true,if_neg hB];rfl
    · have p1':(s.Pc == 1)=false:=by simpa using p1
      simp only [p1',Bool.false_eq_true,if_false,if_neg p1]
      by_cases p2:s.Pc=2
      · have p2':(s.Pc == 2)=true:=by simpa using p2
        simp only [p2',if_true,if_pos p2]
        cases h:(aAP b.aD s.E).2 <;> rfl
      · have p2':(s.Pc == 2)=false:=by simpa using p2
        simp only [p2',Bool.false_eq_true,if_false,if_neg p2];rfl
def ZJ(b:aA)(w:Int)(s:Sub):aA×Sub:=
  if s.Pc=0 then (b,{s with Pc:=1,E:=b.aD.aG})
  else if s.Pc=1 then
    if (MV b.aD w s.E).2 then ({b with aD:=(MV b.aD w s.E).1},{s with Pc:=2}) else ({b with aD:=(MV b.aD w s.E).1},CE s 1)
  else if s.Pc=2 then if b.aD.aG=s.E then (b,CE s 0) else (b,{s with Pc:=0})
  else (b,CE s 1)
theorem aPC{b:aA}(hc:FR b.aD){w:Int}(hw:0≤w∧w≤2)(s:Sub):BD b w s=some (ZJ b w s):=by
  unfold BD ZJ
  rw [aI9 hc hw]
  simp only [bC,Option.bind_some]
  by_cases p0:s.Pc=0
  · have p0':(s.Pc == 0)=true:=by simpa using p0
    simp only [p0',if_true,if_pos p0]
  · have p0':(s.Pc == 0)=false:=by simpa using p0
    simp only [p0',Bool.false_eq_true,if_false,if_neg p0]
    by_cases p1:s.Pc=1
    · have p1':(s.Pc == 1)=true:=by simpa using p1
      simp only [p1',if_true,if_pos p1]
      cases h:(MV b.aD w s.E).2 <;> rfl
    · have p1':(s.Pc == 1)=false:=by simpa using p1
      simp only [p1',Bool.false_eq_true,if_false,if_neg p1]
      by_cases p2:s.Pc=2
      · have p2':(s.Pc == 2)=true:=by simpa using p2
        simp only [p2',if_true,if_pos p2]
        by_cases q:b.aD.aG=s.E
        · have q':(b.aD.aG == s.E)=true:=by simpa using q
          simp only [q',if_true,if_pos q];rfl
        · have q':(b.aD.aG == s.E)=false:=by simpa using q
          simp only [q',Bool.false_eq_true,if_false,if_neg q]
      · have p2':(s.Pc == 2)=false:=by simpa using p2
        simp only [p2',Bool.false_eq_true,if_false,if_neg p2];rfl
def wJ(l:List aR)(w:Int):List cT:=(l.getD w.toNat ⟨[]⟩).Rows
theorem JL{l:List aR}(hl:nF l){w:Int}(hw:0≤w∧w≤2):idx l w=some ⟨wJ l w⟩:=by
  have:=hl.1
  rw [eO hw.1 (by omega)]
  simp [wJ,List.getD_eq_getElem?_getD,List.getElem?_eq_getElem (show w.toNat < l.length by omega)]
theorem aAR{l:List aR}(hl:nF l){w:Int}(hw:0≤w∧w≤2):(wJ l w).length≤24:=by
  have h:=JL hl hw
  have h3:=hl.1
  rw [eO hw.1 (by omega)] at h
  injection h with h
  have:=hl.small.2.2.2 _ (List.getElem_mem (show w.toNat < l.length by omega))
  rw [h] at this;exact this
def QV(b:aA)(w:Int)(s:Sub):aA×Sub:=
  if s.Pc=0 then (b,{s with Pc:=1,E:=b.aD.aG})
  else if s.Pc=1 then
    if 0≤s.E∧s.E≤b.aD.aG then
      if nG b.Mem s.A∧¬K6 b.aJ (s.A % 32) then ({b with aJ:=b.aJ.set w.toNat ⟨wJ b.aJ w ++ [⟨s.A,s.E⟩]⟩},CE s 0) else (b,CE s 4)
    else (b,CE s 1)
  else (b,CE s 1)
theorem aGI{b:aA}(hb:l7 b){w:Int}(hw:0≤w∧w≤2)(s:Sub):qQ b w s=some (QV b w s):=by
  have hL:=hb.1.2.2.1
  have hm:=hb.1.1
  obtain⟨h1,h2,h3,_⟩:=oM.facts hm
  have hx:=JL hL hw
  have hrow:=aAR hL hw
  unfold qQ QV
  rw [bQ,o9 hm.1.1.1 (by omega) (by simp only [maxLen];omega) (by simp only [maxLen];omega),cM]
  simp only [bC,Option.bind_some,pY,xD]
  by_cases p0:s.Pc=0
  · have p0':(s.Pc == 0)=true:=by simpa using p0
    simp only [p0',if_true,if_pos p0]
  · have p0':(s.Pc == 0)=false:=by simpa using p0
    simp only [p0',Bool.false_eq_true,if_false,if_neg p0]
    by_cases p1:s.Pc=1
    · have p1':(s.Pc == 1)=true:=by simpa using p1
      simp only [p1',if_true,if_pos p1]
      by_cases q1:0≤s.E∧s.E≤b.aD.aG
      · simp only [decide_eq_true q1,Bool.not_true,Bool.false_eq_true,if_false,if_pos q1]
        by_cases q2:nG b.Mem s.A
        · have hh:=q2.1
          simp only [decide_eq_true q2,Bool.not_true,Bool.false_eq_true,if_false,if_pos hh,KM hL,Option.bind_some]
          by_cases q3:K6 b.aJ (s.A % 32)
          · simp only [decide_eq_true q3,if_true,if_neg (show ¬(nG b.Mem s.A∧¬K6 b.aJ (s.A % 32)) from fun h=>h.2 q3)];rfl
          · simp only [decide_eq_false q3,Bool.false_eq_true,if_false,hx,Option.bind_some,if_pos (show nG b.Mem s.A∧¬K6 b.aJ (s.A % 32) from ⟨q2,q3⟩)]
            rw [aO (by simp;omega)];rfl
        · simp only [decide_eq_false q2,Bool.not_false,if_true,if_neg (show ¬(nG b.Mem s.A∧¬K6 b.aJ (s.A % 32)) from fun h=>q2 h.1)];rfl
      · simp only [decide_eq_false q1,Bool.not_false,if_true,if_neg q1];rfl
    · have p1':(s.Pc == 1)=false:=by simpa using p1
      simp only [p1',Bool.false_eq_true,if_false,if_neg p1];rfl
def KO(r:cT)(e:Int):Prop:=2≤e∧r.aG≤aZ (e - 2)
instance (r:cT) (e:Int):Decidable (KO r e):=by unfold KO;infer_instance
theorem XR(r:cT)(e:Int):DO r e=some (decide (KO r e)):=by
  unfold DO CY KO
  by_cases h:2≤e
  · rw [decide_eq_true h,if_pos rfl]
    simp [h]
  · simp [h]
def BV(l:List cT)(e:Int)(k:Nat):Nat:=k+(l.drop k).findIdx (fun r=>decide (KO r e))
theorem aMW{l:List cT}(hl:l.length≤1000){from_ e:Int}:sH l from_ e=some (if BV l e from_.toNat < l.length then (BV l e from_.toNat:Int) else -1):=by
  have hst:(if 0 < from_ then from_ else 0)=(from_.toNat:Int):=by split <;> omega
  unfold sH
  rw [hst]
  have key:∀d k:Nat,l.length≤k+d→loop (dO l e) (k:Int)=some (if BV l e k < l.length then Out.ret (BV l e k:Int) else Out.brk ()):=by
    intro d
    induction d with
    | zero =>
      intro k hk
      rw [bT (r:=Out.brk ()) (by simp only [dO];rw [if_neg (by simp;omega)]),if_neg (by unfold BV;omega)]
    | succ d ih =>
      intro k hk
      by_cases hkl:k < l.length
      · have hd:l.drop k=l[k] :: l.drop (k+1):=List.drop_eq_getElem_cons hkl
        by_cases hr:KO l[k] e
        · have hs:BV l e k=k:=by unfold BV;rw [hd,List.findIdx_cons,decide_eq_true hr];rfl
          rw [bT (r:=Out.ret (k:Int)) (by simp only [dO];rw [if_pos (by simp;omega),aT hkl,Option.bind_some,XR _ e,Option.bind_some,decide_eq_true hr,if_pos rfl]),hs,if_pos hkl]
        · have hs:BV l e k=BV l e (k+1):=by unfold BV;rw [hd,List.findIdx_cons,decide_eq_false hr];simp only [cond_false];omega
          rw [bM (s':=((k+1:Nat):Int)) (by simp only [dO];rw [if_pos (by simp;omega),aT hkl,Option.bind_some,XR _ e,Option.bind_some,decide_eq_false hr,if_neg (by simp),aK (by omega) (by omega)];rfl),ih (k+1) (by omega),hs]
      · rw [bT (r:=Out.brk ()) (by simp only [dO];rw [if_neg (by simp;omega)]),if_neg (by unfold BV;omega)]
  rw [key l.length from_.toNat (by omega)]
  split <;> rfl
def aMX(m:Mem)(w h:Int):Mem:=
  if h / 32+1≤6 then
    if (cL m.aB.aX (w * 3+aV m.aC (h % 32)).toNat).length < 2 then ⟨⟨XB m.aC.Bytes (eI (h % 32) (aV m.aC (h % 32))).toNat (h / 32+1),m.aC.Class⟩,⟨m.aB.Global,m.aB.aX.set (w * 3+aV m.aC (h % 32)).toNat ⟨cL m.aB.aX (w * 3+aV m.aC (h % 32)).toNat ++ [h % 32]⟩⟩⟩
    else ⟨⟨XB m.aC.Bytes (eI (h % 32) (aV m.aC (h % 32))).toNat (h / 32+1),m.aC.Class⟩,⟨m.aB.Global.set (aV m.aC (h % 32)).toNat ⟨cL m.aB.Global (aV m.aC (h % 32)).toNat ++ [h % 32]⟩,m.aB.aX⟩⟩
  else ⟨⟨XB m.aC.Bytes (eI (h % 32) (aV m.aC (h % 32))).toNat (h / 32+1),m.aC.Class⟩,m.aB⟩
theorem aMY{m:Mem}(hm:oM m){w h:Int}(hw:0≤w∧w≤2)(hv:nG m h):BC m w (h % 32)=some (aMX m w h):=by
  obtain⟨hcnt,h3,h9,h1,h2,hsm,hcp,hlo,hsG,hsO⟩:=oM.facts hm
  have hs:=hm.1.1.1
  have hh:=hv.1
  have hcl:=wW hv.2.1
  have hgo:=A0 hcl
  have hc2:0≤aV m.aC (h % 32)∧aV m.aC (h % 32)≤2:=by
    obtain⟨_,q,e⟩:=vV hcl
    rw [e];exact iX.1 (by omega)
  have hg6:1≤h / 32∧h / 32≤6:=by unfold kA at hh;omega
  have eo:eI (h % 32) (aV m.aC (h % 32))=(((eI (h % 32) (aV m.aC (h % 32))).toNat:Nat):Int):=by omega
  have ew:aZ (h / 32+1)=h / 32+1:=aK (by omega) (by omega)
  unfold BC aMX
  rw [gC hs,Option.bind_some,mB hs hcl,hv.2.2,Option.bind_some,pP,Option.bind_some,ew]
  generalize hgn:(eI (h % 32) (aV m.aC (h % 32))).toNat=a at eo
  rw [eo,CC (by omega) (by omega) (by omega)]
  simp only [Option.bind_some,D3,D2,ew]
  generalize aV m.aC (h % 32)=c at *
  by_cases q:h / 32+1≤6
  · have hk:(w * 3+c).toNat < m.aB.aX.length:=by omega
    have hx:idx m.aB.aX (w * 3+c)=some m.aB.aX[(w * 3+c).toNat]:=eO (by omega) (by omega)
    have hk2:c.toNat < m.aB.Global.length:=by omega
    have hx2:idx m.aB.Global c=some m.aB.Global[c.toNat]:=eO (by omega) (by omega)
    have b1:=hsO _ (List.getElem_mem hk)
    have b2:=hsG _ (List.getElem_mem hk2)
    rw [decide_eq_true q,if_pos rfl,if_pos q]
    unfold LO
    rw [(EN hw hc2).1]
    simp only [Option.bind_some,hx,hx2,D1,LM,LN,←cV hk,←cV hk2]
    by_cases q2:m.aB.aX[(w * 3+c).toNat].aP.length < 2
    · have y1:(m.aB.aX[(w * 3+c).toNat].aP.length:Int) < 2:=by omega
      simp only [decide_eq_true y1,if_true,if_pos q2]
      rw [aO (by simp;omega)];rfl
    · have y1:¬(m.aB.aX[(w * 3+c).toNat].aP.length:Int) < 2:=by omega
      simp only [decide_eq_false y1,Bool.false_eq_true,if_false,if_neg q2]
      rw [aO (by simp;omega)];rfl
  · rw [decide_eq_false q,if_neg (by simp),if_neg q]
def OF(z:List Int)(w:Int):Int:=z.getD w.toNat 0
theorem IG{z:List Int}(hz:EX z){w:Int}(hw:0≤w∧w≤2):idx z w=some (OF z w):=by
  have:=hz.1
  rw [eO hw.1 (by omega)]
  simp [OF,List.getD_eq_getElem?_getD,List.getElem?_eq_getElem (show w.toNat < z.length by omega)]
def MX(l:List cT)(k:Int):cT:=l.getD k.toNat ⟨0,0⟩
theorem QW{l:List cT}{k:Int}(h:0≤k∧k < l.length):idx l k=some (MX l k):=by
  rw [eO h.1 h.2]
  simp [MX,List.getD_eq_getElem?_getD,List.getElem?_eq_getElem (show k.toNat < l.length by omega)]
def KP(l:List cT)(s:Sub):Prop:=0≤s.Row∧s.Row < l.length∧(MX l s.Row).Handle=s.H
instance (l:List cT) (s:Sub):Decidable (KP l s):=by unfold KP;infer_instance
def MY(b:aA)(w:Int)(s:Sub):aA×Sub:=
  if s.Pc=0 then (b,{s with Pc:=1,E:=b.aD.aG,Row:=0})
  else if s.Pc=1 then
    if BV (wJ b.aJ w) s.E s.Row.toNat < (wJ b.aJ w).length then (b,{s with Pc:=2,Row:=(BV (wJ b.aJ w) s.E s.Row.toNat:Int),B:=0,H:=(MX (wJ b.aJ w) (BV (wJ b.aJ w) s.E s.Row.toNat:Int)).Handle})
    else (b,CE s 0)
  else if s.Pc=2 then
    if (0≤s.B∧s.B≤2)∧KP (wJ b.aJ w) s then
      if OF b.dI s.B=s.H then (b,{s with Pc:=1,Row:=s.Row+1}) else (b,{s with Pc:=if s.B=2 then 3 else 2,B:=s.B+1})
    else (b,CE s 1)
  else if s.Pc=3 then
    if KP (wJ b.aJ w) s∧KO (MX (wJ b.aJ w) s.Row) s.E then ({b with Mem:=aMX b.Mem w s.H,aJ:=b.aJ.set w.toNat ⟨(wJ b.aJ w).eraseIdx s.Row.toNat⟩},{s with Pc:=1,Out:=aZ (s.Out+1)})
    else (b,CE s 1)
  else (b,CE s 1)
theorem aEC{l:List aR}(hl:nF l){w:Int}(hw:0≤w∧w≤2){r:cT}(hr:r∈wJ l w):r∈bE l:=by
  have h:=JL hl hw
  have h3:=hl.1
  rw [eO hw.1 (by omega)] at h
  injection h with h
  exact List.mem_flatMap.2 ⟨l[w.toNat],List.getElem_mem _,by rw [h];exact hr⟩
theorem aMZ{l:List cT}{k:Int}(h:0≤k∧k < l.length):MX l k∈l:=by
  have:=QW h
  rw [eO h.1 h.2] at this
  injection this with this
  rw [←this];exact List.getElem_mem _
theorem aED{b:aA}(hb:l7 b){w:Int}(hw:0≤w∧w≤2)(s:Sub):oV b w s=some (MY b w s):=by
  have hL:=hb.1.2.2.1
  have hm:=hb.1.1
  have hx:=JL hL hw
  have hrow:=aAR hL hw
  have hfl:=fun r hr=>aEC hL hw (r:=r) hr
  unfold oV MY
  rw [hx]
  simp only [Option.bind_some,bC]
  generalize wJ b.aJ w=l at *
  by_cases p0:s.Pc=0
  · have p0':(s.Pc == 0)=true:=by simpa using p0
    simp only [p0',if_true,if_pos p0]
  have p0':(s.Pc == 0)=false:=by simpa using p0
  simp only [p0',Bool.false_eq_true,if_false,if_neg p0]
  by_cases p1:s.Pc=1
  · have p1':(s.Pc == 1)=true:=by simpa using p1
    simp only [p1',if_true,if_pos p1,aMW (show l.length≤1000 by omega),Option.bind_some]
    by_cases q:BV l s.E s.Row.toNat < l.length
    · have n:¬(BV l s.E s.Row.toNat:Int) < 0:=by omega
      simp only [if_pos q,decide_eq_false n,Bool.false_eq_true,if_false,QW (l:=l) (k:=(BV l s.E s.Row.toNat:Int)) (by omega),Option.bind_some]
    · simp only [if_neg q,decide_eq_true (show(-1:Int) < 0 by omega),if_true];rfl
  have p1':(s.Pc == 1)=false:=by simpa using p1
  simp only [p1',Bool.false_eq_true,if_false,if_neg p1]
  have el:aZ ((l.length:Int) - 1)=(l.length:Int) - 1:=aK (by omega) (by omega)
  by_cases p2:s.Pc=2
  · have p2':(s.Pc == 2)=true:=by simpa using p2
    simp only [p2',if_true,if_pos p2,bQ,el,Option.bind_some,dZ,nX,bC]
    by_cases hB:0≤s.B∧s.B≤2
    · simp only [decide_eq_true hB,Bool.not_true,Bool.false_eq_true,if_false]
      by_cases hR:0≤s.Row∧s.Row≤(l.length:Int) - 1
      · simp only [decide_eq_true hR,Bool.not_true,Bool.false_eq_true,if_false,QW (l:=l) (k:=s.Row) (by omega),Option.bind_some]
        by_cases hH:(MX l s.Row).Handle=s.H
        · have hH':((MX l s.Row).Handle != s.H)=false:=by simpa using hH
          have ha:(0≤s.B∧s.B≤2)∧KP l s:=⟨hB,hR.1,by omega,hH⟩
          have e1:aZ (s.B+1)=s.B+1:=aK (by omega) (by omega)
          have e2:aZ (s.Row+1)=s.Row+1:=aK (by omega) (by omega)
          simp only [hH',Bool.false_eq_true,if_false,if_pos ha,IG hb.1.2.2.2 hB,Option.bind_some,e1,e2]
          by_cases hz:OF b.dI s.B=s.H
          · have hz':(OF b.dI s.B == s.H)=true:=by simpa using hz
            simp only [hz',if_true,if_pos hz]
          · have hz':(OF b.dI s.B == s.H)=false:=by simpa using hz
            simp only [hz',Bool.false_eq_true,if_false,if_neg hz]
            by_cases q:s.B=2
            · have q':(s.B+1 == 3)=true:=by simp [q]
              simp only [q',if_true,if_pos q]
            · have q':(s.B+1 == 3)=false:=by simp;omega
              simp only [q',Bool.false_eq_true,if_false,if_neg q,p2]
        · have hH':((MX l s.Row).Handle != s.H)=true:=by simpa using hH
          have ha:¬((0≤s.B∧s.B≤2)∧KP l s):=fun h=>hH h.2.2.2
          simp only [hH',if_true,if_neg ha,Option.bind_some];rfl
      · have ha:¬((0≤s.B∧s.B≤2)∧KP l s):=fun h=>hR ⟨h.2.1,by have:=h.2.2.1;omega⟩
        simp only [decide_eq_false hR,Bool.not_false,if_true,if_neg ha,Option.bind_some];rfl
    · have ha:¬((0≤s.B∧s.B≤2)∧KP l s):=fun h=>hB h.1
      simp only [decide_eq_false hB,Bool.not_false,if_true,if_neg ha,Option.bind_some];rfl
  have p2':(s.Pc == 2)=false:=by simpa using p2
  simp only [p2',Bool.false_eq_true,if_false,if_neg p2]
  by_cases p3:s.Pc=3
  · have p3':(s.Pc == 3)=true:=by simpa using p3
    simp only [p3',if_true,if_pos p3,bQ,el,Option.bind_some,d4,wA,bC]
    by_cases hR:0≤s.Row∧s.Row≤(l.length:Int) - 1
    · simp only [decide_eq_true hR,Bool.not_true,Bool.false_eq_true,if_false,QW (l:=l) (k:=s.Row) (by omega),Option.bind_some]
      by_cases hH:(MX l s.Row).Handle=s.H
      · have hH':((MX l s.Row).Handle != s.H)=false:=by simpa using hH
        simp only [hH',Bool.false_eq_true,if_false,XR,Option.bind_some]
        by_cases hr:KO (MX l s.Row) s.E
        · have ha:KP l s∧KO (MX l s.Row) s.E:=⟨⟨hR.1,by omega,hH⟩,hr⟩
          have e2:aZ (s.Row+1)=s.Row+1:=aK (by omega) (by omega)
          have hlive:=(hb.2 _ (hfl _ (aMZ (l:=l) (k:=s.Row) (by omega)))).1
          rw [hH] at hlive
          have et:(s.Row+1).toNat=s.Row.toNat+1:=by omega
          simp only [decide_eq_true hr,Bool.not_true,Bool.false_eq_true,if_false,if_pos ha,e2,cM,if_pos hlive.1,Option.bind_some,aMY hm hw hlive,et]
          rw [aO (by omega),aO (by omega),aO (by omega),del_eq (by omega)]
        · have ha:¬(KP l s∧KO (MX l s.Row) s.E):=fun h=>hr h.2
          simp only [decide_eq_false hr,Bool.not_false,if_true,if_neg ha,Option.bind_some];rfl
      · have hH':((MX l s.Row).Handle != s.H)=true:=by simpa using hH
        have ha:¬(KP l s∧KO (MX l s.Row) s.E):=fun h=>hH h.1.2.2
        simp only [hH',if_true,if_neg ha,Option.bind_some];rfl
    · have ha:¬(KP l s∧KO (MX l s.Row) s.E):=fun h=>hR ⟨h.1.1,by have:=h.1.2.1;omega⟩
      simp only [decide_eq_false hR,Bool.not_false,if_true,if_neg ha,Option.bind_some];rfl
  · have p3':(s.Pc == 3)=false:=by simpa using p3
    simp only [p3',Bool.false_eq_true,if_false,if_neg p3];rfl
def f8(b:aA)(w:Int)(s:Sub):aA×Sub:=
  if s.dB then (b,s) else if s.Kind=1 then XP b w s else if s.Kind=2 then QV b w s else if s.Kind=3 then y6 b s else if s.Kind=4 then MY b w s else if s.Kind=5 then ZJ b w s else (b,CE s 1)
theorem aCA{b:aA}(hb:l7 b){w:Int}(hw:0≤w∧w≤2)(s:Sub):qR b w s=some (f8 b w s):=by
  unfold qR f8
  rw [aI8 hb.1.1 hw,aGI hb hw,aEB hb.1.2.1,aED hb hw,aPC hb.1.2.1 hw]
  simp only [Option.bind_some,bC]
  cases s.dB
  · simp only [Bool.false_eq_true,if_false,beq_iff_eq]
    split <;> (try rfl)
    split <;> (try rfl)
    split <;> (try rfl)
    split <;> (try rfl)
    split <;> rfl
  · rfl
end Go.Gv
end
noncomputable section
set_option linter.unusedVariables false
set_option linter.unusedSimpArgs false
set_option linter.unusedSectionVars false
namespace Go.Gv
def aM0:aC:=⟨List.replicate 384 0,[-1,-1,-1,-1,-1,-1]⟩
def aRX:aB:=⟨List.replicate 3 ⟨[]⟩,List.replicate 9 ⟨[]⟩⟩
def aEE:aA:=⟨⟨aM0,aRX⟩,⟨0,List.replicate 3 ⟨false,0,false,0⟩⟩,List.replicate 3 ⟨[]⟩,List.replicate 3 0⟩
theorem UB:DE=some aM0:=by
  unfold DE
  have key:loop o8 (0,[])=some (List.replicate 6 (-1)):=f9 (f:=o8) 6 (fun k=>((k:Int),List.replicate k (-1))) _ (fun k hk=>by
    simp only [o8]
    rw [if_pos (by simp;omega),aO (by simp;omega),aK (by omega) (by omega),List.replicate_succ'];rfl) (by simp [o8])
  rw [aO (by omega),key];rfl
theorem aRY:p5 [-1] 6=some [-1,-1,-1,-1,-1,-1]:=by
  unfold p5
  rw [if_neg (by simp),show GB (IntKind.u64.wrap (([-1]:List Int).length:Int)) (IntKind.u64.wrap 6)=some (0,6) by kernel_rfl]
  simp only [Option.bind_some]
  rw [if_neg (by simp),decide_eq_false (by omega)]
  simp only [l6,Bool.false_eq_true,if_false]
  rw [show IntKind.i64.wrap 6=6 from wrap_i64 (by omega) (by omega),aO (by omega),
    show(cX (List.replicate (Int.toNat 6) 0) 0 [-1],((min ([-1]:List Int).length ((List.replicate (Int.toNat 6) (0:Int)).length - 0):Nat):Int))=([-1,0,0,0,0,0],1) by kernel_rfl,
    bM (body:=iU) (s':=([-1,-1,0,0,0,0],2)) (by kernel_rfl),bM (body:=iU) (s':=([-1,-1,-1,-1,0,0],4)) (by kernel_rfl),
    bM (body:=iU) (s':=([-1,-1,-1,-1,-1,-1],6)) (by kernel_rfl),bT (body:=iU) (r:=[-1,-1,-1,-1,-1,-1]) (by kernel_rfl)]
  rfl
theorem UC:DG=some aM0:=by
  unfold DG
  rw [aO (by omega),aRY];rfl
theorem XS:DF=some aEE∧DH=some aEE:=by
  unfold DF DH LZ L7 GI GL GJ GM GK GN L4 L8
  rw [UB,UC,aO (by omega),aO (by omega),aO (by omega),aO (by omega),aO (by omega)]
  exact⟨rfl,rfl⟩
theorem aM1:l7 aEE:=of_decide_eq_true (by kernel_rfl)
def aIA:aE:=⟨⟨⟨⟨[],[]⟩,⟨[],[]⟩⟩,⟨0,[]⟩,[],[]⟩,[],[],[],[],0⟩
def wK(t:List Queue):aE:=⟨aEE,List.replicate 2 0,List.replicate 3 QT,t,[],0⟩
theorem aJA{t:List Queue}(h:EZ t):CD (wK t):=
  ⟨aM1,rfl,rfl,h,by simp [wK],fun q hq=>by simp [wK] at hq;exact .inl hq,fun j hj=>by simp [wK] at hj;exact(MT (by rw [hj];rfl)).2 hj⟩
theorem aAS{l:List Queue}(hl:l.length≤1048576)(hq:∀q∈l,q.gO.length≤1048576):xA l=some l∧AF l=some l:=by
  constructor
  · unfold xA
    rw [QH l]
    · rfl
    · intro k hk
      have:=hq _ (List.getElem_mem hk)
      simp only [w9]
      rw [if_pos (by simp;omega),aT hk]
      simp only [Option.bind_some]
      rw [aO (by simp;omega),aO (by simp;omega),aK (by omega) (by omega)];rfl
    · simp [w9]
  · unfold AF
    rw [QH l]
    · rfl
    · intro k hk
      have:=hq _ (List.getElem_mem hk)
      simp only [zU]
      rw [if_pos (by simp;omega),aT hk]
      simp only [Option.bind_some,B7]
      rw [aO (by simp;omega),Option.bind_some,aO (by simp;omega),aK (by omega) (by omega)];rfl
    · simp [zU]
theorem SR{t:List Queue}(hl:t.length≤1048576)(hq:∀q∈t,q.gO.length≤1048576):AU t=some (if EZ t then wK t else aIA)∧AW t=some (if EZ t then wK t else aIA):=by
  have hm:t.length≤maxLen:=by simp only [maxLen];omega
  unfold AU AW
  rw [QP hm,QQ hm (fun q h=>by have:=hq q h;simp only [maxLen];omega)]
  simp only [Option.bind_some]
  by_cases h:EZ t
  · simp only [decide_eq_true h,Bool.not_true,Bool.false_eq_true,if_false,if_pos h,XS.1,XS.2,Option.bind_some,(aAS hl hq).1,(aAS hl hq).2]
    rw [aO (by omega),aO (by omega),aO (by omega),aO (by omega)]
    exact⟨rfl,rfl⟩
  · simp only [decide_eq_false h,Bool.not_false,if_true,if_neg h]
    exact⟨rfl,rfl⟩
end Go.Gv
end
noncomputable section
set_option linter.unusedVariables false
set_option linter.unusedSimpArgs false
set_option linter.unusedSectionVars false
namespace Go.Gv
def QX(s:aE):Prop:=R1 s.aA∧s.Cells.length≤1048576∧s.aM.length≤1048576∧s.bL.length≤1048576∧(∀q∈s.bL,q.gO.length≤1048576)∧s.Log.length≤1048576
theorem QX.fits{s:aE}(h:QX s):s.aA.Mem.aC.Bytes.length≤maxLen∧(dC s.aA.Mem.aB).length≤1073741824∧s.aA.aD.aQ.length≤maxLen∧s.aA.aJ.length≤maxLen∧(bE s.aA.aJ).length≤1073741824∧s.aA.dI.length≤maxLen:=by
  obtain⟨⟨⟨a1,a2,a3,a4,a5⟩,b1,b2,b3,b4⟩,_⟩:=h
  simp only [maxLen];omega
end Go.Gv
end
noncomputable section
set_option linter.unusedVariables false
set_option linter.unusedSimpArgs false
set_option linter.unusedSectionVars false
namespace Go.Gv
def MZ(m:Mem)(h n:Int):Mem×Int:=if nG m h then (⟨⟨EY m.aC.Bytes ((eI (h % 32) (aV m.aC (h % 32))).toNat+4) n,m.aC.Class⟩,m.aB⟩,0) else (m,4)
theorem aP9{h:aC}{s:Int}(hcl:0≤aV h s):(eI s (aV h s)).toNat+8≤384∧8≤e9 (aV h s)∧e9 (aV h s)≤40:=by
  have hc2:0≤aV h s∧aV h s≤2:=by
    obtain⟨_,q,e⟩:=vV hcl
    rw [e];exact iX.1 (by omega)
  have hz:8≤e9 (aV h s)∧e9 (aV h s)≤40:=by rcases fA hc2 with e | e | e <;> rw [e] <;> decide
  obtain⟨p,i,p6,hi,es,ec,eo,ep⟩:=BT hcl
  refine⟨?_,hz⟩
  rw [eo]
  have hcl':0≤bO h p∧bO h p≤2:=by rw [←ec];exact hc2
  generalize bO h p=c at hi hcl'
  rcases fA hcl' with rfl | rfl | rfl
  · rw [show(bY 0).toNat=4 from rfl] at hi;rw [show(aS 0).toNat=12 from rfl];omega
  · rw [show(bY 1).toNat=2 from rfl] at hi;rw [show(aS 1).toNat=20 from rfl];omega
  · rw [show(bY 2).toNat=1 from rfl] at hi;rw [show(aS 2).toNat=44 from rfl];omega
theorem aJB{m:Mem}(hm:oM m){h n:Int}(hn:0≤n∧n≤65535):xI m h 0 4 n=some (MZ m h n):=by
  obtain⟨hcnt,h3,h9,h1,h2,hsm,hcp,hlo,hsG,hsO⟩:=oM.facts hm
  have hs:=hm.1.1.1
  have hbl:m.aC.Bytes.length≤maxLen:=by rw [h1];simp [maxLen]
  have hall:(dC m.aB).length≤1073741824:=by omega
  have hg:m.aB.Global.length≤maxLen:=by rw [h3];simp [maxLen]
  have ho:m.aB.aX.length≤maxLen:=by rw [h9];simp [maxLen]
  unfold xI LP MZ
  rw [SP hsm,GZ hbl hall,decide_eq_true hm,bQ]
  simp only [Option.bind_some,Bool.not_true,Bool.false_eq_true,if_false,xH,show(decide ((1:Int)≤4∧(4:Int)≤7))=true from rfl,o9 hs hall hg ho]
  by_cases hv:nG m h
  · have hh:=hv.1
    have hcl:=wW hv.2.1
    have hgo:=A0 hcl
    obtain⟨hroom,hz⟩:=aP9 hcl
    simp only [decide_eq_true hv,Bool.not_true,Bool.false_eq_true,if_false,if_pos hv,cM,if_pos hh,Option.bind_some,gC hs,nD,bQ]
    rw [aK (x:=e9 (aV m.aC (h % 32)) - 1) (by omega) (by omega),decide_eq_true (show(0:Int)≤0∧(0:Int)≤e9 (aV m.aC (h % 32)) - 1 by omega),aK (x:=e9 (aV m.aC (h % 32)) - 0) (by omega) (by omega),decide_eq_false (show ¬e9 (aV m.aC (h % 32)) - 0 < 4 by omega)]
    simp only [Bool.not_true,Bool.false_eq_true,if_false,xG,(start_eq hs hcl).1,Option.bind_some]
    rw [aK (x:=eI (h % 32) (aV m.aC (h % 32))+4+0) (by omega) (by omega),Int.add_zero]
    have eo':eI (h % 32) (aV m.aC (h % 32))+4=(((eI (h % 32) (aV m.aC (h % 32))).toNat+4:Nat):Int):=by omega
    obtain⟨t,ht1,ht2⟩:=SQ hn
    rw [eo']
    simp only [Option.bind_some,Bool.false_eq_true,if_false,bne_self_eq_false,ht1,ht2]
    rw [R3 (by omega) (by omega) ⟨hn.1,by omega⟩];rfl
  · simp only [decide_eq_false hv,Bool.not_false,if_true,Option.bind_some,show((4:Int) != 0)=true from rfl,if_neg hv]
def aM2(h:aC)(x:Int):Int:=if kA x∧0≤aV h (x % 32) then ld h.Bytes ((eI (x % 32) (aV h (x % 32))).toNat+4) 4 else 0
theorem aCB{s:aE}(hm:oM s.aA.Mem)(j:bJ):lW s j=some (aM2 s.aA.Mem.aC j.H):=by
  have hs:=hm.1.1.1
  have h1:=hs.1
  unfold lW FE aM2
  generalize j.H=h
  rw [dM,bQ]
  simp only [Option.bind_some,xJ,show(decide ((1:Int)≤4∧(4:Int)≤7))=true from rfl,Bool.not_true,Bool.false_eq_true,if_false]
  by_cases hh:kA h
  · simp only [decide_eq_true hh,Bool.not_true,Bool.false_eq_true,if_false,cM,if_pos hh,Option.bind_some,gC hs]
    by_cases hcl:aV s.aA.Mem.aC (h % 32) < 0
    · simp only [decide_eq_true hcl,if_true,kP,Option.bind_some,if_neg (show ¬(kA h∧0≤aV s.aA.Mem.aC (h % 32)) by omega)]
    · have hcl':0≤aV s.aA.Mem.aC (h % 32):=by omega
      have hgo:=A0 hcl'
      obtain⟨hroom,hz⟩:=aP9 hcl'
      simp only [decide_eq_false hcl,Bool.false_eq_true,if_false,nD,bQ,Option.bind_some,if_pos (show kA h∧0≤aV s.aA.Mem.aC (h % 32) from ⟨hh,hcl'⟩)]
      rw [aK (x:=e9 (aV s.aA.Mem.aC (h % 32)) - 1) (by omega) (by omega),decide_eq_true (show(0:Int)≤0∧(0:Int)≤e9 (aV s.aA.Mem.aC (h % 32)) - 1 by omega),aK (x:=e9 (aV s.aA.Mem.aC (h % 32)) - 0) (by omega) (by omega),decide_eq_false (show ¬e9 (aV s.aA.Mem.aC (h % 32)) - 0 < 4 by omega)]
      simp only [Bool.not_true,Bool.false_eq_true,if_false,kP,cM,if_pos hh,(start_eq hs hcl').1,Option.bind_some]
      rw [aK (x:=eI (h % 32) (aV s.aA.Mem.aC (h % 32))+4+0) (by omega) (by omega),Int.add_zero]
      have eo':eI (h % 32) (aV s.aA.Mem.aC (h % 32))+4=(((eI (h % 32) (aV s.aA.Mem.aC (h % 32))).toNat+4:Nat):Int):=by omega
      rw [eo',show(4:Int)=((4:Nat):Int) from rfl,yW hs.2.2.1 (by omega) (by omega) (by omega)];rfl
  · simp only [decide_eq_false hh,Bool.not_false,if_true,Option.bind_some,if_neg (show ¬(kA h∧0≤aV s.aA.Mem.aC (h % 32)) from fun q=>hh q.1)]
def XT(z:List Int)(w h:Int):List Int:=if kA h then z.set w.toNat h else z
theorem aEF{z:List Int}(hz:EX z){w:Int}(hw:0≤w∧w≤2)(h:Int):∃t,xK z w h=some (XT z w h,t):=by
  have h3:=hz.1
  unfold xK oW XT
  rw [zZ (by omega),uR (by simp only [maxLen];omega),decide_eq_true hz,bQ,decide_eq_true hw,dM]
  by_cases q:kA h
  · simp only [decide_eq_true q,IG hz hw,Option.bind_some,Bool.not_true,Bool.false_eq_true,if_false,if_pos q];exact⟨_,rfl⟩
  · simp only [decide_eq_false q,Option.bind_some,Bool.not_true,Bool.not_false,Bool.false_eq_true,if_false,if_true,if_neg q];exact⟨_,rfl⟩
def aGJ(z:List Int)(w:Int):List Int:=if OF z w=0 then z else z.set w.toNat 0
theorem aJC{z:List Int}(hz:EX z){w:Int}(hw:0≤w∧w≤2):∃t,D5 z w=some (aGJ z w,t):=by
  have h3:=hz.1
  unfold D5 t9 aGJ
  rw [zZ (by omega),uR (by simp only [maxLen];omega),decide_eq_true hz,bQ,decide_eq_true hw,IG hz hw]
  by_cases q:OF z w=0
  · have q':(OF z w == 0)=true:=by simpa using q
    simp only [q',Option.bind_some,Bool.not_true,Bool.false_eq_true,if_false,if_true,if_pos q,IG hz hw];exact⟨_,rfl⟩
  · have q':(OF z w == 0)=false:=by simpa using q
    simp only [q',Option.bind_some,Bool.not_true,Bool.false_eq_true,if_false,if_neg q,IG hz hw];exact⟨_,rfl⟩
structure JR where
  b:aA
  c:List Int
  j:bJ
  l:List Ev
def iE(j:bJ)(pc code:Int):bJ:={j with Pc:=pc,Code:=code}
def R5(kind a:Int):Sub:=⟨kind,a,0,0,0,0,0,0,0,false⟩
def cellAt(c:List Int)(k:Int):Int:=c.getD k.toNat 0
def R6(c:aD)(w:Int)(j:bJ)(pc:Int):bJ:=if (cC c w).On=true∧(cC c w).cR=false then iE j pc 0 else iE {j with fG:=0} pc 6
noncomputable section
variable (s:aE) (w:Int) (j:bJ)
def OG(h:Int):Ev:=⟨3,w,j.aN,j.Op.Cell,h,0,0⟩
def aEG:JR:=
  if j.Pc=0 then
    if (f8 s.aA w j.Sub).2.dB then
      if (f8 s.aA w j.Sub).2.Code≠0 then ⟨(f8 s.aA w j.Sub).1,s.Cells,iE {j with Sub:=(f8 s.aA w j.Sub).2} 9 (f8 s.aA w j.Sub).2.Code,[]⟩
      else if kA (f8 s.aA w j.Sub).2.Out then ⟨(f8 s.aA w j.Sub).1,s.Cells,iE {j with Sub:=(f8 s.aA w j.Sub).2,H:=(f8 s.aA w j.Sub).2.Out} 1 0,[]⟩
      else ⟨(f8 s.aA w j.Sub).1,s.Cells,iE {j with Sub:=(f8 s.aA w j.Sub).2} 9 1,[]⟩
    else ⟨(f8 s.aA w j.Sub).1,s.Cells,{j with Sub:=(f8 s.aA w j.Sub).2},[]⟩
  else if j.Pc=1 then ⟨{s.aA with Mem:=(MZ s.aA.Mem j.H j.Op.fG).1},s.Cells,if (MZ s.aA.Mem j.H j.Op.fG).2=0 then iE j 2 0 else iE j 9 (MZ s.aA.Mem j.H j.Op.fG).2,[]⟩
  else if j.Pc=2 then ⟨s.aA,s.Cells.set j.Op.Cell.toNat j.H,if cellAt s.Cells j.Op.Cell=0 then iE {j with Old:=0} 9 0 else iE {j with Sub:=R5 2 (cellAt s.Cells j.Op.Cell),Old:=cellAt s.Cells j.Op.Cell} 3 0,[⟨2,w,j.aN,j.Op.Cell,j.H,j.Op.fG,0⟩]⟩
  else if j.Pc=3 then ⟨(f8 s.aA w j.Sub).1,s.Cells,if (f8 s.aA w j.Sub).2.dB then iE {j with Sub:=(f8 s.aA w j.Sub).2} 9 (f8 s.aA w j.Sub).2.Code else {j with Sub:=(f8 s.aA w j.Sub).2},[]⟩
  else ⟨s.aA,s.Cells,iE j 9 1,[]⟩
def aCC:JR:=
  if j.Pc=0 then ⟨(f8 s.aA w j.Sub).1,s.Cells,if (f8 s.aA w j.Sub).2.dB then iE {j with Sub:=(f8 s.aA w j.Sub).2} 1 0 else {j with Sub:=(f8 s.aA w j.Sub).2},[]⟩
  else if j.Pc=1 then ⟨s.aA,s.Cells,if cellAt s.Cells j.Op.Cell=0 then iE {j with H:=0} 4 8 else iE {j with H:=cellAt s.Cells j.Op.Cell} 2 0,[OG w j (cellAt s.Cells j.Op.Cell)]⟩
  else if j.Pc=2 then ⟨s.aA,s.Cells,iE {j with fG:=aM2 s.aA.Mem.aC j.H} 3 0,[]⟩
  else if j.Pc=3 then ⟨s.aA,s.Cells,R6 s.aA.aD w j 4,[]⟩
  else if j.Pc=4 then ⟨{s.aA with aD:=(MW s.aA.aD w).1},s.Cells,iE j 9 j.Code,[]⟩
  else ⟨s.aA,s.Cells,iE j 9 1,[]⟩
def aJD:JR:=
  if j.Pc=0 then if cellAt s.Cells j.Op.Cell=0 then ⟨s.aA,s.Cells,iE {j with H:=0} 4 8,[OG w j 0]⟩ else ⟨s.aA,s.Cells,iE {j with H:=cellAt s.Cells j.Op.Cell} 1 0,[]⟩
  else if j.Pc=1 then ⟨{s.aA with dI:=XT s.aA.dI w j.H},s.Cells,iE j 2 0,[]⟩
  else if j.Pc=2 then if cellAt s.Cells j.Op.Cell=j.H then ⟨s.aA,s.Cells,iE j 3 0,[OG w j j.H]⟩ else ⟨s.aA,s.Cells,iE j 0 0,[]⟩
  else if j.Pc=3 then ⟨s.aA,s.Cells,iE {j with fG:=aM2 s.aA.Mem.aC j.H} 4 0,[]⟩
  else if j.Pc=4 then ⟨{s.aA with dI:=aGJ s.aA.dI w},s.Cells,iE j 9 j.Code,[]⟩
  else ⟨s.aA,s.Cells,iE j 9 1,[]⟩
def aAT:JR:=
  if j.Pc=0 then
    if (cC s.aA.aD w).On=false then ⟨s.aA,s.Cells,iE j 9 5,[]⟩
    else if (cC s.aA.aD w).cR=true then ⟨s.aA,s.Cells,iE j 9 6,[]⟩
    else ⟨s.aA,s.Cells,if cellAt s.Cells j.Op.Cell=0 then iE {j with H:=0} 9 8 else iE {j with H:=cellAt s.Cells j.Op.Cell} 1 0,[OG w j (cellAt s.Cells j.Op.Cell)]⟩
  else if j.Pc=1 then ⟨s.aA,s.Cells,iE {j with fG:=aM2 s.aA.Mem.aC j.H} 2 0,[]⟩
  else if j.Pc=2 then ⟨s.aA,s.Cells,R6 s.aA.aD w j 9,[]⟩
  else ⟨s.aA,s.Cells,iE j 9 1,[]⟩
def aCD:JR:=
  if j.Op.Kind=6 then
    if j.Pc=0 then ⟨{s.aA with aD:=(MW s.aA.aD w).1},s.Cells,iE j 9 (if (MW s.aA.aD w).2 then 0 else 5),[]⟩
    else ⟨s.aA,s.Cells,iE j 9 1,[]⟩
  else if j.Pc=0∨j.Pc=1∧j.Op.Kind≠5 then
    ⟨(f8 s.aA w j.Sub).1, s.Cells, if (f8 s.aA w j.Sub).2.dB then
      if j.Op.Kind=5 then iE {j with Sub:=(f8 s.aA w j.Sub).2} 9 (f8 s.aA w j.Sub).2.Code
      else if j.Pc=0 then iE {j with Sub:=R5 4 0} 1 0
      else iE {j with Sub:=(f8 s.aA w j.Sub).2,fG:=(f8 s.aA w j.Sub).2.Out} 9 (f8 s.aA w j.Sub).2.Code
      else {j with Sub:=(f8 s.aA w j.Sub).2},[]⟩
  else ⟨s.aA,s.Cells,iE j 9 1,[]⟩
def aM3:JR:=if j.Op.Kind=1 then aEG s w j else if j.Op.Kind=2 then aCC s w j else if j.Op.Kind=3 then aJD s w j else if j.Op.Kind=7 then aAT s w j else aCD s w j
end
def kB(s:aE)(w:Int)(r:JR):aE:=⟨r.b,r.c,s.aM.set w.toNat r.j,s.bL,s.Log++r.l,s.aN⟩
def aAU(t:List Queue)(w:Int):List dN:=(t.getD w.toNat ⟨[]⟩).gO
def fW(s:aE)(w:Int):bJ:=s.aM.getD w.toNat QT
def aGK(c:aD)(w:Int)(o:dN)(ser:Int):bJ:=
  if o.Kind=1 then ⟨true,o,ser,0,R5 1 o.fT,0,0,0,0⟩
  else if o.Kind=2∨o.Kind=5 then if (cC c w).On then ⟨true,o,ser,9,R5 5 0,0,0,0,1⟩ else ⟨true,o,ser,0,R5 5 0,0,0,0,0⟩
  else if o.Kind=4 then ⟨true,o,ser,0,R5 3 0,0,0,0,0⟩
  else ⟨true,o,ser,0,⟨0,0,0,0,0,0,0,0,0,false⟩,0,0,0,0⟩
def aCE(s:aE)(w:Int):aE:=match aAU s.bL w with
  | []=>s
  | o :: r => if s.aN = 1000000 then s else
    ⟨s.aA,s.Cells,s.aM.set w.toNat (aGK s.aA.aD w o (s.aN+1)),s.bL.set w.toNat ⟨r⟩,s.Log ++ [⟨1,w,s.aN+1,o.Cell,0,0,0⟩],s.aN+1⟩
def aTE(w:Int)(j:bJ):Ev:=⟨4,w,j.aN,j.Op.Cell,j.H,j.fG,j.Code⟩
def QY(s:aE)(w:Int):aE:=
  if (fW s w).kU=false then aCE s w
  else if (fW s w).Pc=9 then ⟨s.aA,s.Cells,s.aM.set w.toNat QT,s.bL,s.Log ++ [aTE w (fW s w)],s.aN⟩
  else kB s w (aM3 s w (fW s w))
noncomputable section
variable {s:aE} (hs:CD s) (hl:s.Log.length≤1000000000) {w:Int} (hw:0≤w∧w≤2) {j:bJ} (hjo:kW j.Op∧cS j.H∧cS j.Old)
include hs
theorem DR(hw:0≤w∧w≤2):idx s.aM w=some (fW s w):=by
  have:=hs.2.2.1
  rw [eO hw.1 (by omega)]
  simp [fW,List.getD_eq_getElem?_getD,List.getElem?_eq_getElem (show w.toNat < s.aM.length by omega)]
theorem JM{k:Int}(hk:0≤k∧k≤1):idx s.Cells k=some (cellAt s.Cells k):=by
  have:=hs.2.1
  rw [eO hk.1 (by omega)]
  simp [cellAt,List.getD_eq_getElem?_getD,List.getElem?_eq_getElem (show k.toNat < s.Cells.length by omega)]
include hw
theorem aEH(x:aE)(hx:x.aM=s.aM)(j:bJ):b8 w x j=some {x with aM:=x.aM.set w.toNat j}:=by
  unfold b8
  rw [hx,DR hs hw,Option.bind_some]
include hl hjo
theorem aPD(hk:j.Op.Kind=1):((BE s w j).bind fun q=>b8 w q.1 q.2)=some (kB s w (aEG s w j)):=by
  have hn:∀(e:Ev) {α:Type} (k:Option α),need (s.Log.length + [e].length≤1073741824) k=k:=fun e _ k=>aO (by simp;omega) k
  have hcell:=JM hs hjo.1.2.2.1
  have hval:0≤j.Op.fG∧j.Op.fG≤65535:=by have:=hjo.1.2.2.2;rw [if_pos hk] at this;exact this.2
  have hj:=fun x hx j=>aEH hs hw x hx j
  unfold BE aEG
  simp only [aCA hs.1 hw,aJB hs.1.1.1 hval,hcell,Option.bind_some,aY,fF,hn]
  by_cases p0:j.Pc=0
  · have p0':(j.Pc == 0)=true:=by simpa using p0
    simp only [p0',if_true,if_pos p0]
    cases hd:(f8 s.aA w j.Sub).2.dB with
    | false=>simp only [Bool.not_false,if_true,Bool.false_eq_true,if_false,Option.bind_some];refine(hj _ ?_ _).trans ?_;rfl;simp [kB]
    | true =>
      simp only [Bool.not_true,Bool.false_eq_true,if_false,if_true]
      by_cases c0:(f8 s.aA w j.Sub).2.Code=0
      · have c0':((f8 s.aA w j.Sub).2.Code != 0)=false:=by simpa using c0
        simp only [c0',Bool.false_eq_true,if_false,if_neg (show ¬(f8 s.aA w j.Sub).2.Code≠0 from fun h=>h c0),dM,Option.bind_some]
        by_cases o0:kA (f8 s.aA w j.Sub).2.Out
        · simp only [decide_eq_true o0,Bool.not_true,Bool.false_eq_true,if_false,if_pos o0,Option.bind_some];refine(hj _ ?_ _).trans ?_;rfl;simp [kB,iE]
        · simp only [decide_eq_false o0,Bool.not_false,if_true,if_neg o0,Option.bind_some];refine(hj _ ?_ _).trans ?_;rfl;simp [kB,iE]
      · have c0':((f8 s.aA w j.Sub).2.Code != 0)=true:=by simpa using c0
        simp only [c0',if_true,if_pos (show(f8 s.aA w j.Sub).2.Code≠0 from c0),Option.bind_some];refine(hj _ ?_ _).trans ?_;rfl;simp [kB,iE]
  have p0':(j.Pc == 0)=false:=by simpa using p0
  simp only [p0',Bool.false_eq_true,if_false,if_neg p0]
  by_cases p1:j.Pc=1
  · have p1':(j.Pc == 1)=true:=by simpa using p1
    simp only [p1',if_true,if_pos p1]
    by_cases c0:(MZ s.aA.Mem j.H j.Op.fG).2=0
    · have c0':((MZ s.aA.Mem j.H j.Op.fG).2 != 0)=false:=by simpa using c0
      simp only [c0',Bool.false_eq_true,if_false,if_pos c0,Option.bind_some];refine(hj _ ?_ _).trans ?_;rfl;simp [kB,iE]
    · have c0':((MZ s.aA.Mem j.H j.Op.fG).2 != 0)=true:=by simpa using c0
      simp only [c0',if_true,if_neg c0,Option.bind_some];refine(hj _ ?_ _).trans ?_;rfl;simp [kB,iE]
  have p1':(j.Pc == 1)=false:=by simpa using p1
  simp only [p1',Bool.false_eq_true,if_false,if_neg p1]
  by_cases p2:j.Pc=2
  · have p2':(j.Pc == 2)=true:=by simpa using p2
    simp only [p2',if_true,if_pos p2]
    by_cases c0:cellAt s.Cells j.Op.Cell=0
    · have c0':(cellAt s.Cells j.Op.Cell == 0)=true:=by simpa using c0
      simp only [c0',if_true,if_pos c0,Option.bind_some];refine(hj _ ?_ _).trans ?_;rfl;simp [kB,iE,c0]
    · have c0':(cellAt s.Cells j.Op.Cell == 0)=false:=by simpa using c0
      simp only [c0',Bool.false_eq_true,if_false,if_neg c0,Option.bind_some];refine(hj _ ?_ _).trans ?_;rfl;simp [kB,iE,R5]
  have p2':(j.Pc == 2)=false:=by simpa using p2
  simp only [p2',Bool.false_eq_true,if_false,if_neg p2]
  by_cases p3:j.Pc=3
  · have p3':(j.Pc == 3)=true:=by simpa using p3
    simp only [p3',if_true,if_pos p3]
    cases hd:(f8 s.aA w j.Sub).2.dB with
    | false=>simp only [Bool.not_false,if_true,Bool.false_eq_true,if_false,Option.bind_some];refine(hj _ ?_ _).trans ?_;rfl;simp [kB]
    | true=>simp only [Bool.not_true,Bool.false_eq_true,if_false,if_true,Option.bind_some];refine(hj _ ?_ _).trans ?_;rfl;simp [kB,iE]
  have p3':(j.Pc == 3)=false:=by simpa using p3
  simp only [p3',Bool.false_eq_true,if_false,if_neg p3,Option.bind_some];refine(hj _ ?_ _).trans ?_;rfl;simp [kB,iE]
theorem aPE:((BF s w j).bind fun q=>b8 w q.1 q.2)=some (kB s w (aCC s w j)):=by
  have hn:∀(e:Ev) {α:Type} (k:Option α),need (s.Log.length + [e].length≤1073741824) k=k:=fun e _ k=>aO (by simp;omega) k
  have hcell:=JM hs hjo.1.2.2.1
  have hj:=fun x hx j=>aEH hs hw x hx j
  unfold BF aCC
  simp only [aCA hs.1 hw,hcell,Option.bind_some,aY,gT,hn,aCB hs.1.1.1,aAQ hs.1.1.2.1 hw,pK,tB hs.1.1.2.1 hw]
  by_cases p0:j.Pc=0
  · have p0':(j.Pc == 0)=true:=by simpa using p0
    simp only [p0',if_true,if_pos p0]
    cases hd:(f8 s.aA w j.Sub).2.dB with
    | false=>simp only [Bool.not_false,if_true,Bool.false_eq_true,if_false,Option.bind_some];refine(hj _ ?_ _).trans ?_;rfl;simp [kB]
    | true=>simp only [Bool.not_true,Bool.false_eq_true,if_false,if_true,Option.bind_some];refine(hj _ ?_ _).trans ?_;rfl;simp [kB,iE]
  have p0':(j.Pc == 0)=false:=by simpa using p0
  simp only [p0',Bool.false_eq_true,if_false,if_neg p0]
  by_cases p1:j.Pc=1
  · have p1':(j.Pc == 1)=true:=by simpa using p1
    simp only [p1',if_true,if_pos p1]
    by_cases c0:cellAt s.Cells j.Op.Cell=0
    · have c0':(cellAt s.Cells j.Op.Cell == 0)=true:=by simpa using c0
      simp only [c0',if_true,if_pos c0,Option.bind_some];refine(hj _ ?_ _).trans ?_;rfl;simp [kB,iE,OG,c0]
    · have c0':(cellAt s.Cells j.Op.Cell == 0)=false:=by simpa using c0
      simp only [c0',Bool.false_eq_true,if_false,if_neg c0,Option.bind_some];refine(hj _ ?_ _).trans ?_;rfl;simp [kB,iE,OG]
  have p1':(j.Pc == 1)=false:=by simpa using p1
  simp only [p1',Bool.false_eq_true,if_false,if_neg p1]
  by_cases p2:j.Pc=2
  · have p2':(j.Pc == 2)=true:=by simpa using p2
    simp only [p2',if_true,if_pos p2,Option.bind_some];refine(hj _ ?_ _).trans ?_;rfl;simp [kB,iE]
  have p2':(j.Pc == 2)=false:=by simpa using p2
  simp only [p2',Bool.false_eq_true,if_false,if_neg p2]
  by_cases p3:j.Pc=3
  · have p3':(j.Pc == 3)=true:=by simpa using p3
    simp only [p3',if_true,if_pos p3,Option.bind_some,kJ,aY,R6]
    cases h1:(cC s.aA.aD w).On <;> cases h2:(cC s.aA.aD w).cR <;> simp only [Bool.not_false,Bool.not_true,Bool.false_eq_true,if_false,if_true,Option.bind_some,and_false,and_true,false_and,true_and,reduceCtorEq] <;> (refine(hj _ ?_ _).trans ?_;rfl;simp [kB,iE])
  have p3':(j.Pc == 3)=false:=by simpa using p3
  simp only [p3',Bool.false_eq_true,if_false,if_neg p3]
  by_cases p4:j.Pc=4
  · have p4':(j.Pc == 4)=true:=by simpa using p4
    simp only [p4',if_true,if_pos p4,Option.bind_some];refine(hj _ ?_ _).trans ?_;rfl;simp [kB,iE]
  have p4':(j.Pc == 4)=false:=by simpa using p4
  simp only [p4',Bool.false_eq_true,if_false,if_neg p4,Option.bind_some];refine(hj _ ?_ _).trans ?_;rfl;simp [kB,iE]
theorem aPF:((BG s w j).bind fun q=>b8 w q.1 q.2)=some (kB s w (aJD s w j)):=by
  have hn:∀(e:Ev) {α:Type} (k:Option α),need (s.Log.length + [e].length≤1073741824) k=k:=fun e _ k=>aO (by simp;omega) k
  have hcell:=JM hs hjo.1.2.2.1
  have hj:=fun x hx j=>aEH hs hw x hx j
  obtain⟨t1,e1⟩:=aEF hs.1.1.2.2.2 hw j.H
  obtain⟨t2,e2⟩:=aJC hs.1.1.2.2.2 hw
  unfold BG aJD
  simp only [hcell,Option.bind_some,aY,gT,hn,aCB hs.1.1.1,e1,e2]
  by_cases p0:j.Pc=0
  · have p0':(j.Pc == 0)=true:=by simpa using p0
    simp only [p0',if_true,if_pos p0]
    by_cases c0:cellAt s.Cells j.Op.Cell=0
    · have c0':(cellAt s.Cells j.Op.Cell == 0)=true:=by simpa using c0
      simp only [c0',if_true,if_pos c0,Option.bind_some];refine(hj _ ?_ _).trans ?_;rfl;simp [kB,iE,OG,c0]
    · have c0':(cellAt s.Cells j.Op.Cell == 0)=false:=by simpa using c0
      simp only [c0',Bool.false_eq_true,if_false,if_neg c0,Option.bind_some];refine(hj _ ?_ _).trans ?_;rfl;simp [kB,iE]
  have p0':(j.Pc == 0)=false:=by simpa using p0
  simp only [p0',Bool.false_eq_true,if_false,if_neg p0]
  by_cases p1:j.Pc=1
  · have p1':(j.Pc == 1)=true:=by simpa using p1
    simp only [p1',if_true,if_pos p1,Option.bind_some];refine(hj _ ?_ _).trans ?_;rfl;simp [kB,iE]
  have p1':(j.Pc == 1)=false:=by simpa using p1
  simp only [p1',Bool.false_eq_true,if_false,if_neg p1]
  by_cases p2:j.Pc=2
  · have p2':(j.Pc == 2)=true:=by simpa using p2
    simp only [p2',if_true,if_pos p2]
    by_cases c0:cellAt s.Cells j.Op.Cell=j.H
    · have c0':(cellAt s.Cells j.Op.Cell != j.H)=false:=by simpa using c0
      simp only [c0',Bool.false_eq_true,if_false,if_pos c0,Option.bind_some];refine(hj _ ?_ _).trans ?_;rfl;simp [kB,iE,OG]
    · have c0':(cellAt s.Cells j.Op.Cell != j.H)=true:=by simpa using c0
      simp only [c0',if_true,if_neg c0,Option.bind_some];refine(hj _ ?_ _).trans ?_;rfl;simp [kB,iE]
  have p2':(j.Pc == 2)=false:=by simpa using p2
  simp only [p2',Bool.false_eq_true,if_false,if_neg p2]
  by_cases p3:j.Pc=3
  · have p3':(j.Pc == 3)=true:=by simpa using p3
    simp only [p3',if_true,if_pos p3,Option.bind_some];refine(hj _ ?_ _).trans ?_;rfl;simp [kB,iE]
  have p3':(j.Pc == 3)=false:=by simpa using p3
  simp only [p3',Bool.false_eq_true,if_false,if_neg p3]
  by_cases p4:j.Pc=4
  · have p4':(j.Pc == 4)=true:=by simpa using p4
    simp only [p4',if_true,if_pos p4,Option.bind_some];refine(hj _ ?_ _).trans ?_;rfl;simp [kB,iE]
  have p4':(j.Pc == 4)=false:=by simpa using p4
  simp only [p4',Bool.false_eq_true,if_false,if_neg p4,Option.bind_some];refine(hj _ ?_ _).trans ?_;rfl;simp [kB,iE]
theorem aM4:((xL s w j).bind fun q=>b8 w q.1 q.2)=some (kB s w (aAT s w j)):=by
  have hn:∀(e:Ev) {α:Type} (k:Option α),need (s.Log.length + [e].length≤1073741824) k=k:=fun e _ k=>aO (by simp;omega) k
  have hcell:=JM hs hjo.1.2.2.1
  have hj:=fun x hx j=>aEH hs hw x hx j
  unfold xL aAT
  simp only [hcell,Option.bind_some,aY,gT,hn,aCB hs.1.1.1,pK,tB hs.1.1.2.1 hw]
  by_cases p0:j.Pc=0
  · have p0':(j.Pc == 0)=true:=by simpa using p0
    simp only [p0',if_true,if_pos p0]
    cases h1:(cC s.aA.aD w).On with
    | false=>simp only [Bool.not_false,if_true,Option.bind_some];refine(hj _ ?_ _).trans ?_;rfl;simp [kB,iE]
    | true =>
      cases h2:(cC s.aA.aD w).cR with
      | true=>simp only [Bool.not_true,Bool.false_eq_true,if_false,if_true,Option.bind_some,reduceCtorEq];refine(hj _ ?_ _).trans ?_;rfl;simp [kB,iE]
      | false =>
        simp only [Bool.not_true,Bool.false_eq_true,if_false,reduceCtorEq]
        by_cases c0:cellAt s.Cells j.Op.Cell=0
        · have c0':(cellAt s.Cells j.Op.Cell == 0)=true:=by simpa using c0
          simp only [c0',if_true,if_pos c0,Option.bind_some];refine(hj _ ?_ _).trans ?_;rfl;simp [kB,iE,OG,c0]
        · have c0':(cellAt s.Cells j.Op.Cell == 0)=false:=by simpa using c0
          simp only [c0',Bool.false_eq_true,if_false,if_neg c0,Option.bind_some];refine(hj _ ?_ _).trans ?_;rfl;simp [kB,iE,OG]
  have p0':(j.Pc == 0)=false:=by simpa using p0
  simp only [p0',Bool.false_eq_true,if_false,if_neg p0]
  by_cases p1:j.Pc=1
  · have p1':(j.Pc == 1)=true:=by simpa using p1
    simp only [p1',if_true,if_pos p1,Option.bind_some];refine(hj _ ?_ _).trans ?_;rfl;simp [kB,iE]
  have p1':(j.Pc == 1)=false:=by simpa using p1
  simp only [p1',Bool.false_eq_true,if_false,if_neg p1]
  by_cases p2:j.Pc=2
  · have p2':(j.Pc == 2)=true:=by simpa using p2
    simp only [p2',if_true,if_pos p2,Option.bind_some,kJ,aY,R6]
    cases h1:(cC s.aA.aD w).On <;> cases h2:(cC s.aA.aD w).cR <;> simp only [Bool.not_false,Bool.not_true,Bool.false_eq_true,if_false,if_true,Option.bind_some,and_false,and_true,false_and,true_and,reduceCtorEq] <;> (refine(hj _ ?_ _).trans ?_;rfl;simp [kB,iE])
  have p2':(j.Pc == 2)=false:=by simpa using p2
  simp only [p2',Bool.false_eq_true,if_false,if_neg p2,Option.bind_some];refine(hj _ ?_ _).trans ?_;rfl;simp [kB,iE]
theorem aJE:((uA s w j).bind fun q=>b8 w q.1 q.2)=some (kB s w (aCD s w j)):=by
  have hj:=fun x hx j=>aEH hs hw x hx j
  unfold uA aCD sI
  simp only [aAQ hs.1.1.2.1 hw,Option.bind_some,aY]
  have step:j.Op.Kind≠6→(j.Pc=0∨j.Pc=1∧j.Op.Kind≠5)→((fN s w j false).bind fun q=>b8 w q.1 q.2)=some (kB s w ⟨(f8 s.aA w j.Sub).1,s.Cells,if (f8 s.aA w j.Sub).2.dB then if j.Op.Kind=5 then iE {j with Sub:=(f8 s.aA w j.Sub).2} 9 (f8 s.aA w j.Sub).2.Code else if j.Pc=0 then iE {j with Sub:=R5 4 0} 1 0 else iE {j with Sub:=(f8 s.aA w j.Sub).2,fG:=(f8 s.aA w j.Sub).2.Out} 9 (f8 s.aA w j.Sub).2.Code else {j with Sub:=(f8 s.aA w j.Sub).2},[]⟩):=fun k6 kp=>by
    unfold fN
    simp only [Bool.false_eq_true,if_false,aCA hs.1 hw,Option.bind_some,aY,fF]
    cases hd:(f8 s.aA w j.Sub).2.dB with
    | false=>simp only [Bool.not_false,if_true,Bool.false_eq_true,if_false,Option.bind_some];refine(hj _ ?_ _).trans ?_;rfl;simp [kB]
    | true =>
      simp only [Bool.not_true,Bool.false_eq_true,if_false,if_true]
      by_cases k5:j.Op.Kind=5
      · have k5':(j.Op.Kind == 5)=true:=by simpa using k5
        simp only [k5',if_true,if_pos k5,Option.bind_some];refine(hj _ ?_ _).trans ?_;rfl;simp [kB,iE]
      · have k5':(j.Op.Kind == 5)=false:=by simpa using k5
        simp only [k5',Bool.false_eq_true,if_false,if_neg k5]
        by_cases p0:j.Pc=0
        · have p0':(j.Pc == 0)=true:=by simpa using p0
          simp only [p0',if_true,if_pos p0,Option.bind_some];refine(hj _ ?_ _).trans ?_;rfl;simp [kB,iE,R5]
        · have p0':(j.Pc == 0)=false:=by simpa using p0
          simp only [p0',Bool.false_eq_true,if_false,if_neg p0,Option.bind_some];refine(hj _ ?_ _).trans ?_;rfl;simp [kB,iE]
  have bad:((fN s w j true).bind fun q=>b8 w q.1 q.2)=some (kB s w ⟨s.aA,s.Cells,iE j 9 1,[]⟩):=by
    unfold fN
    simp only [if_true,aY,Option.bind_some];refine(hj _ ?_ _).trans ?_;rfl;simp [kB,iE]
  by_cases k6:j.Op.Kind=6
  · have k6':(j.Op.Kind == 6)=true:=by simpa using k6
    simp only [k6',if_true,if_pos k6]
    by_cases p0:j.Pc=0
    · have p0':(j.Pc == 0)=true:=by simpa using p0
      simp only [p0',if_true,if_pos p0]
      cases h1:(MW s.aA.aD w).2 with
      | true=>simp only [Bool.not_true,Bool.false_eq_true,if_false,if_true,Option.bind_some];refine(hj _ ?_ _).trans ?_;rfl;simp [kB,iE]
      | false=>simp only [Bool.not_false,Bool.false_eq_true,if_false,if_true,Option.bind_some];refine(hj _ ?_ _).trans ?_;rfl;simp [kB,iE]
    · have p0':(j.Pc == 0)=false:=by simpa using p0
      simp only [p0',Bool.false_eq_true,if_false,if_neg p0]
      exact bad
  have k6':(j.Op.Kind == 6)=false:=by simpa using k6
  simp only [k6',Bool.false_eq_true,if_false,if_neg k6]
  by_cases p0:j.Pc=0
  · have p0':(j.Pc != 0)=false:=by simpa using p0
    have hc:j.Pc=0∨j.Pc=1∧j.Op.Kind≠5:=.inl p0
    simp only [p0',Bool.false_eq_true,if_false,if_pos hc]
    exact step k6 hc
  have p0':(j.Pc != 0)=true:=by simpa using p0
  simp only [p0',if_true]
  by_cases p1:j.Pc=1
  · have p1':(j.Pc != 1)=false:=by simpa using p1
    simp only [p1',Bool.false_eq_true,if_false]
    by_cases k5:j.Op.Kind=5
    · have k5':(j.Op.Kind == 5)=true:=by simpa using k5
      simp only [k5',if_neg (show ¬(j.Pc=0∨j.Pc=1∧j.Op.Kind≠5) from fun h=>h.elim p0 fun h=>h.2 k5)]
      exact bad
    · have k5':(j.Op.Kind == 5)=false:=by simpa using k5
      have hc:j.Pc=0∨j.Pc=1∧j.Op.Kind≠5:=.inr ⟨p1,k5⟩
      simp only [k5',if_pos hc]
      exact step k6 hc
  · have p1':(j.Pc != 1)=true:=by simpa using p1
    simp only [p1',if_true,if_neg (show ¬(j.Pc=0∨j.Pc=1∧j.Op.Kind≠5) from fun h=>h.elim p0 fun h=>p1 h.1)]
    exact bad
omit hjo
theorem aJF:tW s w=some (aCE s w):=by
  have ht:=hs.2.2.2.1
  have hser:=hs.2.2.2.2.1
  have hn:∀(e:Ev) {α:Type} (k:Option α),need (s.Log.length + [e].length≤1073741824) k=k:=fun e _ k=>aO (by simp;omega) k
  have hq:idx s.bL w=some ⟨aAU s.bL w⟩:=by
    have:=ht.1
    rw [eO hw.1 (by omega)]
    simp [aAU,List.getD_eq_getElem?_getD,List.getElem?_eq_getElem (show w.toNat < s.bL.length by omega)]
  have ew:aZ (s.aN+1)=s.aN+1:=aK (by omega) (by omega)
  have h12:(aAU s.bL w).length≤12:=by
    have h3:=ht.1
    rw [eO hw.1 (by omega)] at hq
    injection hq with hq
    have:=(ht.2 _ (List.getElem_mem (show w.toNat < s.bL.length by omega))).1
    rw [hq] at this;exact this
  unfold tW aCE
  rw [hq,Option.bind_some]
  simp only [sB,hq,Option.bind_some]
  cases ho:aAU s.bL w with
  | nil=>simp
  | cons o r =>
    rw [ho] at h12
    simp only [List.length_cons] at h12
    have l0:(((o :: r).length:Int) == 0)=false:=by simp;omega
    simp only [l0,Bool.false_eq_true,if_false]
    by_cases s0:s.aN=1000000
    · have s0':(s.aN == 1000000)=true:=by simpa using s0
      simp only [s0',if_true,if_pos s0]
    have s0':(s.aN == 1000000)=false:=by simpa using s0
    have hx:idx (o :: r) 0=some o:=rfl
    have etk:((o :: r).take (o :: r).length).drop (1:Int).toNat=r:=by rw [List.take_length];rfl
    simp only [s0',Bool.false_eq_true,if_false,if_neg s0,hx,Option.bind_some,fF,ew]
    rw [aO (by simp only [List.length_cons];omega)]
    have fin:∀jb:bJ,dV s w ⟨o :: r⟩ o jb=some ⟨s.aA,s.Cells,s.aM.set w.toNat jb,s.bL.set w.toNat ⟨r⟩,s.Log ++ [⟨1,w,s.aN+1,o.Cell,0,0,0⟩],s.aN+1⟩:=fun jb=>by
      simp only [dV,DR hs hw,Option.bind_some,hn,etk,ew]
    unfold aGK
    by_cases k1:o.Kind=1
    · have k1':(o.Kind == 1)=true:=by simpa using k1
      simp only [k1',if_true,if_pos k1,fin];rfl
    have k1':(o.Kind == 1)=false:=by simpa using k1
    simp only [k1',Bool.false_eq_true,if_false,if_neg k1]
    have pin:∀z,z=true→gH s w ⟨o :: r⟩ o z=some ⟨s.aA,s.Cells,s.aM.set w.toNat (if (cC s.aA.aD w).On then ⟨true,o,s.aN+1,9,R5 5 0,0,0,0,1⟩ else ⟨true,o,s.aN+1,0,R5 5 0,0,0,0,0⟩),s.bL.set w.toNat ⟨r⟩,s.Log ++ [⟨1,w,s.aN+1,o.Cell,0,0,0⟩],s.aN+1⟩:=fun z hz=>by
      subst hz
      simp only [gH,if_true,fF,tB hs.1.1.2.1 hw,Option.bind_some,ew,fin]
      cases (cC s.aA.aD w).On <;> rfl
    by_cases k2:o.Kind=2
    · have k2':(o.Kind == 2)=true:=by simpa using k2
      simp only [k2',if_true,if_pos (show o.Kind=2∨o.Kind=5 from .inl k2)]
      exact pin true rfl
    have k2':(o.Kind == 2)=false:=by simpa using k2
    simp only [k2',Bool.false_eq_true,if_false]
    by_cases k5:o.Kind=5
    · have k5':(o.Kind == 5)=true:=by simpa using k5
      simp only [k5',if_pos (show o.Kind=2∨o.Kind=5 from .inr k5)]
      exact pin true rfl
    have k5':(o.Kind == 5)=false:=by simpa using k5
    simp only [k5',gH,Bool.false_eq_true,if_false,if_neg (show ¬(o.Kind=2∨o.Kind=5) from fun h=>h.elim k2 k5),fF,Option.bind_some,ew,fin]
    by_cases k4:o.Kind=4
    · have k4':(o.Kind == 4)=true:=by simpa using k4
      simp only [k4',if_true,if_pos k4];rfl
    · have k4':(o.Kind == 4)=false:=by simpa using k4
      simp only [k4',Bool.false_eq_true,if_false,if_neg k4]
theorem aM5:IZ s w=some (QY s w):=by
  have hn:∀(e:Ev) {α:Type} (k:Option α),need (s.Log.length + [e].length≤1073741824) k=k:=fun e _ k=>aO (by simp;omega) k
  have hjk:XN (fW s w):=by
    have h:=DR hs hw
    have h3:=hs.2.2.1
    rw [eO hw.1 (by omega)] at h
    injection h with h
    rw [←h];exact hs.2.2.2.2.2.2 _ (List.getElem_mem _)
  unfold IZ QY
  rw [DR hs hw,Option.bind_some]
  cases hb:(fW s w).kU with
  | false=>simp only [Bool.not_false,if_true,aJF hs hl hw,Option.bind_some]
  | true =>
    have hjo:=(y5 hb).1 hjk
    simp only [Bool.not_true,Bool.false_eq_true,if_false,reduceCtorEq]
    by_cases p9:(fW s w).Pc=9
    · have p9':((fW s w).Pc == 9)=true:=by simpa using p9
      simp only [p9',if_true,if_pos p9,hn];rfl
    have p9':((fW s w).Pc == 9)=false:=by simpa using p9
    simp only [p9',Bool.false_eq_true,if_false,if_neg p9]
    unfold aM3
    by_cases k1:(fW s w).Op.Kind=1
    · have k1':((fW s w).Op.Kind == 1)=true:=by simpa using k1
      simp only [k1',if_true,if_pos k1];exact aPD hs hl hw hjo k1
    have k1':((fW s w).Op.Kind == 1)=false:=by simpa using k1
    simp only [k1',Bool.false_eq_true,if_false,if_neg k1]
    by_cases k2:(fW s w).Op.Kind=2
    · have k2':((fW s w).Op.Kind == 2)=true:=by simpa using k2
      simp only [k2',if_true,if_pos k2];exact aPE hs hl hw hjo
    have k2':((fW s w).Op.Kind == 2)=false:=by simpa using k2
    simp only [k2',Bool.false_eq_true,if_false,if_neg k2]
    by_cases k3:(fW s w).Op.Kind=3
    · have k3':((fW s w).Op.Kind == 3)=true:=by simpa using k3
      simp only [k3',if_true,if_pos k3];exact aPF hs hl hw hjo
    have k3':((fW s w).Op.Kind == 3)=false:=by simpa using k3
    simp only [k3',Bool.false_eq_true,if_false,if_neg k3]
    by_cases k7:(fW s w).Op.Kind=7
    · have k7':((fW s w).Op.Kind == 7)=true:=by simpa using k7
      simp only [k7',if_true,if_pos k7];exact aM4 hs hl hw hjo
    have k7':((fW s w).Op.Kind == 7)=false:=by simpa using k7
    simp only [k7',Bool.false_eq_true,if_false,if_neg k7];exact aJE hs hl hw hjo
theorem aM6:o7 s w=some (QY s w)∧CD (QY s w)∧(QY s w).Log.length≤s.Log.length+1:=by
  obtain⟨x,e1,e2,h1,h2⟩:=aB9 hs hl hw
  rw [aM5 hs hl hw] at e1
  injection e1 with e1
  rw [e1];exact⟨e2,h1,h2⟩
end
end Go.Gv
end
noncomputable section
set_option linter.unusedVariables false
set_option linter.unusedSimpArgs false
set_option linter.unusedSectionVars false
namespace Go.Gv
noncomputable section
variable {b:aA} (hb:l7 b)
include hb
theorem l7.fits:b.Mem.aC.Bytes.length≤maxLen∧(dC b.Mem.aB).length≤1073741824∧b.aD.aQ.length≤maxLen∧b.aJ.length≤maxLen∧(bE b.aJ).length≤1073741824∧b.dI.length≤maxLen:=by
  obtain⟨h1,h2,h3,h4,_⟩:=oM.facts hb.1.1
  have a:=hb.1.2.1.2.1;have c:=hb.1.2.2.1.1;have d:=hb.1.2.2.1.2.1;have e:=hb.1.2.2.2.1
  simp only [maxLen];omega
end
end Go.Gv
end
noncomputable section
set_option linter.unusedVariables false
set_option linter.unusedSimpArgs false
set_option linter.unusedSectionVars false
namespace Go.Gv
def uS{α:Type}(o:Option α)(Q:α→Prop):Prop:=∃x,o=some x∧Q x
abbrev aQA{σ ρ:Type}(I:σ→Prop)(Q:ρ→Prop):Step σ ρ→Prop
  | .next s=>I s
  | .stop r=>Q r
namespace uS
variable {α β σ ρ:Type} {Q:α→Prop}
theorem ret{x:α}(h:Q x):uS (some x) Q:=⟨x,rfl,h⟩
theorem bind{P:β→Prop}{o:Option β}{f:β→Option α}(h:uS o P)(hf:∀x,P x→uS (f x) Q):uS (o.bind f) Q:=by
  obtain⟨x,e,hx⟩:=h
  rw [e];exact hf x hx
theorem need{p:Prop}[Decidable p]{k:Option α}(h:p)(hk:uS k Q):uS (Gv.need p k) Q:=by rw [aO h];exact hk
theorem ite{c:Prop}[Decidable c]{a b:Option α}(h1:c→uS a Q)(h2:¬c→uS b Q):uS (if c then a else b) Q:=by
  by_cases h:c
  · rw [if_pos h];exact h1 h
  · rw [if_neg h];exact h2 h
theorem mono{P:α→Prop}{o:Option α}(h:uS o P)(hf:∀x,P x→Q x):uS o Q:=by obtain⟨x,e,hx⟩:=h;exact⟨x,e,hf x hx⟩
theorem idx{l:List β}{i:Int}(h:0≤i∧i < l.length):uS (Gv.idx l i) (fun x=>x∈l):=⟨_,eO h.1 h.2,List.getElem_mem _⟩
theorem loop{Q:ρ→Prop}{f:σ→Option (Step σ ρ)}{s:σ}(μ:σ→Nat)(Inv:σ→Prop)(h0:Inv s)(hb:∀s,Inv s→uS (f s) (aQA (fun s'=>Inv s'∧μ s' < μ s) (fun r=>Q r))):uS (Gv.loop f s) Q:=by
  have key:∀n s,μ s < n→Inv s→uS (Gv.loop f s) Q:=by
    intro n
    induction n with
    | zero=>intro s h;omega
    | succ n ih =>
      intro s h hs
      obtain⟨q,e,hq⟩:=hb s hs
      cases q with
      | next s'=>rw [bM e];exact ih s' (by have:=hq.2;omega) hq.1
      | stop r=>rw [bT e];exact⟨r,rfl,hq⟩
  exact key _ s (Nat.lt_succ_self _) h0
theorem of{o:Option α}{x:α}(h:o=some x):uS o (fun y=>y=x):=⟨x,h,rfl⟩
end uS
def Cu(b:List UInt8)(i:Int):Prop:=(0≤i∧i≤b.length)∧b.length≤1048576
theorem aM7(x:Int):0≤fC .and .i64 x 255∧fC .and .i64 x 255≤255:=by
  have e:fC .and .i64 x 255=IntKind.i64.wrap ((BitVec.ofInt 64 x &&& BitVec.ofInt 64 255).toNat:Int):=rfl
  have h:(BitVec.ofInt 64 x &&& BitVec.ofInt 64 255).toNat≤255:=by
    rw [BitVec.toNat_and];exact Nat.le_trans Nat.and_le_right (by decide)
  rw [e,wrap_i64 (by omega) (by omega)];omega
noncomputable section
variable {b:List UInt8} {i h:Int} (hc:Cu b i)
include hc
theorem aEI:uS (nS ⟨b,i,h⟩) (fun x=>(0≤x.1∧x.1≤255)∧Cu b x.2.1):=by
  unfold nS yQ
  obtain⟨⟨a1,a2⟩,a3⟩:=hc
  refine .ite (fun q=>?_) (fun q=>?_)
  · have q':=of_decide_eq_true q
    simp only at q'
    refine .bind (.idx ⟨a1,q'⟩) fun x _=>.ret ⟨aM7 _,?_⟩
    show Cu b (aZ (i+1))
    rw [aK (by omega) (by omega)]
    exact⟨by omega,a3⟩
  · exact .ret ⟨aM7 _,⟨a1,a2⟩,a3⟩
theorem below{n:Int}(hn:n≤1000000):uS (eN ⟨b,i,h⟩ n) (fun x=>(0≤x.1∧(x.1 < n∨n≤0∧x.1=0))∧Cu b x.2.1):=by
  unfold eN
  refine .ite (fun q=>?_) (fun q=>?_)
  · have q':=of_decide_eq_true q
    exact .ret ⟨by simp;omega,hc⟩
  · have q0:0 < n:=by simpa using q
    refine .ite (fun q=>?_) (fun q=>?_)
    · refine .bind (aEI hc) fun x ⟨hx,h1⟩=>.need (by omega) (.ret ⟨?_,h1⟩)
      simp only [uN hx.1]
      exact⟨Int.emod_nonneg _ (by omega),.inl (Int.emod_lt_of_pos _ q0)⟩
    · refine .bind (aEI hc) fun x ⟨hx,h1⟩=>.bind (aEI h1) fun y ⟨hy,h2⟩=>.bind (aEI h2) fun z ⟨hz,h3⟩=>.bind (aEI h3) fun w ⟨hw,h4⟩=>.need (by omega) (.ret ⟨?_,h4⟩)
      have e:aZ (aZ (aZ (aZ (x.1 * 16777216)+aZ (y.1 * 65536))+aZ (z.1 * 256))+w.1)=x.1 * 16777216+y.1 * 65536+z.1 * 256+w.1:=by
        rw [aK (x:=x.1 * 16777216) (by omega) (by omega),aK (x:=y.1 * 65536) (by omega) (by omega),aK (x:=z.1 * 256) (by omega) (by omega),aK (x:=x.1 * 16777216+y.1 * 65536) (by omega) (by omega),aK (x:=x.1 * 16777216+y.1 * 65536+z.1 * 256) (by omega) (by omega),aK (by omega) (by omega)]
      simp only [e]
      rw [uN (by omega)]
      exact⟨Int.emod_nonneg _ (by omega),.inl (Int.emod_lt_of_pos _ q0)⟩
theorem aTF{n:Int}(hn:n≤1000000):uS (LY ⟨b,i,h⟩ n) (fun x=>Cu b x.2.1):=
  .bind (below hc hn) fun _ ⟨_,h1⟩=>.ret h1
theorem aIB{l:List Int}(hl:0 < l.length)(hl2:l.length≤1000):uS (m8 ⟨b,i,h⟩ l) (fun x=>x.1∈l∧Cu b x.2.1):=
  .bind (below hc (by omega)) fun x ⟨hx,h1⟩=>.bind (.idx (by omega)) fun y hy=>.ret ⟨hy,h1⟩
end
theorem aUF{code:List UInt8}(hl:code.length≤1048576):uS (I6 code) (fun x=>Cu code x.1):=by
  unfold I6
  refine .bind (P:=fun _=>True) (.loop (fun s=>code.length - s.2.toNat) (fun s=>0≤s.2∧s.2≤code.length) ⟨by simp,by simp⟩ ?_) fun x _=>.ret ⟨⟨by simp,by simp⟩,hl⟩
  rintro⟨a,k⟩ ⟨h1,h2⟩
  simp only [N2,AR]
  simp only at h1 h2
  have nx:k < code.length→uS ((idx code k).bind fun x7=>some (Step.next (fC .and .i64 (aZ ((aZ ((aZ (a * 131))+(x7.toNat:Int)))+7)) 1073741823,aZ (k+1)))) (aQA (ρ:=Int) (fun s'=>(0≤s'.2∧s'.2≤code.length)∧code.length - s'.2.toNat < code.length - k.toNat) (fun r=>True)):=fun hk=>by
    refine .bind (.idx ⟨h1,hk⟩) fun x _=>.ret ?_
    rw [aK (x:=k+1) (by omega) (by omega)]
    refine⟨⟨?_,?_⟩,?_⟩ <;> (try simp only) <;> omega
  refine .ite (fun q=>?_) (fun q=>?_)
  · have q':=of_decide_eq_true q
    exact .ite (fun _=>nx q') (fun _=>.ret trivial)
  · rw [if_neg (by simp)];exact .ret trivial
end Go.Gv
end
noncomputable section
set_option linter.unusedVariables false
set_option linter.unusedSimpArgs false
set_option linter.unusedSectionVars false
namespace Go.Gv
noncomputable section
variable {b:List UInt8} {i h:Int} (hc:Cu b i)
include hc
theorem opD:uS (I7 ⟨b,i,h⟩) (fun x=>kW x.1∧Cu b x.2.1):=by
  unfold I7
  refine .bind (aIB hc (by decide) (by decide)) fun x1 ⟨hk,h1⟩=>?_
  have hk7:1≤x1.1∧x1.1≤7:=by simp at hk;omega
  rw [aAO,Option.bind_some]
  have key:∀(i' h' cell:Int),Cu b i'→(y4 x1.1∨cell=0)→(0≤cell∧cell≤1)→uS (uJ ⟨b,i,h⟩ x1 i' h' cell) (fun x=>kW x.1∧Cu b x.2.1):=by
    intro i' h' cell hc' h2 h3
    unfold uJ AT AS
    refine .ite (fun q=>?_) (fun q=>?_)
    · have q1:x1.1=1:=by simpa using q
      have fin:∀(i h size:Int),Cu b i→(0≤size∧size≤100)→uS ((eN ⟨b,i,h⟩ 60000).bind fun x13=>some ((⟨x1.1,cell,size,x13.1⟩:dN),(x13.2.1,x13.2.2))) (fun x=>kW x.1∧Cu b x.2.1):=fun i h size hi hs=>
        .bind (below hi (by omega)) fun v ⟨hv,h4⟩=>.ret ⟨⟨hk7,h2,h3,by rw [if_pos q1];exact⟨hs,by (try simp only);omega⟩⟩,h4⟩
      refine .bind (below hc' (by omega)) fun s ⟨hs,h4⟩=>.bind (aTF h4 (by omega)) fun o h5=>.ite (fun _=>.bind (aIB h5 (by decide) (by decide)) fun p ⟨hp,h6⟩=>fin _ _ _ h6 (by simp at hp;omega)) (fun _=>fin _ _ _ h5 (by rw [aK (by omega) (by omega)];omega))
    · have q1:¬x1.1=1:=by simpa using q
      exact .ret ⟨⟨hk7,h2,h3,by rw [if_neg q1];exact⟨rfl,rfl⟩⟩,hc'⟩
  refine .ite (fun q=>?_) (fun q=>?_)
  · refine .bind (aIB h1 (by decide) (by decide)) fun x ⟨hx,h2⟩=>key _ _ _ h2 (.inl (of_decide_eq_true q)) (by simp at hx;omega)
  · exact key _ _ _ h1 (.inr rfl) (by omega)
theorem aIC{m:Int}(hm:0≤m∧m≤12):uS (rD ⟨b,i,h⟩ m) (fun x=>(x.1.length=3∧∀q∈x.1,q.gO.length≤m∧∀o∈q.gO,kW o)∧Cu b x.2.1):=by
  unfold rD
  refine .bind (P:=fun x=>(x.1.length=3∧∀q∈x.1,q.gO.length≤m∧∀o∈q.gO,kW o)∧Cu b x.2.1) (.loop (fun s=>3 - s.2.1.toNat) (fun s=>((s.1.length:Int)=s.2.1∧s.2.1≤3∧∀q∈s.1,q.gO.length≤m∧∀o∈q.gO,kW o)∧Cu b s.2.2.1) ⟨⟨rfl,by simp,by simp⟩,hc⟩ ?_) fun x hx=>.ret hx
  rintro⟨l,k,i',h'⟩ ⟨⟨e,k3,hq⟩,hi⟩
  simp only at e k3 hq hi
  simp only [FN]
  refine .ite (fun q=>?_) (fun q=>?_)
  · have q':=of_decide_eq_true q
    rw [aK (x:=m+1) (by omega) (by omega)]
    refine .bind (below hi (by omega)) fun n ⟨hn,h1⟩=>?_
    refine .bind (P:=fun x=>((x.2.2.length:Int)≤m∧∀o∈x.2.2,kW o)∧Cu b x.1) (.loop (fun s=>s.1.toNat) (fun s=>(0≤s.1∧s.1+s.2.2.2.length≤m∧∀o∈s.2.2.2,kW o)∧Cu b s.2.1) ⟨⟨hn.1,by simp;omega,by simp⟩,h1⟩ ?_) ?_
    · rintro⟨n,i1,h1,ops⟩ ⟨⟨n0,n1,ho⟩,hi1⟩
      simp only at n0 n1 ho hi1
      simp only [FL,yR]
      refine .ite (fun q=>?_) (fun q=>?_)
      · have q1:=of_decide_eq_true q
        refine .bind (opD hi1) fun o ⟨h2,h3⟩=>.need (by simp;omega) (.ret ?_)
        rw [aK (by omega) (by omega)]
        refine⟨⟨⟨by (try simp only);omega,by simp;omega,?_⟩,h3⟩,by (try simp only);omega⟩
        intro x hx
        rcases List.mem_append.1 hx with hx | hx
        · exact ho x hx
        · rw [List.mem_singleton.1 hx];exact h2
      · have q1:¬0 < n:=by simpa using q
        exact .ret ⟨⟨by (try simp only);omega,ho⟩,hi1⟩
    · rintro⟨i1,h1,ops⟩ ⟨⟨o1,o2⟩,hi1⟩
      simp only [FM,FK]
      refine .need (by simp;omega) (.ret ?_)
      rw [aK (by omega) (by omega)]
      refine⟨⟨⟨by simp;omega,by (try simp only);omega,?_⟩,hi1⟩,by (try simp only);omega⟩
      intro x hx
      rcases List.mem_append.1 hx with hx | hx
      · exact hq x hx
      · rw [List.mem_singleton.1 hx];exact⟨o1,o2⟩
  · have q':¬k < 3:=by simpa using q
    exact .ret ⟨⟨by (try simp only);omega,hq⟩,hi⟩
def QZ(l:List Queue):Prop:=l.length≤3∧∀q∈l,q.gO.length≤1000
omit hc in
theorem aAV{l:List Queue}(hl:QZ l)(k:Nat){q:Queue}(hq:q.gO.length≤1000):QZ (l.set k q):=⟨by simpa using hl.1,fun x hx=>(List.mem_or_eq_of_mem_set hx).elim (hl.2 x) (fun e=>e ▸ hq)⟩
theorem aM8:uS (vR ⟨b,i,h⟩) (fun x=>QZ x.1∧Cu b x.2.1):=by
  unfold vR
  refine .bind (aIC hc (by omega)) fun x1 ⟨⟨l3,hq⟩,h1⟩=>.bind (below h1 (by omega)) fun x5 ⟨_,h5⟩=>?_
  have hT:QZ x1.1:=⟨by omega,fun q hq'=>by have:=(hq q hq').1;omega⟩
  simp only [iI,wF]
  refine .ite (fun _=>?_) fun _=>.ite (fun _=>?_) fun _=>.ite (fun _=>?_) fun _=>.ite (fun _=>?_) fun _=>?_
  · exact .need (by omega) (.ret ⟨⟨by simp;omega,fun q hq'=>hT.2 q (List.mem_of_mem_take (by simpa using hq'))⟩,h5⟩)
  · refine .bind (.idx (by omega)) fun x9 h9=>.bind (aIB h5 (by decide) (by decide)) fun x10 ⟨_,h10⟩=>?_
    have:=hT.2 _ h9
    have:=(hq _ h9).1
    exact .need (by simp;omega) (.ret ⟨aAV hT _ (by simp;omega),h10⟩)
  · refine .bind (P:=fun x=>QZ x.1∧Cu b x.2.1) (.loop (fun s=>20 - ((s.1.getD 1 ⟨[]⟩).gO.length)) (fun s=>(s.1.length=3∧∀q∈s.1,q.gO.length≤13)∧Cu b s.2.1) ⟨⟨l3,fun q hq'=>by have:=(hq q hq').1;omega⟩,h5⟩ ?_) ?_
    · rintro⟨l,i1,h1⟩ ⟨⟨l3,hq⟩,hi1⟩
      simp only at l3 hq hi1
      simp only [D9,wG]
      have hx:idx l 1=some l[1]:=aT (k:=1) (by omega)
      have hm:=hq _ (List.getElem_mem (show 1 < l.length by omega))
      rw [hx]
      simp only [Option.bind_some]
      refine .bind (below hi1 (by omega)) fun x ⟨hx2,hi2⟩=>.ite (fun q=>?_) (fun q=>?_)
      · have q':=of_decide_eq_true q
        rw [aK (by omega) (by omega)] at q'
        refine .need (by simp;omega) (.ret ?_)
        refine⟨⟨⟨by simp [l3],fun x hx=>?_⟩,hi2⟩,?_⟩
        · rcases List.mem_or_eq_of_mem_set hx with hx | hx
          · exact hq x hx
          · rw [hx];simp;omega
        · have e1:l.getD 1 ⟨[]⟩=l[1]:=by rw [List.getD_eq_getElem?_getD,List.getElem?_eq_getElem (by omega)];rfl
          have e2:(l.set (1:Int).toNat ⟨l[1].gO ++ [⟨4,0,0,0⟩]⟩).getD 1 ⟨[]⟩=⟨l[1].gO ++ [⟨4,0,0,0⟩]⟩:=by rw [List.getD_eq_getElem?_getD,show(1:Int).toNat=1 from rfl,List.getElem?_set_self (by omega)];rfl
          simp only [e1,e2]
          simp;omega
      · exact .ret ⟨⟨by (try simp only);omega,fun q hq'=>by have:=hq q hq';omega⟩,hi2⟩
    · rintro⟨l,i1,h1⟩ hx
      exact .ret hx
  · refine .bind (.idx (by omega)) fun x9 h9=>?_
    have:=(hq _ h9).1
    exact .need (by simp;omega) (.ret ⟨aAV hT _ (by simp;omega),h5⟩)
  · exact .ret ⟨hT,h5⟩
theorem aRZ{m:Int}(hm:m≤1000):uS (AV ⟨b,i,h⟩ m) (fun x=>x.1.length≤4000∧Cu b x.2.1):=by
  unfold AV
  refine .bind (below hc (by omega)) fun x1 ⟨hx1,h1⟩=>?_
  refine .bind (P:=fun x=>x.1.length≤4000∧Cu b x.2.1) (.loop (fun s=>s.2.1.toNat) (fun s=>(0≤s.2.1∧s.1.length+4 * s.2.1≤4000)∧Cu b s.2.2.1) ⟨⟨hx1.1,by simp;omega⟩,h1⟩ ?_) fun x hx=>.ret hx
  rintro⟨l,n,i1,h1⟩ ⟨⟨n0,n1⟩,hi1⟩
  simp only at n0 n1 hi1
  simp only [HW]
  refine .ite (fun q=>?_) (fun q=>?_)
  · have q':=of_decide_eq_true q
    refine .bind (below hi1 (by omega)) fun x13 ⟨_,h13⟩=>.bind (below h13 (by omega)) fun x14 ⟨hx14,h14⟩=>?_
    rw [aK (by omega) (by omega)]
    refine .bind (P:=fun x=>(x.length:Int)≤l.length+4) (.loop (fun s=>s.2.toNat) (fun s=>0≤s.2∧(s.1.length:Int)+s.2≤l.length+4) ⟨by (try simp only);omega,by (try simp only);omega⟩ ?_) ?_
    · rintro⟨r,k⟩ ⟨k0,k1⟩
      simp only at k0 k1
      simp only [HU]
      refine .ite (fun q=>?_) (fun q=>?_)
      · have q2:=of_decide_eq_true q
        refine .need (by simp;omega) (.ret ?_)
        rw [aK (by omega) (by omega)]
        have e:(r ++ [x13.1]).length=r.length+1:=by simp
        exact⟨⟨by (try simp only);omega,by (try simp only);omega⟩,by (try simp only);omega⟩
      · exact .ret (by (try simp only);omega)
    · intro r hr
      simp only [HV,HT]
      refine .ret ?_
      rw [aK (by omega) (by omega)]
      exact⟨⟨⟨by (try simp only);omega,by (try simp only);omega⟩,h14⟩,by (try simp only);omega⟩
  · exact .ret ⟨by (try simp only);omega,hi1⟩
end
theorem XU{code:List UInt8}(hl:code.length≤1048576):uS (kT code) (fun x=>QZ x.bL∧x.p8.length≤5000):=by
  unfold kT
  refine .bind (aUF hl) fun x1 h1=>.bind (aIC h1 (by omega)) fun x2 ⟨⟨l3,hq⟩,h2⟩=>.bind (aRZ h2 (by omega)) fun x3 ⟨p,h3⟩=>.bind (below h3 (by omega)) fun x6 ⟨_,h6⟩=>?_
  have hT:QZ x2.1:=⟨by omega,fun q hq'=>by have:=(hq q hq').1;omega⟩
  simp only [iF]
  refine .ite (fun _=>.bind (aM8 h6) fun x7 ⟨h7,_⟩=>.ret ⟨h7,by (try simp only);omega⟩) fun _=>.ite (fun _=>.need (by simp;omega) (.ret ⟨hT,by simp;omega⟩)) fun _=>.ret ⟨hT,by (try simp only);omega⟩
theorem aQB{x:BY}(hx:QZ x.bL)(hp:x.p8.length≤5000)(P:aE→Prop)(h0:∀t,EZ t→t=x.bL→P (wK t))(hs:∀s w,CD s→(0≤w∧w≤2)→P s→P (QY s w))(ht:EZ x.bL) :
    uS (rE x) (fun s=>CD s∧P s∧s.Log.length≤400):=by
  unfold rE
  rw [(SR (t:=x.bL) (by have:=hx.1;omega) (fun q hq=>by have:=hx.2 q hq;omega)).2,Option.bind_some,if_pos ht]
  have hj:(((wK x.bL).aM.length:Int) == 0)=false:=rfl
  rw [hj,if_neg (by simp)]
  refine .need (by split <;> omega) ?_
  have hN:((x.p8.take ((if 400 < (x.p8.length:Int) then (400:Int) else (x.p8.length:Int)).toNat)).drop 0).length≤400:=by
    rw [List.drop_zero,List.length_take];split <;> omega
  refine .bind (P:=fun s=>CD s∧P s∧s.Log.length≤400) (.loop (fun s=>1000 - s.1.toNat) (fun s=>(0≤s.1∧s.1≤400)∧CD s.2∧P s.2∧(s.2.Log.length:Int)≤s.1) ⟨⟨by simp,by simp⟩,aJA ht,h0 _ ht rfl,by simp [wK]⟩ ?_) fun s h=>.ret h
  rintro⟨k,s⟩ ⟨⟨k0,k1⟩,h1,h2,h3⟩
  simp only at k0 k1 h1 h2 h3
  simp only [FO,p7]
  refine .ite (fun q=>?_) (fun q=>.ret ⟨h1,h2,by (try simp only);omega⟩)
  have q':=of_decide_eq_true q
  refine .bind (.idx ⟨k0,q'⟩) fun w _=>?_
  rw [hY,Option.bind_some]
  refine .ite (fun hw=>?_) (fun hw=>?_)
  · have hw':=of_decide_eq_true hw
    obtain⟨e,o1,o2⟩:=aM6 h1 (by omega) hw'
    rw [e,Option.bind_some]
    refine .ret ?_
    rw [aK (by omega) (by omega)]
    exact⟨⟨⟨by (try simp only);omega,by (try simp only);omega⟩,o1,hs s w h1 hw' h2,by (try simp only);omega⟩,by (try simp only);omega⟩
  · refine .ret ?_
    rw [aK (by omega) (by omega)]
    exact⟨⟨⟨by (try simp only);omega,by (try simp only);omega⟩,h1,h2,by (try simp only);omega⟩,by (try simp only);omega⟩
theorem aEJ{x:BY}(hx:QZ x.bL):EA x=some (decide (EZ x.bL)):=by
  unfold EA
  rw [(SR (t:=x.bL) (by have:=hx.1;omega) (fun q hq=>by have:=hx.2 q hq;omega)).1,Option.bind_some]
  by_cases h:EZ x.bL
  · rw [if_pos h,decide_eq_true h];rfl
  · rw [if_neg h,decide_eq_false h];rfl
end Go.Gv
end
noncomputable section
set_option linter.unusedVariables false
set_option linter.unusedSimpArgs false
set_option linter.unusedSectionVars false
namespace Go.Gv
theorem z6{c:aD}(hc:FR c){w v:Int}(hw:0≤w∧w≤2)(hv:0≤v∧v≤2)(e:Int)(x:gR):cC ⟨e,c.aQ.set w.toNat x⟩ v=if v=w then x else cC c v:=by
  have h3:=hc.2.1
  unfold cC
  simp only [List.getD_eq_getElem?_getD,List.getElem?_set]
  by_cases q:v=w
  · subst q;simp [show v.toNat < c.aQ.length by omega]
  · rw [if_neg q,if_neg (by omega)]
def kC(j:bJ):Prop:=j.kU=true∧(j.Op.Kind=2∨j.Op.Kind=5)∧j.Pc=0
def Adv(j:bJ):Prop:=j.kU=true∧j.Op.Kind=4∧j.Pc=0
def JI(e:Int)(p:gR)(j:bJ):Prop:=j.kU=true →
  (j.Op.Kind=1→j.Sub.Kind=1∨j.Sub.Kind=2)∧(j.Op.Kind=4→j.Pc=1→j.Sub.Kind=4) ∧
  (Adv j→j.Sub.Kind=3∧j.Sub.dB=false∧(j.Sub.Pc=0∨j.Sub.E≤e∧(j.Sub.Pc=1∧(0≤j.Sub.B∧j.Sub.B≤2)∨j.Sub.Pc=2∧j.Sub.B=3))) ∧
  (kC j→j.Sub.Kind=5∧j.Sub.dB=false∧(j.Sub.Pc=0∨j.Sub.Pc=1∧(0≤j.Sub.E∧j.Sub.E≤e)∨j.Sub.Pc=2∧p.aG=j.Sub.E))
def Calm(j:bJ):Prop:=¬kC j∧¬Adv j∧(j.Op.Kind=1→j.Sub.Kind=1∨j.Sub.Kind=2)∧(j.Op.Kind=4→j.Pc=1→j.Sub.Kind=4)
theorem Calm.ji{j:bJ}(h:Calm j)(e:Int)(p:gR):JI e p j:=fun _=>⟨h.2.2.1,h.2.2.2,fun q=>absurd q h.2.1,fun q=>absurd q h.1⟩
def Ep(c:aD)(J:Int→bJ):Prop:=(∀w,0≤w∧w≤2→JI c.aG (cC c w) (J w))∧∀p,0≤p∧p≤2→¬kC (J p)→(cC c p).On=true→(cC c p).cR=false→c.aG≤(cC c p).aG+1∧(c.aG=(cC c p).aG+1→∀a,0≤a∧a≤2→Adv (J a)→(J a).Sub.Pc≠0→(J a).Sub.E=c.aG→(J a).Sub.B≤p)
def upJ(J:Int→bJ)(w:Int)(j:bJ):Int→bJ:=fun v=>if v=w then j else J v
theorem y7(J:Int→bJ)(w:Int)(j:bJ):upJ J w j w=j:=if_pos rfl
theorem lQ(J:Int→bJ){w v:Int}(j:bJ)(h:v≠w):upJ J w j v=J v:=if_neg h
noncomputable section
variable {c:aD} {J:Int→bJ} (h:Ep c J)
include h
theorem Ep.congr{J':Int→bJ}(e:∀v,0≤v∧v≤2→J' v=J v):Ep c J':=by
  refine⟨fun w hw=>by rw [e w hw];exact h.1 w hw,fun p hp hn h1 h2=>?_⟩
  rw [e p hp] at hn
  obtain⟨a1,a2⟩:=h.2 p hp hn h1 h2
  exact⟨a1,fun q a ha=>by rw [e a ha];exact a2 q a ha⟩
variable {w:Int} (hw:0≤w∧w≤2) {j:bJ}
include hw
theorem Ep.step{c':aD}(he:c'.aG=c.aG)(hp:∀v,0≤v∧v≤2→v≠w→cC c' v=cC c v)(hj:JI c.aG (cC c' w) j)
    (h2:¬kC j→(cC c' w).On=true→(cC c' w).cR=false→c.aG≤(cC c' w).aG+1∧(c.aG=(cC c' w).aG+1→∀a,0≤a∧a≤2→a≠w→Adv (J a)→(J a).Sub.Pc≠0→(J a).Sub.E=c.aG→(J a).Sub.B≤w))
    (ha:Adv j→j.Sub.Pc=0∨j.Sub.B=0):Ep c' (upJ J w j):=by
  constructor
  · intro v hv
    rw [he]
    by_cases q:v=w
    · subst q;rw [y7];exact hj
    · rw [lQ _ _ q,hp v hv q];exact h.1 v hv
  · intro p hpr hn o1 o2
    rw [he]
    have hadv:∀a,0≤a∧a≤2→(∀q:a≠w,Adv (J a)→(J a).Sub.Pc≠0→(J a).Sub.E=c.aG→(J a).Sub.B≤p)→Adv (upJ J w j a)→(upJ J w j a).Sub.Pc≠0→(upJ J w j a).Sub.E=c.aG→(upJ J w j a).Sub.B≤p:=by
      intro a har hk
      by_cases q:a=w
      · subst q
        rw [y7]
        intro x1 x2 _
        rcases ha x1 with y | y
        · exact absurd y x2
        · omega
      · rw [lQ _ _ q];exact hk q
    by_cases q:p=w
    · subst q
      rw [y7] at hn
      obtain⟨a1,a2⟩:=h2 hn o1 o2
      exact⟨a1,fun e a har=>hadv a har (fun q=>a2 e a har q)⟩
    · rw [lQ _ _ q] at hn
      rw [hp p hpr q] at o1 o2 ⊢
      obtain⟨a1,a2⟩:=h.2 p hpr hn o1 o2
      exact⟨a1,fun e a har=>hadv a har (fun _=>a2 e a har)⟩
theorem Ep.pin{b:aA}(hb:b.aD=c)(hc:FR c)(hj:J w=j)(hP:kC j){fin:bJ}(hf:Calm fin) :
    Ep (ZJ b w j.Sub).1.aD (upJ J w (if (ZJ b w j.Sub).2.dB then fin else {j with Sub:=(ZJ b w j.Sub).2})):=by
  have hji:=h.1 w hw
  rw [hj] at hji
  have hk5:=hP.2.1
  obtain⟨k,d,hpc⟩:=(hji hP.1).2.2.2 hP
  have noadv:∀s:Sub,¬Adv {j with Sub:=s}:=fun s q=>by have:=q.2.1;simp only at this;omega
  have hP':∀s:Sub,kC {j with Sub:=s}:=fun s=>hP
  have mk:∀(s:Sub) (p:gR),(s.Kind=5∧s.dB=false∧(s.Pc=0∨s.Pc=1∧(0≤s.E∧s.E≤c.aG)∨s.Pc=2∧p.aG=s.E))→JI c.aG p {j with Sub:=s}:=fun s p hs _=>⟨fun q=>by simp only at q;omega,fun q=>by simp only at q;omega,fun q=>absurd q (noadv s),fun _=>hs⟩
  unfold ZJ
  rw [hb]
  rcases hpc with p0 | ⟨p1,e0,e1⟩ | ⟨p2,pe⟩
  · simp only [if_pos p0,d,Bool.false_eq_true,if_false,hb]
    exact h.step hw rfl (fun _ _ _=>rfl) (mk _ _ ⟨k,rfl,.inr (.inl ⟨rfl,hc.1.1,Int.le_refl _⟩)⟩) (fun q=>absurd (hP' _) q) (fun q=>absurd q (noadv _))
  · have hpt:MV c w j.Sub.E=(⟨c.aG,c.aQ.set w.toNat ⟨true,j.Sub.E,false,0⟩⟩,true):=by unfold MV;rw [if_pos ⟨e0,e1⟩]
    simp only [if_neg (show ¬j.Sub.Pc=0 by omega),if_pos p1,hpt,if_true,d,Bool.false_eq_true,if_false]
    exact h.step hw rfl (fun v hv hvw=>by rw [z6 hc hw hv,if_neg hvw]) (mk _ _ ⟨k,rfl,.inr (.inr ⟨rfl,by rw [z6 hc hw hw,if_pos rfl]⟩)⟩) (fun q=>absurd (hP' _) q) (fun q=>absurd q (noadv _))
  · simp only [if_neg (show ¬j.Sub.Pc=0 by omega),if_neg (show ¬j.Sub.Pc=1 by omega),if_pos p2]
    by_cases q:c.aG=j.Sub.E
    · simp only [if_pos q,CE,if_true,hb]
      exact h.step hw rfl (fun _ _ _=>rfl) (hf.ji _ _) (fun _ _ _=>⟨by omega,fun e=>by omega⟩) (fun q=>absurd q hf.2.1)
    · simp only [if_neg q,d,Bool.false_eq_true,if_false,hb]
      exact h.step hw rfl (fun _ _ _=>rfl) (mk _ _ ⟨k,rfl,.inl rfl⟩) (fun q=>absurd (hP' _) q) (fun q=>absurd q (noadv _))
end
end Go.Gv
end
noncomputable section
set_option linter.unusedVariables false
set_option linter.unusedSimpArgs false
set_option linter.unusedSectionVars false
namespace Go.Gv
noncomputable section
variable (s:aE) (w:Int) (j:bJ)
end
noncomputable section
variable {s:aE} (hs:CD s) {w:Int} (hw:0≤w∧w≤2) (h:Ep s.aA.aD (fW s))
include hs hw h
end
def M0(s:aE)(k:Nat):Prop:=(cC s.aA.aD k).On=true∧(fW s k).kU=false
instance (s:aE) (k:Nat):Decidable (M0 s k):=by unfold M0;infer_instance
theorem OH{l:List Int}(hl:l.length≤1000000000):uK l l=some true:=by
  unfold uK
  rw [if_neg (by simp)]
  have key:loop (m9 l l) 0=some (Out.brk ()):=f9 (f:=m9 l l) l.length (fun k=>(k:Int)) _ (fun k hk=>by
    simp only [m9]
    rw [if_pos (by simp;omega),aT hk]
    simp only [Option.bind_some,bne_self_eq_false,Bool.false_eq_true,if_false]
    rw [aK (by omega) (by omega)];rfl) (by simp [m9])
  rw [key];rfl
end Go.Gv
end
noncomputable section
set_option linter.unusedVariables false
set_option linter.unusedSimpArgs false
set_option linter.unusedSectionVars false
namespace Go.Gv
def Hk(h:aC):Prop:=h.Bytes.length=384∧h.Class.length=6
def Wk(m:Mem):Prop:=Hk m.aC∧m.aB.Global.length=3∧m.aB.aX.length=9∧(dC m.aB).length≤24
theorem Wk.small{m:Mem}(h:Wk m):tM m:=by obtain⟨⟨a,b⟩,c,d,e⟩:=h;exact⟨by omega,by omega,by omega,by omega,by omega⟩
noncomputable section
variable {b:List UInt8} {i h:Int} (hc:Cu b i)
include hc
end
end Go.Gv
end
noncomputable section
set_option linter.unusedVariables false
set_option linter.unusedSimpArgs false
set_option linter.unusedSectionVars false
namespace Go.Gv
def aTG(c:aD)(k:Nat):Prop:=((cC c k).On=true∧(cC c k).cR=false)∧(cC c k).aG < c.aG
instance (c:aD) (k:Nat):Decidable (aTG c k):=by unfold aTG;infer_instance
def aTH(c:aD)(k:Nat):Prop:=(cC c k).On=true∧(cC c k).cR=false
instance (c:aD) (k:Nat):Decidable (aTH c k):=by unfold aTH;infer_instance
end Go.Gv
end
noncomputable section
set_option linter.unusedVariables false
set_option linter.unusedSimpArgs false
set_option linter.unusedSectionVars false
namespace Go.Gv
def Aft{α:Type}(o:Option α)(Q:α→Prop):Prop:=∀x,o=some x→Q x
namespace Aft
variable {α β:Type} {Q:α→Prop}
theorem ret{x:α}(h:Q x):Aft (some x) Q:=fun _ e=>by injection e with e;rw [←e];exact h
theorem bind{o:Option β}{f:β→Option α}(h:∀x,o=some x→Aft (f x) Q):Aft (o.bind f) Q:=fun y e=>by
  cases ho:o with
  | none=>rw [ho] at e;cases e
  | some x=>rw [ho] at e;exact h x ho y e
theorem ite{c:Prop}[Decidable c]{a b:Option α}(h1:Aft a Q)(h2:Aft b Q):Aft (if c then a else b) Q:=by
  split
  · exact h1
  · exact h2
theorem need{p:Prop}[Decidable p]{k:Option α}(h:p→Aft k Q):Aft (Gv.need p k) Q:=fun y e=>by
  unfold Gv.need at e
  split at e
  · rename_i q;exact h q y e
  · cases e
end Aft
noncomputable section
variable (s:aE) (w:Int) (j:bJ)
end
end Go.Gv
end
noncomputable section
set_option linter.unusedVariables false
set_option linter.unusedSimpArgs false
set_option linter.unusedSectionVars false
set_option maxRecDepth 20000
namespace Go.Gv
def aIE(s:aE):Prop:=(∀j∈s.aM,j.kU=false)∧∀q∈s.bL,q.gO=[]
instance (s:aE):Decidable (aIE s):=by unfold aIE;infer_instance
end Go.Gv
end
noncomputable section
set_option linter.unusedVariables false
set_option linter.unusedSimpArgs false
set_option linter.unusedSectionVars false
set_option maxRecDepth 20000
namespace Go.Gv
def aTI:dN:=⟨4,0,0,0⟩
def aTJ(n k:Nat):List Queue:=List.replicate k ⟨List.replicate n aTI⟩++List.replicate (3 - k) ⟨[]⟩
theorem aIE.todo{s:aE}(hs:CD s)(h:aIE s):s.bL=aTJ 0 3:=by
  apply List.ext_getElem
  · rw [hs.2.2.2.1.1];rfl
  · intro i h1 h2
    have:=h.2 _ (List.getElem_mem h1)
    have e:(aTJ 0 3)[i]=⟨[]⟩:=by
      have h3:i < 3:=h2
      rcases(by omega:i=0∨i=1∨i=2) with rfl | rfl | rfl <;> rfl
    rw [e]
    cases hq:s.bL[i];rw [hq] at this;simp only at this;rw [this]
end Go.Gv
end
