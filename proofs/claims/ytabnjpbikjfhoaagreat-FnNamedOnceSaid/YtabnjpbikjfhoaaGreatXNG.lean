import Derived.Test.YtabnjpbikjfhoaaGreatXNF
set_option linter.unusedVariables false
set_option linter.unusedSimpArgs false
set_option linter.unusedSectionVars false
set_option linter.constructorNameAsVariable false
set_option linter.unnecessarySimpa false
noncomputable section
namespace Go.Gv
theorem JA{α:Type}{l:List α}{w:Int}(h0:0≤w)(h1:w < l.length)(x:α):idx (l.set w.toNat x) w=some x:=by
  unfold idx
  rw [if_pos h0,List.getElem?_set_self (by omega)]
theorem gL{a b:Int}(h:¬a=b):(a == b)=false:=by simpa using h
theorem NU{a b:Int}(h:¬a=b):(a != b)=true:=by simpa using h
theorem aIH{c:aC}(hc:I1 c){w:Int}(hw:0≤w∧w≤2):∃r,DV c w=some r∧M7 c w=some r∧I1 r.1∧r.1.aI=c.aI:=by
  obtain⟨p,hp,hpk⟩:=WM hc hw
  unfold DV M7
  rw [l5 hc.small.1,E6 hc.small.1,iN,sJ hc.small.2,kL,bZ,bC hc,bC hw]
  simp only [aE,dE,aN,if_false,hp,yI,xI]
  cases p.On with
  | true =>
    simp only [dE,aN,if_false]
    have h0:=hc.1
    exact⟨_,rfl,rfl,hc.aGH ⟨by simp only;omega,by simp,fun _=>rfl⟩,rfl⟩
  | false=>simp only [iE,if_true];exact⟨_,rfl,rfl,hc,rfl⟩
theorem HV.set{z:List Int}(hz:HV z)(k:Nat){h:Int}(hh:cS h):HV (z.set k h):=⟨by simpa using hz.1,fun q hq=>(List.mem_or_eq_of_mem_set hq).elim (hz.2 q) (fun e=>e ▸ hh)⟩
theorem aKB{z:List Int}(hz:HV z){w:Int}(hw:0≤w∧w≤2)(h:Int):∃r,CP z w h=some r∧HH z w h=some r∧HV r.1:=by
  have h3:=hz.1
  have hx:idx z w=some (z[w.toNat]'(by omega)):=fP hw.1 (by omega)
  unfold CP HH
  rw [DY (by omega),rC (by omega),yT (by simp only [maxLen];omega),K9 (by simp only [maxLen];omega),bC hz,bZ,kL,bC hw,eB,iW]
  simp only [aE,dE,aN,if_false,sI,rP,hx]
  by_cases q:jN h
  · simp only [bC q,dE,aN,if_false];exact⟨_,rfl,rfl,hz.set _ (.inr q)⟩
  · simp only [bL q,iE,if_true];exact⟨_,rfl,rfl,hz⟩
theorem aQ4{z:List Int}(hz:HV z){w:Int}(hw:0≤w∧w≤2):∃r,IP z w=some r∧M8 z w=some r∧HV r.1:=by
  have h3:=hz.1
  have hx:idx z w=some (z[w.toNat]'(by omega)):=fP hw.1 (by omega)
  unfold IP M8
  rw [DY (by omega),rC (by omega),yT (by simp only [maxLen];omega),K9 (by simp only [maxLen];omega),bC hz,bZ,kL,bC hw]
  simp only [aE,dE,aN,if_false,yJ,xJ,hx]
  by_cases q:(z[w.toNat]'(by omega))=0
  · simp only [q,beq_self_eq_true,if_true];exact⟨_,rfl,rfl,hz⟩
  · simp only [gL q,aN,if_false];exact⟨_,rfl,rfl,hz.set _ (.inl rfl)⟩
theorem mO.clock{b:aA}(hb:mO b){cl:aC}(h:I1 cl)(e:b.aC.aI≤cl.aI):mO ⟨b.Mem,cl,b.aP,b.nA⟩:=⟨⟨hb.1.1,h,hb.1.2.2⟩,fun r hr=>⟨(hb.2 r hr).1,Int.le_trans (hb.2 r hr).2 e⟩⟩
theorem mO.haz{b:aA}(hb:mO b){z:List Int}(h:HV z):mO ⟨b.Mem,b.aC,b.aP,z⟩:=⟨⟨hb.1.1,hb.1.2.1,hb.1.2.2.1,h⟩,hb.2⟩
theorem mO.mem{b:aA}(hb:mO b){m:Mem}(h:wO b.Mem m (-1)):mO ⟨m,b.aC,b.aP,b.nA⟩:=⟨⟨h.1,hb.1.2⟩,fun r hr=>⟨h.live (hb.2 r hr).1 (by have:=(hb.2 r hr).1.1;unfold jN at this;omega),(hb.2 r hr).2⟩⟩
theorem C7.put{s:aG}(hs:C7 s){w:Int}{b:aA}(hb:mO b){c:List Int}(hc:c.length=2∧∀h∈c,cS h){j:bE}(hj:ZV j)(l:List Ev):C7 ⟨b,c,s.aX.set w.toNat j,s.e9,l,s.aK⟩:=
  ⟨hb,hc.1,by simpa using hs.2.2.1,hs.2.2.2.1,hs.2.2.2.2.1,hc.2,fun q hq=>(List.mem_or_eq_of_mem_set hq).elim (hs.2.2.2.2.2.2 q) (fun e=>e ▸ hj)⟩
theorem cQ{j:bE}(h:j.eG=true)(h1:kX j.Op∧cS j.H∧cS j.Old):ZV j:=(yU h).2 h1
noncomputable section
variable {s:aG} (hs:C7 s) (hl:s.Log.length≤1000000000) {w:Int} (hw:0≤w∧w≤2) {j:bE} (hj:idx s.aX w=some j) (hb:j.eG=true) (hjo:kX j.Op∧cS j.H∧cS j.Old)
include hs hl hw hj hb hjo
theorem aW1(hk:j.Op.Kind=1):∃x,((FK s w j).bind fun q=>cJ w q.1 q.2)=some x∧B6 s w=some x∧C7 x∧x.Log.length≤s.Log.length+1:=by
  have h3:=hs.2.2.1
  have hset:∀x,idx (s.aX.set w.toNat x) w=some x:=JA hw.1 (by omega)
  have hn:∀(e:Ev) {α:Type} (k:Option α),need (s.Log.length + [e].length≤1073741824) k=k:=fun e _ k=>aM (by simp;omega) k
  have hcs:s.Cells.length=2∧∀h∈s.Cells,cS h:=⟨hs.2.1,hs.2.2.2.2.2.1⟩
  have hcell:idx s.Cells j.Op.Cell=some (s.Cells[j.Op.Cell.toNat]'(by have:=hjo.1.2.2.1;omega)):=fP hjo.1.2.2.1.1 (by have:=hjo.1.2.2.1;omega)
  have hcm:cS (s.Cells[j.Op.Cell.toNat]'(by have:=hjo.1.2.2.1;omega)):=hcs.2 _ (List.getElem_mem _)
  generalize (s.Cells[j.Op.Cell.toNat]'(by have:=hjo.1.2.2.1;omega))=cell at hcell hcm
  have hval:0≤j.Op.dV∧j.Op.dV≤65535:=by have:=hjo.1.2.2.2;rw [if_pos hk] at this;exact this.2
  unfold FK B6
  rw [hj]
  simp only [aE,bD,bM,dB,cJ,gX,jP]
  by_cases p0:j.Pc=0
  · obtain⟨x,y,e1,e2,hx⟩:=step_eq hs.1 hs.1.small hw j.Sub
    simp only [p0,beq_self_eq_true,if_true,e1,e2,aE]
    cases hd:y.cV with
    | false=>simp only [iE,if_true,aE,hj];exact⟨_,rfl,rfl,hs.put hx hcs (by exact cQ hb hjo) _,Nat.le_succ _⟩
    | true =>
      simp only [dE,aN,if_false]
      by_cases c0:y.Code=0
      · simp only [c0,bne_self_eq_false,aN,if_false,eB,iW,aE]
        by_cases o0:jN y.Out
        · simp only [bC o0,dE,aN,if_false,aE,hj];exact⟨_,rfl,rfl,hs.put hx hcs (by exact cQ hb ⟨hjo.1,.inr o0,hjo.2.2⟩) _,Nat.le_succ _⟩
        · simp only [bL o0,iE,if_true,aE,hj];exact⟨_,rfl,rfl,hs.put hx hcs (by exact cQ hb hjo) _,Nat.le_succ _⟩
      · simp only [NU c0,if_true,aE,hj];exact⟨_,rfl,rfl,hs.put hx hcs (by exact cQ hb hjo) _,Nat.le_succ _⟩
  simp only [gL p0,aN,if_false]
  by_cases p1:j.Pc=1
  · obtain⟨x,c,e1,e2,h1,h2⟩:=aJ8 hs.1.1.1 (h:=j.H) hval
    simp only [p1,beq_self_eq_true,if_true,e1,e2,aE,BZ,hj,bM,dB]
    by_cases c0:c=0
    · simp only [c0,bne_self_eq_false,aN,if_false,aE,hj];exact⟨_,rfl,rfl,hs.put (hs.1.mem h1) hcs (by exact cQ hb hjo) _,Nat.le_succ _⟩
    · have:=h2 c0
      subst this
      simp only [NU c0,if_true,aE,hj];exact⟨_,rfl,rfl,hs.put hs.1 hcs (by exact cQ hb hjo) _,Nat.le_succ _⟩
  simp only [gL p1,aN,if_false]
  by_cases p2:j.Pc=2
  · have hc2:(s.Cells.set j.Op.Cell.toNat j.H).length=2∧∀h∈s.Cells.set j.Op.Cell.toNat j.H,cS h:=⟨by simpa using hcs.1,fun q hq=>(List.mem_or_eq_of_mem_set hq).elim (hcs.2 q) (fun e=>e ▸ hjo.2.1)⟩
    simp only [p2,beq_self_eq_true,if_true,hcell,aE,hset,hn,B5,cT,dJ,B4,bM,dB,jP]
    by_cases c0:cell=0
    · simp only [c0,beq_self_eq_true,if_true,aE,hj,List.set_set];exact⟨_,rfl,rfl,hs.put hs.1 hc2 (by exact cQ hb ⟨hjo.1,hjo.2.1,.inl rfl⟩) _,by simp⟩
    · simp only [gL c0,aN,if_false,aE,hj,List.set_set];exact⟨_,rfl,rfl,hs.put hs.1 hc2 (by exact cQ hb ⟨hjo.1,hjo.2.1,hcm⟩) _,by simp⟩
  simp only [gL p2,aN,if_false]
  by_cases p3:j.Pc=3
  · obtain⟨x,y,e1,e2,hx⟩:=step_eq hs.1 hs.1.small hw j.Sub
    simp only [p3,beq_self_eq_true,if_true,e1,e2,aE]
    cases hd:y.cV with
    | false=>simp only [iE,if_true,aN,if_false,aE,hj];exact⟨_,rfl,rfl,hs.put hx hcs (by exact cQ hb hjo) _,Nat.le_succ _⟩
    | true=>simp only [dE,if_true,aN,if_false,aE,hj];exact⟨_,rfl,rfl,hs.put hx hcs (by exact cQ hb hjo) _,Nat.le_succ _⟩
  simp only [gL p3,aN,if_false,aE,hj]
  exact⟨_,rfl,rfl,hs.put hs.1 hcs (by exact cQ hb hjo) _,Nat.le_succ _⟩
theorem get_eq(hk:j.Op.Kind=2):∃x,((FL s w j).bind fun q=>cJ w q.1 q.2)=some x∧B7 s w=some x∧C7 x∧x.Log.length≤s.Log.length+1:=by
  have h3:=hs.2.2.1
  have hset:∀x,idx (s.aX.set w.toNat x) w=some x:=JA hw.1 (by omega)
  have hn:∀(e:Ev) {α:Type} (k:Option α),need (s.Log.length + [e].length≤1073741824) k=k:=fun e _ k=>aM (by simp;omega) k
  have hcs:s.Cells.length=2∧∀h∈s.Cells,cS h:=⟨hs.2.1,hs.2.2.2.2.2.1⟩
  have hcell:idx s.Cells j.Op.Cell=some (s.Cells[j.Op.Cell.toNat]'(by have:=hjo.1.2.2.1;omega)):=fP hjo.1.2.2.1.1 (by have:=hjo.1.2.2.1;omega)
  have hcm:cS (s.Cells[j.Op.Cell.toNat]'(by have:=hjo.1.2.2.1;omega)):=hcs.2 _ (List.getElem_mem _)
  generalize (s.Cells[j.Op.Cell.toNat]'(by have:=hjo.1.2.2.1;omega))=cell at hcell hcm
  obtain⟨pn,hpn,_⟩:=WM hs.1.1.2.1 hw
  unfold FL B7
  rw [hj]
  simp only [aE,bD,bM,dB,cJ]
  by_cases p0:j.Pc=0
  · obtain⟨x,y,e1,e2,hx⟩:=step_eq hs.1 hs.1.small hw j.Sub
    simp only [p0,beq_self_eq_true,if_true,e1,e2,aE]
    cases hd:y.cV with
    | false=>simp only [iE,if_true,aN,if_false,aE,hj];exact⟨_,rfl,rfl,hs.put hx hcs (by exact cQ hb hjo) _,Nat.le_succ _⟩
    | true=>simp only [dE,if_true,aN,if_false,aE,hj];exact⟨_,rfl,rfl,hs.put hx hcs (by exact cQ hb hjo) _,Nat.le_succ _⟩
  simp only [gL p0,aN,if_false]
  by_cases p1:j.Pc=1
  · simp only [p1,beq_self_eq_true,if_true,hcell,aE,jF,hn,uF,hj,cT,dJ,hset]
    by_cases c0:cell=0
    · simp only [c0,beq_self_eq_true,if_true,aE,hj,List.set_set];exact⟨_,rfl,rfl,hs.put hs.1 hcs (by exact cQ hb ⟨hjo.1,.inl rfl,hjo.2.2⟩) _,by simp⟩
    · simp only [gL c0,aN,if_false,aE,hj,List.set_set];exact⟨_,rfl,rfl,hs.put hs.1 hcs (by exact cQ hb ⟨hjo.1,hcm,hjo.2.2⟩) _,by simp⟩
  simp only [gL p1,aN,if_false]
  by_cases p2:j.Pc=2
  · obtain⟨r,e1,e2⟩:=aJ9 hs.1.1.1 j.H
    simp only [p2,beq_self_eq_true,if_true,nU,lE,hj,e1,e2,aE,hset,List.set_set]
    exact⟨_,rfl,rfl,hs.put hs.1 hcs (by exact cQ hb hjo) _,Nat.le_succ _⟩
  simp only [gL p2,aN,if_false]
  by_cases p3:j.Pc=3
  · simp only [p3,beq_self_eq_true,if_true,sT,lK,hj,hpn,aE,dB,jZ,iG,mA,bD]
    cases pn.On with
    | false=>simp only [aN,if_false,aE,iE,if_true,hj];exact⟨_,rfl,rfl,hs.put hs.1 hcs (by exact cQ hb hjo) _,Nat.le_succ _⟩
    | true =>
      simp only [if_true,aE]
      cases pn.cX with
      | false=>simp only [aN,if_false,aE,iE,dE,if_true,hj];exact⟨_,rfl,rfl,hs.put hs.1 hcs (by exact cQ hb hjo) _,Nat.le_succ _⟩
      | true=>simp only [aN,if_false,aE,iE,dE,if_true,hj];exact⟨_,rfl,rfl,hs.put hs.1 hcs (by exact cQ hb hjo) _,Nat.le_succ _⟩
  simp only [gL p3,aN,if_false]
  by_cases p4:j.Pc=4
  · obtain⟨r,e1,e2,h1,h2⟩:=aIH hs.1.1.2.1 hw
    simp only [p4,beq_self_eq_true,if_true,e1,e2,rO,aE,hj]
    exact⟨_,rfl,rfl,hs.put (hs.1.clock h1 (by rw [h2];exact Int.le_refl _)) hcs (by exact cQ hb hjo) _,Nat.le_succ _⟩
  simp only [gL p4,aN,if_false,aE,hj]
  exact⟨_,rfl,rfl,hs.put hs.1 hcs (by exact cQ hb hjo) _,Nat.le_succ _⟩
theorem aW2(hk:j.Op.Kind=3):∃x,((FM s w j).bind fun q=>cJ w q.1 q.2)=some x∧CA s w=some x∧C7 x∧x.Log.length≤s.Log.length+1:=by
  have h3:=hs.2.2.1
  have hset:∀x,idx (s.aX.set w.toNat x) w=some x:=JA hw.1 (by omega)
  have hn:∀(e:Ev) {α:Type} (k:Option α),need (s.Log.length + [e].length≤1073741824) k=k:=fun e _ k=>aM (by simp;omega) k
  have hcs:s.Cells.length=2∧∀h∈s.Cells,cS h:=⟨hs.2.1,hs.2.2.2.2.2.1⟩
  have hcell:idx s.Cells j.Op.Cell=some (s.Cells[j.Op.Cell.toNat]'(by have:=hjo.1.2.2.1;omega)):=fP hjo.1.2.2.1.1 (by have:=hjo.1.2.2.1;omega)
  have hcm:cS (s.Cells[j.Op.Cell.toNat]'(by have:=hjo.1.2.2.1;omega)):=hcs.2 _ (List.getElem_mem _)
  generalize (s.Cells[j.Op.Cell.toNat]'(by have:=hjo.1.2.2.1;omega))=cell at hcell hcm
  unfold FM CA
  rw [hj]
  simp only [aE,bD,bM,dB,cJ,B8,B9]
  by_cases p0:j.Pc=0
  · simp only [p0,beq_self_eq_true,if_true,hcell,aE,jF,hn,hj,cT,dJ,hset]
    by_cases c0:cell=0
    · simp only [c0,beq_self_eq_true,if_true,aE,hj,List.set_set,hn];exact⟨_,rfl,rfl,hs.put hs.1 hcs (by exact cQ hb ⟨hjo.1,.inl rfl,hjo.2.2⟩) _,by simp⟩
    · simp only [gL c0,aN,if_false,aE,hj,List.set_set];exact⟨_,rfl,rfl,hs.put hs.1 hcs (by exact cQ hb ⟨hjo.1,hcm,hjo.2.2⟩) _,Nat.le_succ _⟩
  simp only [gL p0,aN,if_false]
  by_cases p1:j.Pc=1
  · obtain⟨r,e1,e2,h1⟩:=aKB hs.1.1.2.2.2 hw j.H
    simp only [p1,beq_self_eq_true,if_true,e1,e2,aE,hj]
    exact⟨_,rfl,rfl,hs.put (hs.1.haz h1) hcs (by exact cQ hb hjo) _,Nat.le_succ _⟩
  simp only [gL p1,aN,if_false]
  by_cases p2:j.Pc=2
  · simp only [p2,beq_self_eq_true,if_true,hcell,aE,jF,hn,hj,cT,dJ]
    by_cases c0:cell=j.H
    · simp only [c0,bne_self_eq_false,aN,if_false,aE,hj];exact⟨_,rfl,rfl,hs.put hs.1 hcs (by exact cQ hb hjo) _,by simp⟩
    · simp only [NU c0,if_true,aE,hj];exact⟨_,rfl,rfl,hs.put hs.1 hcs (by exact cQ hb hjo) _,Nat.le_succ _⟩
  simp only [gL p2,aN,if_false]
  by_cases p3:j.Pc=3
  · obtain⟨r,e1,e2⟩:=aJ9 hs.1.1.1 j.H
    simp only [p3,beq_self_eq_true,if_true,nU,lE,hj,e1,e2,aE,hset,List.set_set]
    exact⟨_,rfl,rfl,hs.put hs.1 hcs (by exact cQ hb hjo) _,Nat.le_succ _⟩
  simp only [gL p3,aN,if_false]
  by_cases p4:j.Pc=4
  · obtain⟨r,e1,e2,h1⟩:=aQ4 hs.1.1.2.2.2 hw
    simp only [p4,beq_self_eq_true,if_true,e1,e2,aE,hj]
    exact⟨_,rfl,rfl,hs.put (hs.1.haz h1) hcs (by exact cQ hb hjo) _,Nat.le_succ _⟩
  simp only [gL p4,aN,if_false,aE,hj]
  exact⟨_,rfl,rfl,hs.put hs.1 hcs (by exact cQ hb hjo) _,Nat.le_succ _⟩
theorem aT6(hk:j.Op.Kind=7):∃x,((CQ s w j).bind fun q=>cJ w q.1 q.2)=some x∧zE s w=some x∧C7 x∧x.Log.length≤s.Log.length+1:=by
  have h3:=hs.2.2.1
  have hset:∀x,idx (s.aX.set w.toNat x) w=some x:=JA hw.1 (by omega)
  have hn:∀(e:Ev) {α:Type} (k:Option α),need (s.Log.length + [e].length≤1073741824) k=k:=fun e _ k=>aM (by simp;omega) k
  have hcs:s.Cells.length=2∧∀h∈s.Cells,cS h:=⟨hs.2.1,hs.2.2.2.2.2.1⟩
  have hcell:idx s.Cells j.Op.Cell=some (s.Cells[j.Op.Cell.toNat]'(by have:=hjo.1.2.2.1;omega)):=fP hjo.1.2.2.1.1 (by have:=hjo.1.2.2.1;omega)
  have hcm:cS (s.Cells[j.Op.Cell.toNat]'(by have:=hjo.1.2.2.1;omega)):=hcs.2 _ (List.getElem_mem _)
  generalize (s.Cells[j.Op.Cell.toNat]'(by have:=hjo.1.2.2.1;omega))=cell at hcell hcm
  obtain⟨pn,hpn,_⟩:=WM hs.1.1.2.1 hw
  unfold CQ zE
  rw [hj,hpn]
  simp only [aE,bD,bM,dB,cJ,z8,qS,qR,hj]
  by_cases p0:j.Pc=0
  · simp only [p0,beq_self_eq_true,if_true]
    cases pn.On with
    | false=>simp only [iE,if_true,aE,hj];exact⟨_,rfl,rfl,hs.put hs.1 hcs (by exact cQ hb hjo) _,Nat.le_succ _⟩
    | true =>
      simp only [dE,aN,if_false]
      cases pn.cX with
      | true=>simp only [if_true,aE,hj];exact⟨_,rfl,rfl,hs.put hs.1 hcs (by exact cQ hb hjo) _,Nat.le_succ _⟩
      | false =>
        simp only [aN,if_false,hcell,aE,jF,hn,uF,hj,cT,dJ,hset]
        by_cases c0:cell=0
        · simp only [c0,beq_self_eq_true,if_true,aE,hj,List.set_set];exact⟨_,rfl,rfl,hs.put hs.1 hcs (by exact cQ hb ⟨hjo.1,.inl rfl,hjo.2.2⟩) _,by simp⟩
        · simp only [gL c0,aN,if_false,aE,hj,List.set_set];exact⟨_,rfl,rfl,hs.put hs.1 hcs (by exact cQ hb ⟨hjo.1,hcm,hjo.2.2⟩) _,by simp⟩
  simp only [gL p0,aN,if_false,hj,aE]
  by_cases p1:j.Pc=1
  · obtain⟨r,e1,e2⟩:=aJ9 hs.1.1.1 j.H
    simp only [p1,beq_self_eq_true,if_true,nU,lE,hj,e1,e2,aE,hset,List.set_set]
    exact⟨_,rfl,rfl,hs.put hs.1 hcs (by exact cQ hb hjo) _,Nat.le_succ _⟩
  simp only [gL p1,aN,if_false]
  by_cases p2:j.Pc=2
  · simp only [p2,beq_self_eq_true,if_true,sT,lK,hj,hpn,aE,dB,jZ,iG,mA,bD]
    cases pn.On with
    | false=>simp only [aN,if_false,aE,iE,if_true,hj];exact⟨_,rfl,rfl,hs.put hs.1 hcs (by exact cQ hb hjo) _,Nat.le_succ _⟩
    | true =>
      simp only [if_true,aE]
      cases pn.cX with
      | false=>simp only [aN,if_false,aE,iE,dE,if_true,hj];exact⟨_,rfl,rfl,hs.put hs.1 hcs (by exact cQ hb hjo) _,Nat.le_succ _⟩
      | true=>simp only [aN,if_false,aE,iE,dE,if_true,hj];exact⟨_,rfl,rfl,hs.put hs.1 hcs (by exact cQ hb hjo) _,Nat.le_succ _⟩
  simp only [gL p2,aN,if_false,aE,hj]
  exact⟨_,rfl,rfl,hs.put hs.1 hcs (by exact cQ hb hjo) _,Nat.le_succ _⟩
theorem aQ5(hk:j.Op.Kind=4∨j.Op.Kind=5∨j.Op.Kind=6):∃x,((yK s w j).bind fun q=>cJ w q.1 q.2)=some x∧vT s w=some x∧C7 x∧x.Log.length≤s.Log.length+1:=by
  have h3:=hs.2.2.1
  have hset:∀x,idx (s.aX.set w.toNat x) w=some x:=JA hw.1 (by omega)
  have hcs:s.Cells.length=2∧∀h∈s.Cells,cS h:=⟨hs.2.1,hs.2.2.2.2.2.1⟩
  obtain⟨x,y,e1,e2,hx⟩:=step_eq hs.1 hs.1.small hw j.Sub
  unfold yK vT
  rw [hj]
  simp only [aE,bD,bM,dB,cJ,gX,jP,wE,hU,oY,oT,oX,oW,oV,hj,e1,e2]
  rcases hk with k4 | k5 | k6
  · simp only [k4,show((4:Int) == 6)=false from rfl,show((4:Int) == 5)=false from rfl,show((4:Int) == 4)=true from rfl,aN,if_false,if_true]
    by_cases p0:j.Pc=0
    · simp only [p0,bne_self_eq_false,beq_self_eq_true,aN,if_false,if_true]
      cases hd:y.cV with
      | false=>simp only [iE,if_true,aN,if_false,aE,hj];exact⟨_,rfl,rfl,hs.put hx hcs (by exact cQ hb hjo) _,Nat.le_succ _⟩
      | true=>simp only [dE,if_true,aN,if_false,aE,hj];exact⟨_,rfl,rfl,hs.put hx hcs (by exact cQ hb hjo) _,Nat.le_succ _⟩
    · simp only [NU p0,gL p0,aN,if_false,if_true]
      by_cases p1:j.Pc=1
      · simp only [p1,bne_self_eq_false,beq_self_eq_true,aN,if_false,if_true,show((1:Int) == 0)=false from rfl]
        cases hd:y.cV with
        | false=>simp only [iE,if_true,aN,if_false,aE,hj];exact⟨_,rfl,rfl,hs.put hx hcs (by exact cQ hb hjo) _,Nat.le_succ _⟩
        | true=>simp only [dE,if_true,aN,if_false,aE,hj];exact⟨_,rfl,rfl,hs.put hx hcs (by exact cQ hb hjo) _,Nat.le_succ _⟩
      · simp only [NU p1,gL p1,aN,if_false,if_true,aE,hj]
        exact⟨_,rfl,rfl,hs.put hs.1 hcs (by exact cQ hb hjo) _,Nat.le_succ _⟩
  · simp only [k5,show((5:Int) == 6)=false from rfl,show((5:Int) == 5)=true from rfl,show((5:Int) == 4)=false from rfl,aN,if_false,if_true]
    by_cases p0:j.Pc=0
    · simp only [p0,bne_self_eq_false,beq_self_eq_true,aN,if_false,if_true]
      cases hd:y.cV with
      | false=>simp only [iE,if_true,aN,if_false,aE,hj];exact⟨_,rfl,rfl,hs.put hx hcs (by exact cQ hb hjo) _,Nat.le_succ _⟩
      | true=>simp only [dE,if_true,aN,if_false,aE,hj];exact⟨_,rfl,rfl,hs.put hx hcs (by exact cQ hb hjo) _,Nat.le_succ _⟩
    · simp only [NU p0,gL p0,aN,if_false,if_true]
      by_cases p1:j.Pc=1
      · simp only [p1,bne_self_eq_false,aN,if_false,if_true,aE,hj]
        exact⟨_,rfl,rfl,hs.put hs.1 hcs (by exact cQ hb hjo) _,Nat.le_succ _⟩
      · simp only [NU p1,if_true,aE,hj]
        exact⟨_,rfl,rfl,hs.put hs.1 hcs (by exact cQ hb hjo) _,Nat.le_succ _⟩
  · simp only [k6,beq_self_eq_true,show((6:Int) == 5)=false from rfl,show((6:Int) == 4)=false from rfl,aN,if_false,if_true]
    by_cases p0:j.Pc=0
    · obtain⟨r,f1,f2,h1,h2⟩:=aIH hs.1.1.2.1 hw
      simp only [p0,beq_self_eq_true,if_true,f1,f2,rO,aE]
      cases hr:r.2 with
      | false=>simp only [iE,if_true,aE,hj];exact⟨_,rfl,rfl,hs.put (hs.1.clock h1 (by rw [h2];exact Int.le_refl _)) hcs (by exact cQ hb hjo) _,Nat.le_succ _⟩
      | true=>simp only [dE,aN,if_false,aE,hj];exact⟨_,rfl,rfl,hs.put (hs.1.clock h1 (by rw [h2];exact Int.le_refl _)) hcs (by exact cQ hb hjo) _,Nat.le_succ _⟩
    · simp only [gL p0,aN,if_false,aE,hj]
      exact⟨_,rfl,rfl,hs.put hs.1 hcs (by exact cQ hb hjo) _,Nat.le_succ _⟩
end
theorem aKC{l:List dT}(h:0 < l.length)(hl:l.length≤1000):vM l 0 1=some (l.drop 1):=by
  have e:=del_eq (l:=l) (k:=0) h
  unfold vM
  rw [aM (by omega),if_neg (by simp),aM (by omega),aM (by omega),aM (by omega),aM]
  · simp only [Int.toNat_zero,Int.toNat_one] at e ⊢
    rw [Nat.zero_add] at e
    rw [Nat.zero_add,e,List.eraseIdx_zero,List.drop_one]
  · rw [eT (by omega)]
    simp only [List.drop_zero,List.length_take,eT (show(0:Int).toNat≤l.length by simp)]
    omega
theorem aCI{o:dT}(ho:kX o)(ser pc:Int)(sub:Sub)(code:Int):ZV ⟨true,o,ser,pc,sub,0,0,0,code⟩:=(yU rfl).2 ⟨ho,.inl rfl,.inl rfl⟩
theorem aQ6{s:aG}(hs:C7 s)(hl:s.Log.length≤1000000000){w:Int}(hw:0≤w∧w≤2){j:bE}(hj:idx s.aX w=some j):∃x,yE s w=some x∧vN s w=some x∧C7 x∧x.Log.length≤s.Log.length+1:=by
  have h3:=hs.2.2.1
  have ht:=hs.2.2.2.1
  have hser:=hs.2.2.2.2.1
  have hset:∀x,idx (s.aX.set w.toNat x) w=some x:=JA hw.1 (by omega)
  have hn:∀(e:Ev) {α:Type} (k:Option α),need (s.Log.length + [e].length≤1073741824) k=k:=fun e _ k=>aM (by simp;omega) k
  have hq:idx s.e9 w=some (s.e9[w.toNat]'(by have:=ht.1;omega)):=fP hw.1 (by have:=ht.1;omega)
  have hqk:QOk (s.e9[w.toNat]'(by have:=ht.1;omega)):=ht.2 _ (List.getElem_mem _)
  generalize (s.e9[w.toNat]'(by have:=ht.1;omega))=q at hq hqk
  obtain⟨pn,hpn,_⟩:=WM hs.1.1.2.1 hw
  have ew:bB (s.aK+1)=s.aK+1:=aO (by omega) (by omega)
  unfold yE vN
  rw [hq]
  simp only [aE,v5,oP]
  by_cases l0:q.i6.length=0
  · simp only [show((q.i6.length:Int) == 0)=true by rw [l0];rfl,if_true]
    exact⟨_,rfl,rfl,hs,Nat.le_succ _⟩
  · simp only [show((q.i6.length:Int) == 0)=false from gL (by omega),aN,if_false]
    by_cases s0:s.aK=1000000
    · simp only [s0,beq_self_eq_true,if_true]
      exact⟨_,rfl,rfl,hs,Nat.le_succ _⟩
    · simp only [gL s0,aN,if_false,hq,aE]
      have hx:idx q.i6 0=some (q.i6[0]'(by omega)):=by have:=aV (l:=q.i6) (k:=0) (by omega);simpa using this
      have ho:kX (q.i6[0]'(by omega)):=hqk.2 _ (List.getElem_mem _)
      have h12:=hqk.1
      have hdel:=aKC (l:=q.i6) (by omega) (by omega)
      generalize (q.i6[0]'(by omega))=o at hx ho
      have etk:(q.i6.take q.i6.length).drop (1:Int).toNat=q.i6.drop 1:=by rw [List.take_length];rfl
      have hT:LB (s.e9.set w.toNat ⟨q.i6.drop 1⟩):=⟨by simpa using ht.1,fun z hz=>(List.mem_or_eq_of_mem_set hz).elim (ht.2 z) (fun e=>by
        subst e
        exact⟨by simp only [List.length_drop];omega,fun a ha=>hqk.2 a (List.mem_of_mem_drop ha)⟩)⟩
      have fin:∀(jb:bE) (l:List Ev),ZV jb→C7 ⟨s.aA,s.Cells,s.aX.set w.toNat jb,s.e9.set w.toNat ⟨q.i6.drop 1⟩,l,s.aK+1⟩:=fun jb l hjb=>
        ⟨hs.1,hs.2.1,by simpa using h3,hT,by simp only;omega,hs.2.2.2.2.2.1,fun z hz=>(List.mem_or_eq_of_mem_set hz).elim (hs.2.2.2.2.2.2 z) (fun e=>e ▸ hjb)⟩
      simp only [hx,hdel,aE,gX,jP,ew]
      rw [aM (by omega)]
      by_cases k1:o.Kind=1
      · simp only [k1,beq_self_eq_true,if_true,eX,dX,hj,cT,dJ,aE,hset,hn,etk,ew]
        exact⟨_,rfl,rfl,fin _ _ (aCI ho _ _ _ _),by simp⟩
      simp only [gL k1,aN,if_false]
      have pin:∀z,z=true→∃x,iT s w q o z=some x∧jJ s w o (q.i6.drop 1) z=some x∧C7 x∧x.Log.length≤s.Log.length+1:=fun z hz=>by
        subst hz
        simp only [iT,jJ,if_true,gX,jP,hpn,aE,bM]
        cases pn.On with
        | true =>
          simp only [if_true,eX,dX,hj,cT,dJ,aE,hset,hn,etk,ew]
          exact⟨_,rfl,rfl,fin _ _ (aCI ho _ _ _ _),by simp⟩
        | false =>
          simp only [aN,if_false,eX,dX,hj,cT,dJ,aE,hset,hn,etk,ew]
          exact⟨_,rfl,rfl,fin _ _ (aCI ho _ _ _ _),by simp⟩
      by_cases k2:o.Kind=2
      · simp only [k2,beq_self_eq_true,if_true];exact pin true rfl
      simp only [gL k2,aN,if_false]
      by_cases k5:o.Kind=5
      · simp only [k5,beq_self_eq_true];exact pin true rfl
      simp only [gL k5,iT,jJ,aN,if_false,gX,jP,aE]
      by_cases k4:o.Kind=4
      · simp only [k4,beq_self_eq_true,if_true,eX,dX,hj,cT,dJ,aE,hset,hn,etk,ew]
        exact⟨_,rfl,rfl,fin _ _ (aCI ho _ _ _ _),by simp⟩
      · simp only [gL k4,aN,if_false,eX,dX,hj,cT,dJ,aE,hset,hn,etk,ew]
        exact⟨_,rfl,rfl,fin _ _ (aCI ho _ _ _ _),by simp⟩
theorem aGO{s:aG}(hs:C7 s)(hl:s.Log.length≤1000000000){w:Int}(hw:0≤w∧w≤2):∃x,NC s w=some x∧rQ s w=some x∧C7 x∧x.Log.length≤s.Log.length+1:=by
  have h3:=hs.2.2.1
  have hset:∀x,idx (s.aX.set w.toNat x) w=some x:=JA hw.1 (by omega)
  have hn:∀(e:Ev) {α:Type} (k:Option α),need (s.Log.length + [e].length≤1073741824) k=k:=fun e _ k=>aM (by simp;omega) k
  have hj:idx s.aX w=some (s.aX[w.toNat]'(by omega)):=fP hw.1 (by omega)
  have hjk:ZV (s.aX[w.toNat]'(by omega)):=hs.2.2.2.2.2.2 _ (List.getElem_mem _)
  generalize (s.aX[w.toNat]'(by omega))=j at hj hjk
  unfold NC rQ
  rw [hj]
  simp only [aE]
  cases hb:j.eG with
  | false =>
    obtain⟨x,e1,e2,e3,e4⟩:=aQ6 hs hl hw hj
    simp only [iE,if_true,e1,e2,aE]
    exact⟨_,rfl,rfl,e3,e4⟩
  | true =>
    have hjo:=(yU hb).1 hjk
    simp only [dE,aN,if_false]
    by_cases p9:j.Pc=9
    · simp only [p9,beq_self_eq_true,if_true,hn,cT,dJ,hj,aE]
      exact⟨_,rfl,rfl,hs.put hs.1 ⟨hs.2.1,hs.2.2.2.2.2.1⟩ ((QW rfl).2 rfl) _,by simp⟩
    simp only [gL p9,aN,if_false]
    have close:∀{A B:Option aG} {x:aG},A=some x→B=some x→C7 x→x.Log.length≤s.Log.length+1→∃x,A=some x∧(B.bind fun z=>some z)=some x∧C7 x∧x.Log.length≤s.Log.length+1:=fun h1 h2 h3 h4=>⟨_,h1,by rw [h2];rfl,h3,h4⟩
    by_cases k1:j.Op.Kind=1
    · obtain⟨x,e1,e2,e3,e4⟩:=aW1 hs hl hw hj hb hjo k1
      simp only [k1,beq_self_eq_true,if_true];exact close e1 e2 e3 e4
    simp only [gL k1,aN,if_false]
    by_cases k2:j.Op.Kind=2
    · obtain⟨x,e1,e2,e3,e4⟩:=get_eq hs hl hw hj hb hjo k2
      simp only [k2,beq_self_eq_true,if_true];exact close e1 e2 e3 e4
    simp only [gL k2,aN,if_false]
    by_cases k3:j.Op.Kind=3
    · obtain⟨x,e1,e2,e3,e4⟩:=aW2 hs hl hw hj hb hjo k3
      simp only [k3,beq_self_eq_true,if_true];exact close e1 e2 e3 e4
    simp only [gL k3,aN,if_false]
    by_cases k7:j.Op.Kind=7
    · obtain⟨x,e1,e2,e3,e4⟩:=aT6 hs hl hw hj hb hjo k7
      simp only [k7,beq_self_eq_true,if_true];exact close e1 e2 e3 e4
    simp only [gL k7,aN,if_false]
    have hkr:=hjo.1.1
    obtain⟨x,e1,e2,e3,e4⟩:=aQ5 hs hl hw hj hb hjo (by omega)
    exact close e1 e2 e3 e4
end Go.Gv
end
noncomputable section
namespace Go.Gv
def AI(s:Sub)(code:Int):Sub:={s with Code:=code,cV:=true}
def wW(n:Int):Int:=if 1≤n∧n≤8 then 0 else if 1≤n∧n≤16 then 1 else if 1≤n∧n≤40 then 2 else -1
theorem aCJ(n:Int):-1≤wW n∧wW n≤2:=by unfold wW;split <;> (try split) <;> (try split) <;> omega
theorem aNF(n:Int):CF n=some (wW n):=by
  have s1:∀k,0≤k∧k≤2→fI n k=some (if 1≤n∧n≤gP k then .stop (Out.ret k) else .next (k+1)):=fun k hk=>by
    simp only [fI]
    rw [if_pos (by simp;omega),pU,aE,bZ,aE,aO (by omega) (by omega)]
    by_cases q:1≤n∧n≤gP k
    · rw [bC q,if_pos rfl,if_pos q]
    · rw [bL q,if_neg (by simp),if_neg q]
  have z0:gP 0=8:=rfl
  have z1:gP 1=16:=rfl
  have z2:gP 2=40:=rfl
  unfold CF wW
  by_cases q0:1≤n∧n≤8
  · rw [bO (by rw [s1 0 (by omega),if_pos (by omega)]),if_pos q0];rfl
  · rw [bP (by rw [s1 0 (by omega),if_neg (by omega)]),if_neg q0,show(0:Int)+1=1 from rfl]
    by_cases q1:1≤n∧n≤16
    · rw [bO (by rw [s1 1 (by omega),if_pos (by omega)]),if_pos q1];rfl
    · rw [bP (by rw [s1 1 (by omega),if_neg (by omega)]),if_neg q1,show(1:Int)+1=2 from rfl]
      by_cases q2:1≤n∧n≤40
      · rw [bO (by rw [s1 2 (by omega),if_pos (by omega)]),if_pos q2];rfl
      · rw [bP (by rw [s1 2 (by omega),if_neg (by omega)]),if_neg q2,show(2:Int)+1=3 from rfl,bO (body:=fI n) (r:=Out.brk ()) (by simp [fI])];rfl
def JB(l:List Int):List Int×Int:=(l.dropLast,l.getLastD (-1))
theorem ZW{s:aQ}(h:s.aS.length≤1048576):qV s=some (⟨(JB s.aS).1⟩,(JB s.aS).2):=by
  unfold qV KW JB
  obtain⟨l⟩:=s
  rcases List.eq_nil_or_concat l with rfl | ⟨L,b,rfl⟩
  · rfl
  · simp only [List.concat_eq_append] at h ⊢
    have hl:(L ++ [b]).length=L.length+1:=by simp
    rw [hl,aO (by omega) (by omega),show((L.length+1:Nat):Int) - 1=(L.length:Int) by omega,if_neg (by simp;omega),aM (by omega),aV (by rw [hl];omega)]
    simp
def C8(m:Mem)(w c:Int):Mem×Int:=(⟨m.aD,⟨m.aB.Global,m.aB.Own.set (w * 3+c).toNat ⟨(JB (dO m.aB.Own (w * 3+c).toNat)).1⟩⟩⟩,(JB (dO m.aB.Own (w * 3+c).toNat)).2)
def sW(m:Mem)(c:Int):Mem×Int:=(⟨m.aD,⟨m.aB.Global.set c.toNat ⟨(JB (dO m.aB.Global c.toNat)).1⟩,m.aB.Own⟩⟩,(JB (dO m.aB.Global c.toNat)).2)
def VC(h:aD):Nat:=h.Class.findIdx (fun x=>decide (x = -1))
def GH(m:Mem)(c:Int):Mem×Int:=if VC m.aD=6 then (m,-1) else
  (⟨⟨gB m.aD.Bytes (VC m.aD) c (bV c).toNat,m.aD.Class.set (VC m.aD) c⟩,⟨m.aB.Global.set c.toNat ⟨dO m.aB.Global c.toNat++(gS (VC m.aD) (bV c).toNat).drop 1⟩,m.aB.Own⟩⟩,(VC m.aD:Int) * 4)
theorem aQ7{h:aD}(hs:fS h):VC h≤6:=by rw [←hs.2.1];exact List.findIdx_le_length
theorem aQ8{h:aD}(hs:fS h)(hq:VC h≠6):VC h < 6∧bT h (VC h) = -1:=by
  have h6:=hs.2.1
  have hlt:VC h < 6:=by have:=aQ7 hs;omega
  refine⟨hlt,?_⟩
  rw [←RL hs hlt]
  have:=List.findIdx_getElem (xs:=h.Class) (p:=fun x=>decide (x = -1)) (w:=by show VC h < _;omega)
  exact of_decide_eq_true this
theorem aT7{h:aD}(hs:fS h):∀j (hj:j < 6),j < VC h→bT h j≠-1:=fun j hj hlt=>by
  have:=List.not_of_lt_findIdx hlt
  rw [←RL hs hj]
  simpa using this
theorem aW3{h:aD}(hh:RU h){c:Int}(hc:0≤c∧c≤2):qW h c=some (if VC h=6 then (h,[]) else (⟨gB h.Bytes (VC h) c (bV c).toNat,h.Class.set (VC h) c⟩,gS (VC h) (bV c).toNat)):=by
  have hs:=hh.1
  have h6:=hs.2.1
  have h384:=hs.1
  have hle:=aQ7 hs
  have s1:∀k (hk:k < VC h),eY h c (k:Int)=some (.next ((k+1:Nat):Int)):=fun k hk=>by
    have n:(h.Class[k] != -1)=true:=by
      have:=aT7 hs k (by omega) hk
      rw [←RL hs (by omega)] at this
      simpa using this
    simp only [eY,GB]
    rw [if_pos (by simp;omega),aV (by omega),aE,n,if_pos rfl,aO (by omega) (by omega)];rfl
  unfold qW
  by_cases hq:VC h=6
  · have a1:loop (eY h c) 0=some (Out.brk ()):=iY (VC h) (fun k=>(k:Int)) _ s1 (by simp only [eY];rw [if_neg (by simp;omega)])
    rw [a1,if_pos hq];rfl
  · obtain⟨hlt,he⟩:=aQ8 hs hq
    rw [←RL hs hlt] at he
    generalize hqq:VC h=q at *
    have a1:loop (eY h c) 0=some (Out.ret (⟨gB h.Bytes q c (bV c).toNat,h.Class.set q c⟩,gS q (bV c).toNat)):=iY q (fun k=>(k:Int)) _ s1 (by
      have e0:bB ((q:Int) * 64)=((q * 64:Nat):Int):=by rw [aO (by omega) (by omega)];omega
      have e1:bB (((q * 64:Nat):Int)+1)=((q * 64+1:Nat):Int):=by rw [aO (by omega) (by omega)];omega
      have e2:bB (((q * 64:Nat):Int)+2)=((q * 64+2:Nat):Int):=by rw [aO (by omega) (by omega)];omega
      have n:(h.Class[q] != -1)=false:=by simpa using he
      simp only [eY,e0,e1,e2,Int.toNat_natCast]
      rw [if_pos (by simp;omega),aV (by omega),aE,n,if_neg (by simp),aV (by omega),aE,aV (by simp;omega),aE,hJ,aE,aV (by simp;omega),aE]
      have:=aCA h384 hlt hc
      simp only [gB] at this
      rw [this];rfl)
    rw [a1,if_neg hq];rfl
theorem aNG{m:Mem}(hm:mD m){c:Int}(hc:0≤c∧c≤2):CG m c=some (GH m c):=by
  have h3:=hm.1.2.1
  have hpp:0 < bV c:=gZ.2 hc
  have hp4:=lX c
  obtain⟨_,_,_,_,_,_,_,_,hsG,_⟩:=mD.facts hm
  unfold CG GH
  rw [aW3 hm.1.1 hc]
  by_cases hq:VC m.aD=6
  · simp only [if_pos hq,aE];rfl
  · have hk:c.toNat < m.aB.Global.length:=by omega
    have hg0:=hsG _ (List.getElem_mem hk)
    have hx:idx m.aB.Global c=some m.aB.Global[c.toNat]:=fP hc.1 (by omega)
    have hz:idx (gS (VC m.aD) (bV c).toNat) 0=some ((VC m.aD:Int) * 4):=by
      have:=aV (l:=gS (VC m.aD) (bV c).toNat) (k:=0) (by rw [I7];omega)
      rw [show((0:Nat):Int)=0 from rfl] at this
      rw [this];simp [gS]
    have hn:(((bV c).toNat:Int) == 0)=false:=by simpa using (by omega:¬((bV c).toNat:Int)=0)
    have ht:(gS (VC m.aD) (bV c).toNat).take (bV c).toNat=gS (VC m.aD) (bV c).toNat:=List.take_of_length_le (by rw [I7];omega)
    have hd:((gS (VC m.aD) (bV c).toNat).drop 1).length≤4:=by rw [List.length_drop,I7];omega
    simp only [if_neg hq,aE,I7,hn,aN,if_false,hx,hz,GC,ht]
    rw [aM (by omega),aM (by simp only [List.length_drop,I7,Int.toNat_one];omega),dD hk];rfl
def aKD(m:Mem)(s:Int):Int:=if 1≤hY m.aD s∧hY m.aD s≤6 then hY m.aD s * 32+s else 0
theorem aT8{m:Mem}(hs:fS m.aD){s:Int}(hc:0≤aW m.aD s):yF m s=some (aKD m s):=by
  unfold yF KX v8 aKD
  rw [oA hs hc,aE,bZ,bZ]
  have h1:=(oZ hc).1
  simp only [bC h1,aE,dE,aN,if_false]
  by_cases q:1≤hY m.aD s∧hY m.aD s≤6
  · simp only [bC q,dE,aN,if_false,if_pos q]
    rw [aO (x:=hY m.aD s * 32) (by omega) (by omega),aO (by omega) (by omega)];rfl
  · simp only [bL q,iE,if_true,if_neg q];rfl
def LC(b:aA)(s:Sub)(p:Mem×Int):aA×Sub:=
  if 0≤p.2 then ({b with Mem:=p.1},AI {s with Out:=aKD p.1 p.2} 0) else if s.Pc=3 then ({b with Mem:=p.1},AI s 3) else ({b with Mem:=p.1},{s with Pc:=s.Pc+1})
def TN(b:aA)(w:Int)(s:Sub):aA×Sub:=
  if wW s.A < 0 then (b,AI s 2)
  else if s.Pc=0 then LC b s (C8 b.Mem w (wW s.A))
  else if s.Pc=1∨s.Pc=3 then LC b s (sW b.Mem (wW s.A))
  else if s.Pc=2 then LC b s (GH b.Mem (wW s.A))
  else (b,AI s 1)
theorem aNH{b:aA}(hm:mD b.Mem){w:Int}(hw:0≤w∧w≤2)(s:Sub):yG b w s=some (TN b w s):=by
  obtain⟨hcnt,h3,h9,h1,h2,hsm,hcp,hlo,hsG,hsO⟩:=mD.facts hm
  have hs:=hm.1.1.1
  have hr:=aCJ s.A
  unfold yG TN
  rw [aNF]
  simp only [aE]
  by_cases c0:wW s.A < 0
  · simp only [bC c0,if_true,bK,if_pos c0];rfl
  generalize wW s.A=c at *
  have hc:0≤c∧c≤2:=by omega
  simp only [bL c0,aN,if_false,if_neg c0]
  have fin:∀(p:Mem×Int),-1≤p.2→(0≤p.2→fS p.1.aD∧0≤aW p.1.aD p.2)→s.Pc≤3∧0≤s.Pc→iU s p.2 ⟨p.1,b.aC,b.aP,b.nA⟩=some (LC b s p):=by
    intro p hp hx hpc
    unfold iU LC
    simp only [wA,NA,bK]
    by_cases x0:0≤p.2
    · rw [bL (show ¬p.2 < 0 by omega),bC x0]
      simp only [aN,if_false,if_true,if_pos x0,aT8 (hx x0).1 (hx x0).2,aE];rfl
    · rw [bC (show p.2 < 0 by omega),bL x0]
      by_cases p3:s.Pc=3
      · have p3':(s.Pc == 3)=true:=by simpa using p3
        simp only [p3',if_true,if_neg x0,if_pos p3,aE];rfl
      · have p3':(s.Pc == 3)=false:=by simpa using p3
        have e:bB (s.Pc+1)=s.Pc+1:=aO (by omega) (by omega)
        simp only [p3',if_true,aN,if_false,if_neg x0,if_neg p3,aE,e]
  have popL:∀l:List Int,-1≤(JB l).2∨(JB l).2∈l:=fun l=>by
    unfold JB
    rcases List.eq_nil_or_concat l with rfl | ⟨L,b,rfl⟩
    · left;simp
    · right;simp
  by_cases p0:s.Pc=0
  · have hk:(w * 3+c).toNat < b.Mem.aB.Own.length:=by omega
    have hx:idx b.Mem.aB.Own (w * 3+c)=some b.Mem.aB.Own[(w * 3+c).toNat]:=fP (by omega) (by omega)
    obtain⟨l,t,x,e1,e2,e3,g1,g2,g3⟩:=aCE hm hw hc
    have hl:=hsO _ (List.getElem_mem hk)
    rw [hx] at e1;cases e1
    rw [ZW (by omega)] at e2
    have ep:C8 b.Mem w c=(⟨b.Mem.aD,⟨b.Mem.aB.Global,b.Mem.aB.Own.set (w * 3+c).toNat t⟩⟩,x):=by
      unfold C8
      rw [←dD hk]
      injection e2 with e2;injection e2 with e4 e5
      rw [←e4,←e5]
    have hx0:-1≤x:=by
      injection e2 with e2;injection e2 with e4 e5
      rcases popL b.Mem.aB.Own[(w * 3+c).toNat].aS with h | h
      · rw [←e5];exact h
      · rw [←e5];have:=hm.1.2.2.2.2.1 _ (List.mem_append_right _ (List.mem_flatMap.2 ⟨_,List.getElem_mem hk,h⟩));omega
    have p0':(s.Pc == 0)=true:=by simpa using p0
    have:=fin (C8 b.Mem w c) (by rw [ep];exact hx0) (by rw [ep];exact fun h=>⟨hs,g2 h⟩) (by omega)
    rw [ep] at this
    simp only [p0',if_true,if_pos p0,(ML hw hc).1,aE,hx]
    rw [ZW (show b.Mem.aB.Own[(w * 3+c).toNat].aS.length≤1048576 by omega),e2,aE,ep]
    exact this
  · have p0':(s.Pc == 0)=false:=by simpa using p0
    simp only [p0',aN,if_false,wB,if_neg p0]
    have hk:c.toNat < b.Mem.aB.Global.length:=by omega
    have hx:idx b.Mem.aB.Global c=some b.Mem.aB.Global[c.toNat]:=fP (by omega) (by omega)
    obtain⟨l,t,x,e1,e2,e3,g1,g2,g3⟩:=SQ hm hc
    have hl:=hsG _ (List.getElem_mem hk)
    rw [hx] at e1;cases e1
    rw [ZW (by omega)] at e2
    have ep:sW b.Mem c=(⟨b.Mem.aD,⟨b.Mem.aB.Global.set c.toNat t,b.Mem.aB.Own⟩⟩,x):=by
      unfold sW
      rw [←dD hk]
      injection e2 with e2;injection e2 with e4 e5
      rw [←e4,←e5]
    have hx0:-1≤x:=by
      injection e2 with e2;injection e2 with e4 e5
      rcases popL b.Mem.aB.Global[c.toNat].aS with h | h
      · rw [←e5];exact h
      · rw [←e5];have:=hm.1.2.2.2.2.1 _ (List.mem_append_left _ (List.mem_flatMap.2 ⟨_,List.getElem_mem hk,h⟩));omega
    have tg:0≤s.Pc∧s.Pc≤3→(idx b.Mem.aB.Global c).bind (fun x13=>(qV x13).bind fun x14=>iU s x14.2 ({b with Mem:=(⟨b.Mem.aD,(⟨b.Mem.aB.Global.set c.toNat x14.1,b.Mem.aB.Own⟩:aB)⟩:Mem)}:aA))=some (LC b s (sW b.Mem c)):=fun hpc=>by
      have:=fin (sW b.Mem c) (by rw [ep];exact hx0) (by rw [ep];exact fun h=>⟨hs,g2 h⟩) (by omega)
      rw [hx,aE,ZW (by omega),e2,aE,←this,ep]
    by_cases p1:s.Pc=1
    · have p1':(s.Pc == 1)=true:=by simpa using p1
      simp only [p1',if_true]
      rw [tg (by omega),if_pos (.inl p1)]
    · have p1':(s.Pc == 1)=false:=by simpa using p1
      simp only [p1',aN,if_false]
      by_cases p3:s.Pc=3
      · have p3':(s.Pc == 3)=true:=by simpa using p3
        simp only [p3',if_true]
        rw [tg (by omega),if_pos (.inr p3)]
      · have p3':(s.Pc == 3)=false:=by simpa using p3
        have n13:¬(s.Pc=1∨s.Pc=3):=by omega
        simp only [p3',aN,if_false,if_neg n13]
        by_cases p2:s.Pc=2
        · obtain⟨m',y,f1,f2,k1,k2,k3⟩:=aID hm hc
          have hg:=aNG hm hc
          rw [f1] at hg
          have hg':GH b.Mem c=(m',y):=by injection hg with hg;exact hg.symm
          have hy:-1≤(GH b.Mem c).2:=by unfold GH;split <;> simp only <;> omega
          have p2':(s.Pc == 2)=true:=by simpa using p2
          simp only [p2',if_true,if_pos p2,f1,aE]
          have:=fin (GH b.Mem c) hy (by rw [hg'];exact k2) (by omega)
          rw [hg'] at this ⊢
          exact this
        · have p2':(s.Pc == 2)=false:=by simpa using p2
          simp only [p2',aN,if_false,bK,if_neg p2,aE];rfl
end Go.Gv
end
noncomputable section
namespace Go.Gv
def bU(c:aC)(w:Int):oE:=c.cH.getD w.toNat ⟨false,0,false,0⟩
theorem wI{c:aC}(hc:I1 c){w:Int}(hw:0≤w∧w≤2):idx c.cH w=some (bU c w):=by
  have:=hc.2.1
  rw [fP hw.1 (by omega)]
  simp [bU,List.getD_eq_getElem?_getD,List.getElem?_eq_getElem (show w.toNat < c.cH.length by omega)]
def AZ(c:aC)(w e:Int):aC×Bool:=
  if (bU c w).On=false∨(bU c w).cX=true∨(bU c w).aI=e then (c,true)
  else if (bU c w).Seen=2 then (⟨c.aI,c.cH.set w.toNat {bU c w with cX:=true,Seen:=0}⟩,true)
  else (⟨c.aI,c.cH.set w.toNat {bU c w with Seen:=(bU c w).Seen+1}⟩,false)
theorem QX{c:aC}(hc:I1 c){w:Int}(hw:0≤w∧w≤2):POk c.aI (bU c w):=by
  have:=wI hc hw
  have h2:=hc.2.1
  rw [fP hw.1 (by omega)] at this
  injection this with this
  rw [←this]
  exact hc.2.2 _ (List.getElem_mem _)
theorem aQ9{c:aC}(hc:I1 c){w:Int}(hw:0≤w∧w≤2)(e:Int):FH c w e=some (AZ c w e):=by
  have hp:=QX hc hw
  have hx:=wI hc hw
  have hsm:=hc.small
  unfold FH CI AZ
  rw [l5 hsm.1,iN,bC hc,bZ,bC hw,hx]
  simp only [aE,dE,aN,if_false,pS,hx]
  generalize bU c w=p at *
  have ew:bB (p.Seen+1)=p.Seen+1:=aO (by have:=hp.2.1;omega) (by have:=hp.2.1;omega)
  cases h1:p.On
  · simp
  · cases h2:p.cX
    · by_cases h3:p.aI=e
      · simp [h3]
      · have h3':(p.aI == e)=false:=by simpa using h3
        by_cases h4:p.Seen=2
        · simp [h3,h3',h4]
        · have h4':(p.Seen == 2)=false:=by simpa using h4
          simp [h3,h3',h4,h4',ew]
    · simp
def W8(c:aC)(e:Int):aC×Bool:=if c.aI=e∧e≠100000 then (⟨e+1,c.cH⟩,true) else (c,false)
theorem aRA{c:aC}(hc:I1 c)(e:Int):L5 c e=some (W8 c e):=by
  have hsm:=hc.small
  unfold L5 CJ W8
  rw [l5 hsm.1,iN,bC hc]
  simp only [aE,dE,aN,if_false]
  by_cases h1:c.aI=e
  · have he:=hc.1
    have ew:bB (e+1)=e+1:=aO (by omega) (by omega)
    by_cases h2:e=100000
    · simp [h1,h2]
    · have h2':(e == 100000)=false:=by simpa using h2
      simp [h1,h2,h2',ew]
  · simp [h1]
def NV(c:aC)(w e:Int):aC×Bool:=if 0≤e∧e≤c.aI then (⟨c.aI,c.cH.set w.toNat ⟨true,e,false,0⟩⟩,true) else (c,false)
theorem aNI{c:aC}(hc:I1 c){w:Int}(hw:0≤w∧w≤2)(e:Int):IM c w e=some (NV c w e):=by
  have hsm:=hc.small
  unfold IM yH NV
  rw [l5 hsm.1,iN,bC hc,bZ,bC hw,bZ]
  simp only [aE,dE,aN,if_false]
  by_cases h1:0≤e∧e≤c.aI
  · simp [h1,wI hc hw]
  · simp [h1]
def JC(c:aC)(w:Int):aC×Bool:=if (bU c w).On then (⟨c.aI,c.cH.set w.toNat ⟨false,0,false,0⟩⟩,true) else (c,false)
theorem aE2{c:aC}(hc:I1 c){w:Int}(hw:0≤w∧w≤2):DV c w=some (JC c w):=by
  have hsm:=hc.small
  have hx:=wI hc hw
  unfold DV yI JC
  rw [l5 hsm.1,iN,bC hc,bZ,bC hw,hx]
  simp only [aE,dE,aN,if_false,hx]
  cases h1:(bU c w).On <;> simp
def sL(b:aA)(s:Sub):aA×Sub:=
  if s.Pc=0 then (b,{s with Pc:=1,E:=b.aC.aI,B:=0})
  else if s.Pc=1 then
    if 0≤s.B∧s.B≤2 then
      if (AZ b.aC s.B s.E).2 then ({b with aC:=(AZ b.aC s.B s.E).1},{s with Pc:=if s.B=2 then 2 else 1,B:=s.B+1})
      else ({b with aC:=(AZ b.aC s.B s.E).1},AI s 8)
    else (b,AI s 1)
  else if s.Pc=2 then ({b with aC:=(W8 b.aC s.E).1},AI {s with Out:=if (W8 b.aC s.E).2 then 1 else s.Out} 0)
  else (b,AI s 1)
theorem aII{b:aA}(hc:I1 b.aC)(s:Sub):sG b s=some (sL b s):=by
  unfold sG sL
  rw [aRA hc,bZ]
  simp only [bK,qX,qY,aE]
  by_cases p0:s.Pc=0
  · have p0':(s.Pc == 0)=true:=by simpa using p0
    simp only [p0',if_true,if_pos p0]
  · have p0':(s.Pc == 0)=false:=by simpa using p0
    simp only [p0',aN,if_false,if_neg p0]
    by_cases p1:s.Pc=1
    · have p1':(s.Pc == 1)=true:=by simpa using p1
      simp only [p1',if_true,if_pos p1]
      by_cases hB:0≤s.B∧s.B≤2
      · have ew:bB (s.B+1)=s.B+1:=aO (by omega) (by omega)
        simp only [bC hB,dE,aN,if_false,if_pos hB,aQ9 hc hB,aE,ew]
        cases h:(AZ b.aC s.B s.E).2
        · simp [AI]
        · by_cases q:s.B=2
          · have q':(s.B+1 == 3)=true:=by simp [q]
            simp [q',q]
          · have q':(s.B+1 == 3)=false:=by simp;omega
            simp [q',q,p1]
      · simp only [bL hB,iE,if_true,if_neg hB];rfl
    · have p1':(s.Pc == 1)=false:=by simpa using p1
      simp only [p1',aN,if_false,if_neg p1]
      by_cases p2:s.Pc=2
      · have p2':(s.Pc == 2)=true:=by simpa using p2
        simp only [p2',if_true,if_pos p2]
        cases h:(W8 b.aC s.E).2 <;> rfl
      · have p2':(s.Pc == 2)=false:=by simpa using p2
        simp only [p2',aN,if_false,if_neg p2];rfl
def VD(b:aA)(w:Int)(s:Sub):aA×Sub:=
  if s.Pc=0 then (b,{s with Pc:=1,E:=b.aC.aI})
  else if s.Pc=1 then
    if (NV b.aC w s.E).2 then ({b with aC:=(NV b.aC w s.E).1},{s with Pc:=2}) else ({b with aC:=(NV b.aC w s.E).1},AI s 1)
  else if s.Pc=2 then if b.aC.aI=s.E then (b,AI s 0) else (b,{s with Pc:=0})
  else (b,AI s 1)
theorem aT9{b:aA}(hc:I1 b.aC){w:Int}(hw:0≤w∧w≤2)(s:Sub):FJ b w s=some (VD b w s):=by
  unfold FJ VD
  rw [aNI hc hw]
  simp only [bK,aE]
  by_cases p0:s.Pc=0
  · have p0':(s.Pc == 0)=true:=by simpa using p0
    simp only [p0',if_true,if_pos p0]
  · have p0':(s.Pc == 0)=false:=by simpa using p0
    simp only [p0',aN,if_false,if_neg p0]
    by_cases p1:s.Pc=1
    · have p1':(s.Pc == 1)=true:=by simpa using p1
      simp only [p1',if_true,if_pos p1]
      cases h:(NV b.aC w s.E).2 <;> rfl
    · have p1':(s.Pc == 1)=false:=by simpa using p1
      simp only [p1',aN,if_false,if_neg p1]
      by_cases p2:s.Pc=2
      · have p2':(s.Pc == 2)=true:=by simpa using p2
        simp only [p2',if_true,if_pos p2]
        by_cases q:b.aC.aI=s.E
        · have q':(b.aC.aI == s.E)=true:=by simpa using q
          simp only [q',if_true,if_pos q];rfl
        · have q':(b.aC.aI == s.E)=false:=by simpa using q
          simp only [q',aN,if_false,if_neg q]
      · have p2':(s.Pc == 2)=false:=by simpa using p2
        simp only [p2',aN,if_false,if_neg p2];rfl
def cY(l:List bA)(w:Int):List cW:=(l.getD w.toNat ⟨[]⟩).Rows
theorem D2{l:List bA}(hl:oF l){w:Int}(hw:0≤w∧w≤2):idx l w=some ⟨cY l w⟩:=by
  have:=hl.1
  rw [fP hw.1 (by omega)]
  simp [cY,List.getD_eq_getElem?_getD,List.getElem?_eq_getElem (show w.toNat < l.length by omega)]
theorem aE3{l:List bA}(hl:oF l){w:Int}(hw:0≤w∧w≤2):(cY l w).length≤24:=by
  have h:=D2 hl hw
  have h3:=hl.1
  rw [fP hw.1 (by omega)] at h
  injection h with h
  have:=hl.small.2.2.2 _ (List.getElem_mem (show w.toNat < l.length by omega))
  rw [h] at this;exact this
def NW(b:aA)(w:Int)(s:Sub):aA×Sub:=
  if s.Pc=0 then (b,{s with Pc:=1,E:=b.aC.aI})
  else if s.Pc=1 then
    if 0≤s.E∧s.E≤b.aC.aI then
      if g7 b.Mem s.A∧¬DE b.aP (s.A % 32) then ({b with aP:=b.aP.set w.toNat ⟨cY b.aP w ++ [⟨s.A,s.E⟩]⟩},AI s 0) else (b,AI s 4)
    else (b,AI s 1)
  else (b,AI s 1)
theorem aKE{b:aA}(hb:mO b){w:Int}(hw:0≤w∧w≤2)(s:Sub):uS b w s=some (NW b w s):=by
  have hL:=hb.1.2.2.1
  have hm:=hb.1.1
  obtain⟨h1,h2,h3,_⟩:=mD.facts hm
  have hx:=D2 hL hw
  have hrow:=aE3 hL hw
  unfold uS NW
  rw [bZ,nF hm.1.1.1 (by omega) (by simp only [maxLen];omega) (by simp only [maxLen];omega),cN]
  simp only [bK,aE,tK,CH]
  by_cases p0:s.Pc=0
  · have p0':(s.Pc == 0)=true:=by simpa using p0
    simp only [p0',if_true,if_pos p0]
  · have p0':(s.Pc == 0)=false:=by simpa using p0
    simp only [p0',aN,if_false,if_neg p0]
    by_cases p1:s.Pc=1
    · have p1':(s.Pc == 1)=true:=by simpa using p1
      simp only [p1',if_true,if_pos p1]
      by_cases q1:0≤s.E∧s.E≤b.aC.aI
      · simp only [bC q1,dE,aN,if_false,if_pos q1]
        by_cases q2:g7 b.Mem s.A
        · have hh:=q2.1
          simp only [bC q2,dE,aN,if_false,if_pos hh,GF hL,aE]
          by_cases q3:DE b.aP (s.A % 32)
          · simp only [bC q3,if_true,if_neg (show ¬(g7 b.Mem s.A∧¬DE b.aP (s.A % 32)) from fun h=>h.2 q3)];rfl
          · simp only [bL q3,aN,if_false,hx,aE,if_pos (show g7 b.Mem s.A∧¬DE b.aP (s.A % 32) from ⟨q2,q3⟩)]
            rw [aM (by simp;omega)];rfl
        · simp only [bL q2,iE,if_true,if_neg (show ¬(g7 b.Mem s.A∧¬DE b.aP (s.A % 32)) from fun h=>q2 h.1)];rfl
      · simp only [bL q1,iE,if_true,if_neg q1];rfl
    · have p1':(s.Pc == 1)=false:=by simpa using p1
      simp only [p1',aN,if_false,if_neg p1];rfl
def C9(r:cW)(e:Int):Prop:=2≤e∧r.aI≤bB (e - 2)
instance (r:cW) (e:Int):Decidable (C9 r e):=by unfold C9;infer_instance
theorem aCK(r:cW)(e:Int):H5 r e=some (decide (C9 r e)):=by
  unfold H5 HP C9
  by_cases h:2≤e
  · rw [bC h,if_pos rfl]
    simp [h]
  · simp [h]
def vF(l:List cW)(e:Int)(k:Nat):Nat:=k+(l.drop k).findIdx (fun r=>decide (C9 r e))
theorem aRB{l:List cW}(hl:l.length≤1000){from_ e:Int}:wD l from_ e=some (if vF l e from_.toNat < l.length then (vF l e from_.toNat:Int) else -1):=by
  have hst:(if 0 < from_ then from_ else 0)=(from_.toNat:Int):=by split <;> omega
  unfold wD
  rw [hst]
  have key:∀d k:Nat,l.length≤k+d→loop (eF l e) (k:Int)=some (if vF l e k < l.length then Out.ret (vF l e k:Int) else Out.brk ()):=by
    intro d
    induction d with
    | zero =>
      intro k hk
      rw [bO (r:=Out.brk ()) (by simp only [eF];rw [if_neg (by simp;omega)]),if_neg (by unfold vF;omega)]
    | succ d ih =>
      intro k hk
      by_cases hkl:k < l.length
      · have hd:l.drop k=l[k] :: l.drop (k+1):=List.drop_eq_getElem_cons hkl
        by_cases hr:C9 l[k] e
        · have hs:vF l e k=k:=by unfold vF;rw [hd,List.findIdx_cons,bC hr];rfl
          rw [bO (r:=Out.ret (k:Int)) (by simp only [eF];rw [if_pos (by simp;omega),aV hkl,aE,aCK _ e,aE,bC hr,if_pos rfl]),hs,if_pos hkl]
        · have hs:vF l e k=vF l e (k+1):=by unfold vF;rw [hd,List.findIdx_cons,bL hr];simp only [cond_false];omega
          rw [bP (s':=((k+1:Nat):Int)) (by simp only [eF];rw [if_pos (by simp;omega),aV hkl,aE,aCK _ e,aE,bL hr,if_neg (by simp),aO (by omega) (by omega)];rfl),ih (k+1) (by omega),hs]
      · rw [bO (r:=Out.brk ()) (by simp only [eF];rw [if_neg (by simp;omega)]),if_neg (by unfold vF;omega)]
  rw [key l.length from_.toNat (by omega)]
  split <;> rfl
theorem aKF{l:List cW}{e:Int}{k:Nat}(h:vF l e k < l.length):k≤vF l e k∧C9 l[vF l e k] e:=by
  refine⟨by unfold vF;omega,?_⟩
  have h1:(l.drop k).findIdx (fun r=>decide (C9 r e)) < (l.drop k).length:=by
    rw [List.length_drop];unfold vF at h;omega
  have:=List.findIdx_getElem (xs:=l.drop k) (p:=fun r=>decide (C9 r e)) (w:=h1)
  rw [List.getElem_drop] at this
  exact of_decide_eq_true this
def DA(m:Mem)(w h:Int):Mem:=
  if h / 32+1≤6 then
    if (dO m.aB.Own (w * 3+aW m.aD (h % 32)).toNat).length < 2 then ⟨⟨WN m.aD.Bytes (eA (h % 32) (aW m.aD (h % 32))).toNat (h / 32+1),m.aD.Class⟩,⟨m.aB.Global,m.aB.Own.set (w * 3+aW m.aD (h % 32)).toNat ⟨dO m.aB.Own (w * 3+aW m.aD (h % 32)).toNat ++ [h % 32]⟩⟩⟩
    else ⟨⟨WN m.aD.Bytes (eA (h % 32) (aW m.aD (h % 32))).toNat (h / 32+1),m.aD.Class⟩,⟨m.aB.Global.set (aW m.aD (h % 32)).toNat ⟨dO m.aB.Global (aW m.aD (h % 32)).toNat ++ [h % 32]⟩,m.aB.Own⟩⟩
  else ⟨⟨WN m.aD.Bytes (eA (h % 32) (aW m.aD (h % 32))).toNat (h / 32+1),m.aD.Class⟩,m.aB⟩
theorem aRC{m:Mem}(hm:mD m){w h:Int}(hw:0≤w∧w≤2)(hv:g7 m h):FI m w (h % 32)=some (DA m w h):=by
  obtain⟨hcnt,h3,h9,h1,h2,hsm,hcp,hlo,hsG,hsO⟩:=mD.facts hm
  have hs:=hm.1.1.1
  have hh:=hv.1
  have hcl:=g8 hv.2.1
  have hgo:=E3 hcl
  have hc2:0≤aW m.aD (h % 32)∧aW m.aD (h % 32)≤2:=by
    obtain⟨_,q,e⟩:=oZ hcl
    rw [e];exact gZ.1 (by omega)
  have hg6:1≤h / 32∧h / 32≤6:=by unfold jN at hh;omega
  have eo:eA (h % 32) (aW m.aD (h % 32))=(((eA (h % 32) (aW m.aD (h % 32))).toNat:Nat):Int):=by omega
  have ew:bB (h / 32+1)=h / 32+1:=aO (by omega) (by omega)
  unfold FI DA
  rw [iM hs,aE,oA hs hcl,hv.2.2,aE,sU,aE,ew]
  generalize hgn:(eA (h % 32) (aW m.aD (h % 32))).toNat=a at eo
  rw [eo,GG (by omega) (by omega) (by omega)]
  simp only [aE,IL,IK,ew]
  generalize aW m.aD (h % 32)=c at *
  by_cases q:h / 32+1≤6
  · have hk:(w * 3+c).toNat < m.aB.Own.length:=by omega
    have hx:idx m.aB.Own (w * 3+c)=some m.aB.Own[(w * 3+c).toNat]:=fP (by omega) (by omega)
    have hk2:c.toNat < m.aB.Global.length:=by omega
    have hx2:idx m.aB.Global c=some m.aB.Global[c.toNat]:=fP (by omega) (by omega)
    have b1:=hsO _ (List.getElem_mem hk)
    have b2:=hsG _ (List.getElem_mem hk2)
    rw [bC q,if_pos rfl,if_pos q]
    unfold PZ
    rw [(ML hw hc2).1]
    simp only [aE,hx,hx2,IJ,PX,PY,←dD hk,←dD hk2]
    by_cases q2:m.aB.Own[(w * 3+c).toNat].aS.length < 2
    · have y1:(m.aB.Own[(w * 3+c).toNat].aS.length:Int) < 2:=by omega
      simp only [bC y1,if_true,if_pos q2]
      rw [aM (by simp;omega)];rfl
    · have y1:¬(m.aB.Own[(w * 3+c).toNat].aS.length:Int) < 2:=by omega
      simp only [bL y1,aN,if_false,if_neg q2]
      rw [aM (by simp;omega)];rfl
  · rw [bL q,if_neg (by simp),if_neg q]
def pX(z:List Int)(w:Int):Int:=z.getD w.toNat 0
theorem MM{z:List Int}(hz:HV z){w:Int}(hw:0≤w∧w≤2):idx z w=some (pX z w):=by
  have:=hz.1
  rw [fP hw.1 (by omega)]
  simp [pX,List.getD_eq_getElem?_getD,List.getElem?_eq_getElem (show w.toNat < z.length by omega)]
def GI(l:List cW)(k:Int):cW:=l.getD k.toNat ⟨0,0⟩
theorem QY{l:List cW}{k:Int}(h:0≤k∧k < l.length):idx l k=some (GI l k):=by
  rw [fP h.1 h.2]
  simp [GI,List.getD_eq_getElem?_getD,List.getElem?_eq_getElem (show k.toNat < l.length by omega)]
def FR(l:List cW)(s:Sub):Prop:=0≤s.Row∧s.Row < l.length∧(GI l s.Row).Handle=s.H
instance (l:List cW) (s:Sub):Decidable (FR l s):=by unfold FR;infer_instance
def nW(b:aA)(w:Int)(s:Sub):aA×Sub:=
  if s.Pc=0 then (b,{s with Pc:=1,E:=b.aC.aI,Row:=0})
  else if s.Pc=1 then
    if vF (cY b.aP w) s.E s.Row.toNat < (cY b.aP w).length then (b,{s with Pc:=2,Row:=(vF (cY b.aP w) s.E s.Row.toNat:Int),B:=0,H:=(GI (cY b.aP w) (vF (cY b.aP w) s.E s.Row.toNat:Int)).Handle})
    else (b,AI s 0)
  else if s.Pc=2 then
    if (0≤s.B∧s.B≤2)∧FR (cY b.aP w) s then
      if pX b.nA s.B=s.H then (b,{s with Pc:=1,Row:=s.Row+1}) else (b,{s with Pc:=if s.B=2 then 3 else 2,B:=s.B+1})
    else (b,AI s 1)
  else if s.Pc=3 then
    if FR (cY b.aP w) s∧C9 (GI (cY b.aP w) s.Row) s.E then ({b with Mem:=DA b.Mem w s.H,aP:=b.aP.set w.toNat ⟨(cY b.aP w).eraseIdx s.Row.toNat⟩},{s with Pc:=1,Out:=bB (s.Out+1)})
    else (b,AI s 1)
  else (b,AI s 1)
theorem QZ{l:List bA}(hl:oF l){w:Int}(hw:0≤w∧w≤2){r:cW}(hr:r∈cY l w):r∈bH l:=by
  have h:=D2 hl hw
  have h3:=hl.1
  rw [fP hw.1 (by omega)] at h
  injection h with h
  exact List.mem_flatMap.2 ⟨l[w.toNat],List.getElem_mem _,by rw [h];exact hr⟩
theorem aCL{l:List cW}{k:Int}(h:0≤k∧k < l.length):GI l k∈l:=by
  have:=QY h
  rw [fP h.1 h.2] at this
  injection this with this
  rw [←this];exact List.getElem_mem _
theorem aIJ{b:aA}(hb:mO b){w:Int}(hw:0≤w∧w≤2)(s:Sub):sH b w s=some (nW b w s):=by
  have hL:=hb.1.2.2.1
  have hm:=hb.1.1
  have hx:=D2 hL hw
  have hrow:=aE3 hL hw
  have hfl:=fun r hr=>QZ hL hw (r:=r) hr
  unfold sH nW
  rw [hx]
  simp only [aE,bK]
  generalize cY b.aP w=l at *
  by_cases p0:s.Pc=0
  · have p0':(s.Pc == 0)=true:=by simpa using p0
    simp only [p0',if_true,if_pos p0]
  have p0':(s.Pc == 0)=false:=by simpa using p0
  simp only [p0',aN,if_false,if_neg p0]
  by_cases p1:s.Pc=1
  · have p1':(s.Pc == 1)=true:=by simpa using p1
    simp only [p1',if_true,if_pos p1,aRB (show l.length≤1000 by omega),aE]
    by_cases q:vF l s.E s.Row.toNat < l.length
    · have n:¬(vF l s.E s.Row.toNat:Int) < 0:=by omega
      simp only [if_pos q,bL n,aN,if_false,QY (l:=l) (k:=(vF l s.E s.Row.toNat:Int)) (by omega),aE]
    · simp only [if_neg q,bC (show(-1:Int) < 0 by omega),if_true];rfl
  have p1':(s.Pc == 1)=false:=by simpa using p1
  simp only [p1',aN,if_false,if_neg p1]
  have el:bB ((l.length:Int) - 1)=(l.length:Int) - 1:=aO (by omega) (by omega)
  by_cases p2:s.Pc=2
  · have p2':(s.Pc == 2)=true:=by simpa using p2
    simp only [p2',if_true,if_pos p2,bZ,el,aE,fD,qZ,bK]
    by_cases hB:0≤s.B∧s.B≤2
    · simp only [bC hB,dE,aN,if_false]
      by_cases hR:0≤s.Row∧s.Row≤(l.length:Int) - 1
      · simp only [bC hR,dE,aN,if_false,QY (l:=l) (k:=s.Row) (by omega),aE]
        by_cases hH:(GI l s.Row).Handle=s.H
        · have hH':((GI l s.Row).Handle != s.H)=false:=by simpa using hH
          have ha:(0≤s.B∧s.B≤2)∧FR l s:=⟨hB,hR.1,by omega,hH⟩
          have e1:bB (s.B+1)=s.B+1:=aO (by omega) (by omega)
          have e2:bB (s.Row+1)=s.Row+1:=aO (by omega) (by omega)
          simp only [hH',aN,if_false,if_pos ha,MM hb.1.2.2.2 hB,aE,e1,e2]
          by_cases hz:pX b.nA s.B=s.H
          · have hz':(pX b.nA s.B == s.H)=true:=by simpa using hz
            simp only [hz',if_true,if_pos hz]
          · have hz':(pX b.nA s.B == s.H)=false:=by simpa using hz
            simp only [hz',aN,if_false,if_neg hz]
            by_cases q:s.B=2
            · have q':(s.B+1 == 3)=true:=by simp [q]
              simp only [q',if_true,if_pos q]
            · have q':(s.B+1 == 3)=false:=by simp;omega
              simp only [q',aN,if_false,if_neg q,p2]
        · have hH':((GI l s.Row).Handle != s.H)=true:=by simpa using hH
          have ha:¬((0≤s.B∧s.B≤2)∧FR l s):=fun h=>hH h.2.2.2
          simp only [hH',if_true,if_neg ha,aE];rfl
      · have ha:¬((0≤s.B∧s.B≤2)∧FR l s):=fun h=>hR ⟨h.2.1,by have:=h.2.2.1;omega⟩
        simp only [bL hR,iE,if_true,if_neg ha,aE];rfl
    · have ha:¬((0≤s.B∧s.B≤2)∧FR l s):=fun h=>hB h.1
      simp only [bL hB,iE,if_true,if_neg ha,aE];rfl
  have p2':(s.Pc == 2)=false:=by simpa using p2
  simp only [p2',aN,if_false,if_neg p2]
  by_cases p3:s.Pc=3
  · have p3':(s.Pc == 3)=true:=by simpa using p3
    simp only [p3',if_true,if_pos p3,bZ,el,aE,fE,AF,bK]
    by_cases hR:0≤s.Row∧s.Row≤(l.length:Int) - 1
    · simp only [bC hR,dE,aN,if_false,QY (l:=l) (k:=s.Row) (by omega),aE]
      by_cases hH:(GI l s.Row).Handle=s.H
      · have hH':((GI l s.Row).Handle != s.H)=false:=by simpa using hH
        simp only [hH',aN,if_false,aCK,aE]
        by_cases hr:C9 (GI l s.Row) s.E
        · have ha:FR l s∧C9 (GI l s.Row) s.E:=⟨⟨hR.1,by omega,hH⟩,hr⟩
          have e2:bB (s.Row+1)=s.Row+1:=aO (by omega) (by omega)
          have hlive:=(hb.2 _ (hfl _ (aCL (l:=l) (k:=s.Row) (by omega)))).1
          rw [hH] at hlive
          have et:(s.Row+1).toNat=s.Row.toNat+1:=by omega
          simp only [bC hr,dE,aN,if_false,if_pos ha,e2,cN,if_pos hlive.1,aE,aRC hm hw hlive,et]
          rw [aM (by omega),aM (by omega),aM (by omega),del_eq (by omega)]
        · have ha:¬(FR l s∧C9 (GI l s.Row) s.E):=fun h=>hr h.2
          simp only [bL hr,iE,if_true,if_neg ha,aE];rfl
      · have hH':((GI l s.Row).Handle != s.H)=true:=by simpa using hH
        have ha:¬(FR l s∧C9 (GI l s.Row) s.E):=fun h=>hH h.1.2.2
        simp only [hH',if_true,if_neg ha,aE];rfl
    · have ha:¬(FR l s∧C9 (GI l s.Row) s.E):=fun h=>hR ⟨h.1.1,by have:=h.1.2.1;omega⟩
      simp only [bL hR,iE,if_true,if_neg ha,aE];rfl
  · have p3':(s.Pc == 3)=false:=by simpa using p3
    simp only [p3',aN,if_false,if_neg p3];rfl
def fX(b:aA)(w:Int)(s:Sub):aA×Sub:=
  if s.cV then (b,s) else if s.Kind=1 then TN b w s else if s.Kind=2 then NW b w s else if s.Kind=3 then sL b s else if s.Kind=4 then nW b w s else if s.Kind=5 then VD b w s else (b,AI s 1)
theorem aGP{b:aA}(hb:mO b){w:Int}(hw:0≤w∧w≤2)(s:Sub):uT b w s=some (fX b w s):=by
  unfold uT fX
  rw [aNH hb.1.1 hw,aKE hb hw,aII hb.1.2.1,aIJ hb hw,aT9 hb.1.2.1 hw]
  simp only [aE,bK]
  cases s.cV
  · simp only [aN,if_false,beq_iff_eq]
    split <;> (try rfl)
    split <;> (try rfl)
    split <;> (try rfl)
    split <;> (try rfl)
    split <;> rfl
  · rfl
end Go.Gv
end
noncomputable section
namespace Go.Gv
def aRD:aD:=⟨List.replicate 384 0,[-1,-1,-1,-1,-1,-1]⟩
def aW4:aB:=⟨List.replicate 3 ⟨[]⟩,List.replicate 9 ⟨[]⟩⟩
def aCM:aA:=⟨⟨aRD,aW4⟩,⟨0,List.replicate 3 ⟨false,0,false,0⟩⟩,List.replicate 3 ⟨[]⟩,List.replicate 3 0⟩
theorem Y1:GX=some aRD:=by
  unfold GX
  have key:loop rJ (0,[])=some (List.replicate 6 (-1)):=iY (f:=rJ) 6 (fun k=>((k:Int),List.replicate k (-1))) _ (fun k hk=>by
    simp only [rJ]
    rw [if_pos (by simp;omega),aM (by simp;omega),aO (by omega) (by omega),List.replicate_succ'];rfl) (by simp [rJ])
  rw [aM (by omega),key];rfl
theorem aW5:tG [-1] 6=some [-1,-1,-1,-1,-1,-1]:=by
  unfold tG
  rw [if_neg (by simp),show KS (IntKind.u64.wrap (([-1]:List Int).length:Int)) (IntKind.u64.wrap 6)=some (0,6) by kernel_rfl]
  simp only [aE]
  rw [if_neg (by simp),bL (by omega)]
  simp only [nP,aN,if_false]
  rw [show IntKind.i64.wrap 6=6 from wrap_i64 (by omega) (by omega),aM (by omega),
    show(dA (List.replicate (Int.toNat 6) 0) 0 [-1],((min ([-1]:List Int).length ((List.replicate (Int.toNat 6) (0:Int)).length - 0):Nat):Int))=([-1,0,0,0,0,0],1) by kernel_rfl,
    bP (body:=kI) (s':=([-1,-1,0,0,0,0],2)) (by kernel_rfl),bP (body:=kI) (s':=([-1,-1,-1,-1,0,0],4)) (by kernel_rfl),
    bP (body:=kI) (s':=([-1,-1,-1,-1,-1,-1],6)) (by kernel_rfl),bO (body:=kI) (r:=[-1,-1,-1,-1,-1,-1]) (by kernel_rfl)]
  rfl
theorem Y2:HI=some aRD:=by
  unfold HI
  rw [aM (by omega),aW5];rfl
theorem aCN:GY=some aCM∧HJ=some aCM:=by
  unfold GY HJ PG PR KK KT KL KU KM KV PH PT
  rw [Y1,Y2,aM (by omega),aM (by omega),aM (by omega),aM (by omega),aM (by omega)]
  exact⟨rfl,rfl⟩
theorem aRE:mO aCM:=of_decide_eq_true (by kernel_rfl)
def aMA:aG:=⟨⟨⟨⟨[],[]⟩,⟨[],[]⟩⟩,⟨0,[]⟩,[],[]⟩,[],[],[],[],0⟩
def kM(t:List Queue):aG:=⟨aCM,List.replicate 2 0,List.replicate 3 I9,t,[],0⟩
theorem aNJ{t:List Queue}(h:LB t):C7 (kM t):=
  ⟨aRE,rfl,rfl,h,by simp [kM],fun q hq=>by simp [kM] at hq;exact .inl hq,fun j hj=>by simp [kM] at hj;exact(QW (by rw [hj];rfl)).2 hj⟩
theorem aE4{l:List Queue}(hl:l.length≤1048576)(hq:∀q∈l,q.i6.length≤1048576):BD l=some l∧EB l=some l:=by
  constructor
  · unfold BD
    rw [U2 l]
    · rfl
    · intro k hk
      have:=hq _ (List.getElem_mem hk)
      simp only [BC]
      rw [if_pos (by simp;omega),aV hk]
      simp only [aE]
      rw [aM (by simp;omega),aM (by simp;omega),aO (by omega) (by omega)];rfl
    · simp [BC]
  · unfold EB
    rw [U2 l]
    · rfl
    · intro k hk
      have:=hq _ (List.getElem_mem hk)
      simp only [DN]
      rw [if_pos (by simp;omega),aV hk]
      simp only [aE,FZ]
      rw [aM (by simp;omega),aE,aM (by simp;omega),aO (by omega) (by omega)];rfl
    · simp [DN]
theorem W9{t:List Queue}(hl:t.length≤1048576)(hq:∀q∈t,q.i6.length≤1048576):EA t=some (if LB t then kM t else aMA)∧EN t=some (if LB t then kM t else aMA):=by
  have hm:t.length≤maxLen:=by simp only [maxLen];omega
  unfold EA EN
  rw [VA hm,VB hm (fun q h=>by have:=hq q h;simp only [maxLen];omega)]
  simp only [aE]
  by_cases h:LB t
  · simp only [bC h,dE,aN,if_false,if_pos h,aCN.1,aCN.2,aE,(aE4 hl hq).1,(aE4 hl hq).2]
    rw [aM (by omega),aM (by omega),aM (by omega),aM (by omega)]
    exact⟨rfl,rfl⟩
  · simp only [bL h,iE,if_true,if_neg h]
    exact⟨rfl,rfl⟩
end Go.Gv
end
noncomputable section
namespace Go.Gv
def VE(s:aG):Prop:=QQ s.aA∧s.Cells.length≤1048576∧s.aX.length≤1048576∧s.e9.length≤1048576∧(∀q∈s.e9,q.i6.length≤1048576)∧s.Log.length≤1048576
theorem VE.fits{s:aG}(h:VE s):s.aA.Mem.aD.Bytes.length≤maxLen∧(dC s.aA.Mem.aB).length≤1073741824∧s.aA.aC.cH.length≤maxLen∧s.aA.aP.length≤maxLen∧(bH s.aA.aP).length≤1073741824∧s.aA.nA.length≤maxLen:=by
  obtain⟨⟨⟨a1,a2,a3,a4,a5⟩,b1,b2,b3,b4⟩,_⟩:=h
  simp only [maxLen];omega
theorem aMB{s:aG}(h:VE s):vX s=some (decide (C7 s)):=YZ h.fits (by have:=h.2.2.2.1;simp only [maxLen];omega)
theorem aMC{s:aG}(h:VE s):vL s=some (decide (C7 s)):=
  have hM:∀{n:Nat},n≤1048576→n≤maxLen:=fun h=>by simp only [maxLen];omega
  Y0 h.fits (hM h.2.2.2.1) (fun q hq=>hM (h.2.2.2.2.1 q hq)) (hM h.2.1) (hM h.2.2.1)
theorem KE{s:aG}(h:C7 s)(hl:s.Log.length≤1000000):VE s:=by
  have ht:=h.2.2.2.1
  exact⟨h.1.small,by have:=h.2.1;omega,by have:=h.2.2.1;omega,by have:=ht.1;omega,fun q hq=>by have:=(ht.2 q hq).1;omega,by omega⟩
end Go.Gv
end
noncomputable section
namespace Go.Gv
def AJ(m:Mem)(h n:Int):Mem×Int:=if g7 m h then (⟨⟨D1 m.aD.Bytes ((eA (h % 32) (aW m.aD (h % 32))).toNat+4) n,m.aD.Class⟩,m.aB⟩,0) else (m,4)
theorem aRF{h:aD}{s:Int}(hcl:0≤aW h s):(eA s (aW h s)).toNat+8≤384∧8≤gP (aW h s)∧gP (aW h s)≤40:=by
  have hc2:0≤aW h s∧aW h s≤2:=by
    obtain⟨_,q,e⟩:=oZ hcl
    rw [e];exact gZ.1 (by omega)
  have hz:8≤gP (aW h s)∧gP (aW h s)≤40:=by rcases fQ hc2 with e | e | e <;> rw [e] <;> decide
  obtain⟨p,i,p6,hi,es,ec,eo,ep⟩:=sK hcl
  refine⟨?_,hz⟩
  rw [eo]
  have hcl':0≤bT h p∧bT h p≤2:=by rw [←ec];exact hc2
  generalize bT h p=c at hi hcl'
  rcases fQ hcl' with rfl | rfl | rfl
  · rw [show(bV 0).toNat=4 from rfl] at hi;rw [show(aT 0).toNat=12 from rfl];omega
  · rw [show(bV 1).toNat=2 from rfl] at hi;rw [show(aT 1).toNat=20 from rfl];omega
  · rw [show(bV 2).toNat=1 from rfl] at hi;rw [show(aT 2).toNat=44 from rfl];omega
theorem aNK{m:Mem}(hm:mD m){h n:Int}(hn:0≤n∧n≤65535):CM m h 0 4 n=some (AJ m h n):=by
  obtain⟨hcnt,h3,h9,h1,h2,hsm,hcp,hlo,hsG,hsO⟩:=mD.facts hm
  have hs:=hm.1.1.1
  have hbl:m.aD.Bytes.length≤maxLen:=by rw [h1];simp [maxLen]
  have hall:(dC m.aB).length≤1073741824:=by omega
  have hg:m.aB.Global.length≤maxLen:=by rw [h3];simp [maxLen]
  have ho:m.aB.Own.length≤maxLen:=by rw [h9];simp [maxLen]
  unfold CM P3 AJ
  rw [W6 hsm,E5 hbl hall,bC hm,bZ]
  simp only [aE,dE,aN,if_false,CL,show(decide ((1:Int)≤4∧(4:Int)≤7))=true from rfl,nF hs hall hg ho]
  by_cases hv:g7 m h
  · have hh:=hv.1
    have hcl:=g8 hv.2.1
    have hgo:=E3 hcl
    obtain⟨hroom,hz⟩:=aRF hcl
    simp only [bC hv,dE,aN,if_false,if_pos hv,cN,if_pos hh,aE,iM hs,pU,bZ]
    rw [aO (x:=gP (aW m.aD (h % 32)) - 1) (by omega) (by omega),bC (show(0:Int)≤0∧(0:Int)≤gP (aW m.aD (h % 32)) - 1 by omega),aO (x:=gP (aW m.aD (h % 32)) - 0) (by omega) (by omega),bL (show ¬gP (aW m.aD (h % 32)) - 0 < 4 by omega)]
    simp only [dE,aN,if_false,CK,(start_eq hs hcl).1,aE]
    rw [aO (x:=eA (h % 32) (aW m.aD (h % 32))+4+0) (by omega) (by omega),Int.add_zero]
    have eo':eA (h % 32) (aW m.aD (h % 32))+4=(((eA (h % 32) (aW m.aD (h % 32))).toNat+4:Nat):Int):=by omega
    obtain⟨t,ht1,ht2⟩:=W7 hn
    rw [eo']
    simp only [aE,aN,if_false,bne_self_eq_false,ht1,ht2]
    rw [WO (by omega) (by omega) ⟨hn.1,by omega⟩];rfl
  · simp only [bL hv,iE,if_true,aE,show((4:Int) != 0)=true from rfl,if_neg hv]
def WR(h:aD)(x:Int):Int:=if jN x∧0≤aW h (x % 32) then ld h.Bytes ((eA (x % 32) (aW h (x % 32))).toNat+4) 4 else 0
theorem aGQ{s:aG}(hm:mD s.aA.Mem)(j:bE):nU s j=some (WR s.aA.Mem.aD j.H):=by
  have hs:=hm.1.1.1
  have h1:=hs.1
  unfold nU KA WR
  generalize j.H=h
  rw [eB,bZ]
  simp only [aE,CN,show(decide ((1:Int)≤4∧(4:Int)≤7))=true from rfl,dE,aN,if_false]
  by_cases hh:jN h
  · simp only [bC hh,dE,aN,if_false,cN,if_pos hh,aE,iM hs]
    by_cases hcl:aW s.aA.Mem.aD (h % 32) < 0
    · simp only [bC hcl,if_true,mI,aE,if_neg (show ¬(jN h∧0≤aW s.aA.Mem.aD (h % 32)) by omega)]
    · have hcl':0≤aW s.aA.Mem.aD (h % 32):=by omega
      have hgo:=E3 hcl'
      obtain⟨hroom,hz⟩:=aRF hcl'
      simp only [bL hcl,aN,if_false,pU,bZ,aE,if_pos (show jN h∧0≤aW s.aA.Mem.aD (h % 32) from ⟨hh,hcl'⟩)]
      rw [aO (x:=gP (aW s.aA.Mem.aD (h % 32)) - 1) (by omega) (by omega),bC (show(0:Int)≤0∧(0:Int)≤gP (aW s.aA.Mem.aD (h % 32)) - 1 by omega),aO (x:=gP (aW s.aA.Mem.aD (h % 32)) - 0) (by omega) (by omega),bL (show ¬gP (aW s.aA.Mem.aD (h % 32)) - 0 < 4 by omega)]
      simp only [dE,aN,if_false,mI,cN,if_pos hh,(start_eq hs hcl').1,aE]
      rw [aO (x:=eA (h % 32) (aW s.aA.Mem.aD (h % 32))+4+0) (by omega) (by omega),Int.add_zero]
      have eo':eA (h % 32) (aW s.aA.Mem.aD (h % 32))+4=(((eA (h % 32) (aW s.aA.Mem.aD (h % 32))).toNat+4:Nat):Int):=by omega
      rw [eo',show(4:Int)=((4:Nat):Int) from rfl,CZ hs.2.2.1 (by omega) (by omega) (by omega)];rfl
  · simp only [bL hh,iE,if_true,aE,if_neg (show ¬(jN h∧0≤aW s.aA.Mem.aD (h % 32)) from fun q=>hh q.1)]
def MN(z:List Int)(w h:Int):List Int:=if jN h then z.set w.toNat h else z
theorem aIK{z:List Int}(hz:HV z){w:Int}(hw:0≤w∧w≤2)(h:Int):∃t,CP z w h=some (MN z w h,t):=by
  have h3:=hz.1
  unfold CP sI MN
  rw [DY (by omega),yT (by simp only [maxLen];omega),bC hz,bZ,bC hw,eB]
  by_cases q:jN h
  · simp only [bC q,MM hz hw,aE,dE,aN,if_false,if_pos q];exact⟨_,rfl⟩
  · simp only [bL q,aE,dE,iE,aN,if_false,if_true,if_neg q];exact⟨_,rfl⟩
def WS(z:List Int)(w:Int):List Int:=if pX z w=0 then z else z.set w.toNat 0
theorem aNL{z:List Int}(hz:HV z){w:Int}(hw:0≤w∧w≤2):∃t,IP z w=some (WS z w,t):=by
  have h3:=hz.1
  unfold IP yJ WS
  rw [DY (by omega),yT (by simp only [maxLen];omega),bC hz,bZ,bC hw,MM hz hw]
  by_cases q:pX z w=0
  · have q':(pX z w == 0)=true:=by simpa using q
    simp only [q',aE,dE,aN,if_false,if_true,if_pos q,MM hz hw];exact⟨_,rfl⟩
  · have q':(pX z w == 0)=false:=by simpa using q
    simp only [q',aE,dE,aN,if_false,if_neg q,MM hz hw];exact⟨_,rfl⟩
structure JR where
  b:aA
  c:List Int
  j:bE
  l:List Ev
def dN(j:bE)(pc code:Int):bE:={j with Pc:=pc,Code:=code}
def O4(kind a:Int):Sub:=⟨kind,a,0,0,0,0,0,0,0,false⟩
def cellAt(c:List Int)(k:Int):Int:=c.getD k.toNat 0
def pY(c:aC)(w:Int)(j:bE)(pc:Int):bE:=if (bU c w).On=true∧(bU c w).cX=false then dN j pc 0 else dN {j with dV:=0} pc 6
noncomputable section
variable (s:aG) (w:Int) (j:bE)
def FT(h:Int):Ev:=⟨3,w,j.aK,j.Op.Cell,h,0,0⟩
def WT:JR:=
  if j.Pc=0 then
    if (fX s.aA w j.Sub).2.cV then
      if (fX s.aA w j.Sub).2.Code≠0 then ⟨(fX s.aA w j.Sub).1,s.Cells,dN {j with Sub:=(fX s.aA w j.Sub).2} 9 (fX s.aA w j.Sub).2.Code,[]⟩
      else if jN (fX s.aA w j.Sub).2.Out then ⟨(fX s.aA w j.Sub).1,s.Cells,dN {j with Sub:=(fX s.aA w j.Sub).2,H:=(fX s.aA w j.Sub).2.Out} 1 0,[]⟩
      else ⟨(fX s.aA w j.Sub).1,s.Cells,dN {j with Sub:=(fX s.aA w j.Sub).2} 9 1,[]⟩
    else ⟨(fX s.aA w j.Sub).1,s.Cells,{j with Sub:=(fX s.aA w j.Sub).2},[]⟩
  else if j.Pc=1 then ⟨{s.aA with Mem:=(AJ s.aA.Mem j.H j.Op.dV).1},s.Cells,if (AJ s.aA.Mem j.H j.Op.dV).2=0 then dN j 2 0 else dN j 9 (AJ s.aA.Mem j.H j.Op.dV).2,[]⟩
  else if j.Pc=2 then ⟨s.aA,s.Cells.set j.Op.Cell.toNat j.H,if cellAt s.Cells j.Op.Cell=0 then dN {j with Old:=0} 9 0 else dN {j with Sub:=O4 2 (cellAt s.Cells j.Op.Cell),Old:=cellAt s.Cells j.Op.Cell} 3 0,[⟨2,w,j.aK,j.Op.Cell,j.H,j.Op.dV,0⟩]⟩
  else if j.Pc=3 then ⟨(fX s.aA w j.Sub).1,s.Cells,if (fX s.aA w j.Sub).2.cV then dN {j with Sub:=(fX s.aA w j.Sub).2} 9 (fX s.aA w j.Sub).2.Code else {j with Sub:=(fX s.aA w j.Sub).2},[]⟩
  else ⟨s.aA,s.Cells,dN j 9 1,[]⟩
def VF:JR:=
  if j.Pc=0 then ⟨(fX s.aA w j.Sub).1,s.Cells,if (fX s.aA w j.Sub).2.cV then dN {j with Sub:=(fX s.aA w j.Sub).2} 1 0 else {j with Sub:=(fX s.aA w j.Sub).2},[]⟩
  else if j.Pc=1 then ⟨s.aA,s.Cells,if cellAt s.Cells j.Op.Cell=0 then dN {j with H:=0} 4 8 else dN {j with H:=cellAt s.Cells j.Op.Cell} 2 0,[FT w j (cellAt s.Cells j.Op.Cell)]⟩
  else if j.Pc=2 then ⟨s.aA,s.Cells,dN {j with dV:=WR s.aA.Mem.aD j.H} 3 0,[]⟩
  else if j.Pc=3 then ⟨s.aA,s.Cells,pY s.aA.aC w j 4,[]⟩
  else if j.Pc=4 then ⟨{s.aA with aC:=(JC s.aA.aC w).1},s.Cells,dN j 9 j.Code,[]⟩
  else ⟨s.aA,s.Cells,dN j 9 1,[]⟩
def aCO:JR:=
  if j.Pc=0 then if cellAt s.Cells j.Op.Cell=0 then ⟨s.aA,s.Cells,dN {j with H:=0} 4 8,[FT w j 0]⟩ else ⟨s.aA,s.Cells,dN {j with H:=cellAt s.Cells j.Op.Cell} 1 0,[]⟩
  else if j.Pc=1 then ⟨{s.aA with nA:=MN s.aA.nA w j.H},s.Cells,dN j 2 0,[]⟩
  else if j.Pc=2 then if cellAt s.Cells j.Op.Cell=j.H then ⟨s.aA,s.Cells,dN j 3 0,[FT w j j.H]⟩ else ⟨s.aA,s.Cells,dN j 0 0,[]⟩
  else if j.Pc=3 then ⟨s.aA,s.Cells,dN {j with dV:=WR s.aA.Mem.aD j.H} 4 0,[]⟩
  else if j.Pc=4 then ⟨{s.aA with nA:=WS s.aA.nA w},s.Cells,dN j 9 j.Code,[]⟩
  else ⟨s.aA,s.Cells,dN j 9 1,[]⟩
def Q0:JR:=
  if j.Pc=0 then
    if (bU s.aA.aC w).On=false then ⟨s.aA,s.Cells,dN j 9 5,[]⟩
    else if (bU s.aA.aC w).cX=true then ⟨s.aA,s.Cells,dN j 9 6,[]⟩
    else ⟨s.aA,s.Cells,if cellAt s.Cells j.Op.Cell=0 then dN {j with H:=0} 9 8 else dN {j with H:=cellAt s.Cells j.Op.Cell} 1 0,[FT w j (cellAt s.Cells j.Op.Cell)]⟩
  else if j.Pc=1 then ⟨s.aA,s.Cells,dN {j with dV:=WR s.aA.Mem.aD j.H} 2 0,[]⟩
  else if j.Pc=2 then ⟨s.aA,s.Cells,pY s.aA.aC w j 9,[]⟩
  else ⟨s.aA,s.Cells,dN j 9 1,[]⟩
def NX:JR:=
  if j.Op.Kind=6 then
    if j.Pc=0 then ⟨{s.aA with aC:=(JC s.aA.aC w).1},s.Cells,dN j 9 (if (JC s.aA.aC w).2 then 0 else 5),[]⟩
    else ⟨s.aA,s.Cells,dN j 9 1,[]⟩
  else if j.Pc=0∨j.Pc=1∧j.Op.Kind≠5 then
    ⟨(fX s.aA w j.Sub).1, s.Cells, if (fX s.aA w j.Sub).2.cV then
      if j.Op.Kind=5 then dN {j with Sub:=(fX s.aA w j.Sub).2} 9 (fX s.aA w j.Sub).2.Code
      else if j.Pc=0 then dN {j with Sub:=O4 4 0} 1 0
      else dN {j with Sub:=(fX s.aA w j.Sub).2,dV:=(fX s.aA w j.Sub).2.Out} 9 (fX s.aA w j.Sub).2.Code
      else {j with Sub:=(fX s.aA w j.Sub).2},[]⟩
  else ⟨s.aA,s.Cells,dN j 9 1,[]⟩
def aNM:JR:=if j.Op.Kind=1 then WT s w j else if j.Op.Kind=2 then VF s w j else if j.Op.Kind=3 then aCO s w j else if j.Op.Kind=7 then Q0 s w j else NX s w j
end
def lM(s:aG)(w:Int)(r:JR):aG:=⟨r.b,r.c,s.aX.set w.toNat r.j,s.e9,s.Log++r.l,s.aK⟩
def SR(t:List Queue)(w:Int):List dT:=(t.getD w.toNat ⟨[]⟩).i6
def aL(s:aG)(w:Int):bE:=s.aX.getD w.toNat I9
def AK(c:aC)(w:Int)(o:dT)(ser:Int):bE:=
  if o.Kind=1 then ⟨true,o,ser,0,O4 1 o.gY,0,0,0,0⟩
  else if o.Kind=2∨o.Kind=5 then if (bU c w).On then ⟨true,o,ser,9,O4 5 0,0,0,0,1⟩ else ⟨true,o,ser,0,O4 5 0,0,0,0,0⟩
  else if o.Kind=4 then ⟨true,o,ser,0,O4 3 0,0,0,0,0⟩
  else ⟨true,o,ser,0,⟨0,0,0,0,0,0,0,0,0,false⟩,0,0,0,0⟩
def aCP(s:aG)(w:Int):aG:=match SR s.e9 w with
  | []=>s
  | o :: r => if s.aK = 1000000 then s else
    ⟨s.aA,s.Cells,s.aX.set w.toNat (AK s.aA.aC w o (s.aK+1)),s.e9.set w.toNat ⟨r⟩,s.Log ++ [⟨1,w,s.aK+1,o.Cell,0,0,0⟩],s.aK+1⟩
def aVA(w:Int)(j:bE):Ev:=⟨4,w,j.aK,j.Op.Cell,j.H,j.dV,j.Code⟩
def JD(s:aG)(w:Int):aG:=
  if (aL s w).eG=false then aCP s w
  else if (aL s w).Pc=9 then ⟨s.aA,s.Cells,s.aX.set w.toNat I9,s.e9,s.Log ++ [aVA w (aL s w)],s.aK⟩
  else lM s w (aNM s w (aL s w))
noncomputable section
variable {s:aG} (hs:C7 s) (hl:s.Log.length≤1000000000) {w:Int} (hw:0≤w∧w≤2) {j:bE} (hjo:kX j.Op∧cS j.H∧cS j.Old)
include hs
theorem pZ(hw:0≤w∧w≤2):idx s.aX w=some (aL s w):=by
  have:=hs.2.2.1
  rw [fP hw.1 (by omega)]
  simp [aL,List.getD_eq_getElem?_getD,List.getElem?_eq_getElem (show w.toNat < s.aX.length by omega)]
theorem rD{k:Int}(hk:0≤k∧k≤1):idx s.Cells k=some (cellAt s.Cells k):=by
  have:=hs.2.1
  rw [fP hk.1 (by omega)]
  simp [cellAt,List.getD_eq_getElem?_getD,List.getElem?_eq_getElem (show k.toNat < s.Cells.length by omega)]
include hw
theorem aIL(x:aG)(hx:x.aX=s.aX)(j:bE):cJ w x j=some {x with aX:=x.aX.set w.toNat j}:=by
  unfold cJ
  rw [hx,pZ hs hw,aE]
include hl hjo
theorem aUA(hk:j.Op.Kind=1):((FK s w j).bind fun q=>cJ w q.1 q.2)=some (lM s w (WT s w j)):=by
  have hn:∀(e:Ev) {α:Type} (k:Option α),need (s.Log.length + [e].length≤1073741824) k=k:=fun e _ k=>aM (by simp;omega) k
  have hcell:=rD hs hjo.1.2.2.1
  have hval:0≤j.Op.dV∧j.Op.dV≤65535:=by have:=hjo.1.2.2.2;rw [if_pos hk] at this;exact this.2
  have hj:=fun x hx j=>aIL hs hw x hx j
  unfold FK WT
  simp only [aGP hs.1 hw,aNK hs.1.1.1 hval,hcell,aE,bD,gX,hn]
  by_cases p0:j.Pc=0
  · have p0':(j.Pc == 0)=true:=by simpa using p0
    simp only [p0',if_true,if_pos p0]
    cases hd:(fX s.aA w j.Sub).2.cV with
    | false=>simp only [iE,if_true,aN,if_false,aE];refine(hj _ ?_ _).trans ?_;rfl;simp [lM]
    | true =>
      simp only [dE,aN,if_false,if_true]
      by_cases c0:(fX s.aA w j.Sub).2.Code=0
      · have c0':((fX s.aA w j.Sub).2.Code != 0)=false:=by simpa using c0
        simp only [c0',aN,if_false,if_neg (show ¬(fX s.aA w j.Sub).2.Code≠0 from fun h=>h c0),eB,aE]
        by_cases o0:jN (fX s.aA w j.Sub).2.Out
        · simp only [bC o0,dE,aN,if_false,if_pos o0,aE];refine(hj _ ?_ _).trans ?_;rfl;simp [lM,dN]
        · simp only [bL o0,iE,if_true,if_neg o0,aE];refine(hj _ ?_ _).trans ?_;rfl;simp [lM,dN]
      · have c0':((fX s.aA w j.Sub).2.Code != 0)=true:=by simpa using c0
        simp only [c0',if_true,if_pos (show(fX s.aA w j.Sub).2.Code≠0 from c0),aE];refine(hj _ ?_ _).trans ?_;rfl;simp [lM,dN]
  have p0':(j.Pc == 0)=false:=by simpa using p0
  simp only [p0',aN,if_false,if_neg p0]
  by_cases p1:j.Pc=1
  · have p1':(j.Pc == 1)=true:=by simpa using p1
    simp only [p1',if_true,if_pos p1]
    by_cases c0:(AJ s.aA.Mem j.H j.Op.dV).2=0
    · have c0':((AJ s.aA.Mem j.H j.Op.dV).2 != 0)=false:=by simpa using c0
      simp only [c0',aN,if_false,if_pos c0,aE];refine(hj _ ?_ _).trans ?_;rfl;simp [lM,dN]
    · have c0':((AJ s.aA.Mem j.H j.Op.dV).2 != 0)=true:=by simpa using c0
      simp only [c0',if_true,if_neg c0,aE];refine(hj _ ?_ _).trans ?_;rfl;simp [lM,dN]
  have p1':(j.Pc == 1)=false:=by simpa using p1
  simp only [p1',aN,if_false,if_neg p1]
  by_cases p2:j.Pc=2
  · have p2':(j.Pc == 2)=true:=by simpa using p2
    simp only [p2',if_true,if_pos p2]
    by_cases c0:cellAt s.Cells j.Op.Cell=0
    · have c0':(cellAt s.Cells j.Op.Cell == 0)=true:=by simpa using c0
      simp only [c0',if_true,if_pos c0,aE];refine(hj _ ?_ _).trans ?_;rfl;simp [lM,dN,c0]
    · have c0':(cellAt s.Cells j.Op.Cell == 0)=false:=by simpa using c0
      simp only [c0',aN,if_false,if_neg c0,aE];refine(hj _ ?_ _).trans ?_;rfl;simp [lM,dN,O4]
  have p2':(j.Pc == 2)=false:=by simpa using p2
  simp only [p2',aN,if_false,if_neg p2]
  by_cases p3:j.Pc=3
  · have p3':(j.Pc == 3)=true:=by simpa using p3
    simp only [p3',if_true,if_pos p3]
    cases hd:(fX s.aA w j.Sub).2.cV with
    | false=>simp only [iE,if_true,aN,if_false,aE];refine(hj _ ?_ _).trans ?_;rfl;simp [lM]
    | true=>simp only [dE,aN,if_false,if_true,aE];refine(hj _ ?_ _).trans ?_;rfl;simp [lM,dN]
  have p3':(j.Pc == 3)=false:=by simpa using p3
  simp only [p3',aN,if_false,if_neg p3,aE];refine(hj _ ?_ _).trans ?_;rfl;simp [lM,dN]
theorem aUB:((FL s w j).bind fun q=>cJ w q.1 q.2)=some (lM s w (VF s w j)):=by
  have hn:∀(e:Ev) {α:Type} (k:Option α),need (s.Log.length + [e].length≤1073741824) k=k:=fun e _ k=>aM (by simp;omega) k
  have hcell:=rD hs hjo.1.2.2.1
  have hj:=fun x hx j=>aIL hs hw x hx j
  unfold FL VF
  simp only [aGP hs.1 hw,hcell,aE,bD,jF,hn,aGQ hs.1.1.1,aE2 hs.1.1.2.1 hw,sT,wI hs.1.1.2.1 hw]
  by_cases p0:j.Pc=0
  · have p0':(j.Pc == 0)=true:=by simpa using p0
    simp only [p0',if_true,if_pos p0]
    cases hd:(fX s.aA w j.Sub).2.cV with
    | false=>simp only [iE,if_true,aN,if_false,aE];refine(hj _ ?_ _).trans ?_;rfl;simp [lM]
    | true=>simp only [dE,aN,if_false,if_true,aE];refine(hj _ ?_ _).trans ?_;rfl;simp [lM,dN]
  have p0':(j.Pc == 0)=false:=by simpa using p0
  simp only [p0',aN,if_false,if_neg p0]
  by_cases p1:j.Pc=1
  · have p1':(j.Pc == 1)=true:=by simpa using p1
    simp only [p1',if_true,if_pos p1]
    by_cases c0:cellAt s.Cells j.Op.Cell=0
    · have c0':(cellAt s.Cells j.Op.Cell == 0)=true:=by simpa using c0
      simp only [c0',if_true,if_pos c0,aE];refine(hj _ ?_ _).trans ?_;rfl;simp [lM,dN,FT,c0]
    · have c0':(cellAt s.Cells j.Op.Cell == 0)=false:=by simpa using c0
      simp only [c0',aN,if_false,if_neg c0,aE];refine(hj _ ?_ _).trans ?_;rfl;simp [lM,dN,FT]
  have p1':(j.Pc == 1)=false:=by simpa using p1
  simp only [p1',aN,if_false,if_neg p1]
  by_cases p2:j.Pc=2
  · have p2':(j.Pc == 2)=true:=by simpa using p2
    simp only [p2',if_true,if_pos p2,aE];refine(hj _ ?_ _).trans ?_;rfl;simp [lM,dN]
  have p2':(j.Pc == 2)=false:=by simpa using p2
  simp only [p2',aN,if_false,if_neg p2]
  by_cases p3:j.Pc=3
  · have p3':(j.Pc == 3)=true:=by simpa using p3
    simp only [p3',if_true,if_pos p3,aE,mA,bD,pY]
    cases h1:(bU s.aA.aC w).On <;> cases h2:(bU s.aA.aC w).cX <;> simp only [iE,dE,aN,if_false,if_true,aE,and_false,and_true,false_and,true_and,reduceCtorEq] <;> (refine(hj _ ?_ _).trans ?_;rfl;simp [lM,dN])
  have p3':(j.Pc == 3)=false:=by simpa using p3
  simp only [p3',aN,if_false,if_neg p3]
  by_cases p4:j.Pc=4
  · have p4':(j.Pc == 4)=true:=by simpa using p4
    simp only [p4',if_true,if_pos p4,aE];refine(hj _ ?_ _).trans ?_;rfl;simp [lM,dN]
  have p4':(j.Pc == 4)=false:=by simpa using p4
  simp only [p4',aN,if_false,if_neg p4,aE];refine(hj _ ?_ _).trans ?_;rfl;simp [lM,dN]
theorem aUC:((FM s w j).bind fun q=>cJ w q.1 q.2)=some (lM s w (aCO s w j)):=by
  have hn:∀(e:Ev) {α:Type} (k:Option α),need (s.Log.length + [e].length≤1073741824) k=k:=fun e _ k=>aM (by simp;omega) k
  have hcell:=rD hs hjo.1.2.2.1
  have hj:=fun x hx j=>aIL hs hw x hx j
  obtain⟨t1,e1⟩:=aIK hs.1.1.2.2.2 hw j.H
  obtain⟨t2,e2⟩:=aNL hs.1.1.2.2.2 hw
  unfold FM aCO
  simp only [hcell,aE,bD,jF,hn,aGQ hs.1.1.1,e1,e2]
  by_cases p0:j.Pc=0
  · have p0':(j.Pc == 0)=true:=by simpa using p0
    simp only [p0',if_true,if_pos p0]
    by_cases c0:cellAt s.Cells j.Op.Cell=0
    · have c0':(cellAt s.Cells j.Op.Cell == 0)=true:=by simpa using c0
      simp only [c0',if_true,if_pos c0,aE];refine(hj _ ?_ _).trans ?_;rfl;simp [lM,dN,FT,c0]
    · have c0':(cellAt s.Cells j.Op.Cell == 0)=false:=by simpa using c0
      simp only [c0',aN,if_false,if_neg c0,aE];refine(hj _ ?_ _).trans ?_;rfl;simp [lM,dN]
  have p0':(j.Pc == 0)=false:=by simpa using p0
  simp only [p0',aN,if_false,if_neg p0]
  by_cases p1:j.Pc=1
  · have p1':(j.Pc == 1)=true:=by simpa using p1
    simp only [p1',if_true,if_pos p1,aE];refine(hj _ ?_ _).trans ?_;rfl;simp [lM,dN]
  have p1':(j.Pc == 1)=false:=by simpa using p1
  simp only [p1',aN,if_false,if_neg p1]
  by_cases p2:j.Pc=2
  · have p2':(j.Pc == 2)=true:=by simpa using p2
    simp only [p2',if_true,if_pos p2]
    by_cases c0:cellAt s.Cells j.Op.Cell=j.H
    · have c0':(cellAt s.Cells j.Op.Cell != j.H)=false:=by simpa using c0
      simp only [c0',aN,if_false,if_pos c0,aE];refine(hj _ ?_ _).trans ?_;rfl;simp [lM,dN,FT]
    · have c0':(cellAt s.Cells j.Op.Cell != j.H)=true:=by simpa using c0
      simp only [c0',if_true,if_neg c0,aE];refine(hj _ ?_ _).trans ?_;rfl;simp [lM,dN]
  have p2':(j.Pc == 2)=false:=by simpa using p2
  simp only [p2',aN,if_false,if_neg p2]
  by_cases p3:j.Pc=3
  · have p3':(j.Pc == 3)=true:=by simpa using p3
    simp only [p3',if_true,if_pos p3,aE];refine(hj _ ?_ _).trans ?_;rfl;simp [lM,dN]
  have p3':(j.Pc == 3)=false:=by simpa using p3
  simp only [p3',aN,if_false,if_neg p3]
  by_cases p4:j.Pc=4
  · have p4':(j.Pc == 4)=true:=by simpa using p4
    simp only [p4',if_true,if_pos p4,aE];refine(hj _ ?_ _).trans ?_;rfl;simp [lM,dN]
  have p4':(j.Pc == 4)=false:=by simpa using p4
  simp only [p4',aN,if_false,if_neg p4,aE];refine(hj _ ?_ _).trans ?_;rfl;simp [lM,dN]
theorem aRG:((CQ s w j).bind fun q=>cJ w q.1 q.2)=some (lM s w (Q0 s w j)):=by
  have hn:∀(e:Ev) {α:Type} (k:Option α),need (s.Log.length + [e].length≤1073741824) k=k:=fun e _ k=>aM (by simp;omega) k
  have hcell:=rD hs hjo.1.2.2.1
  have hj:=fun x hx j=>aIL hs hw x hx j
  unfold CQ Q0
  simp only [hcell,aE,bD,jF,hn,aGQ hs.1.1.1,sT,wI hs.1.1.2.1 hw]
  by_cases p0:j.Pc=0
  · have p0':(j.Pc == 0)=true:=by simpa using p0
    simp only [p0',if_true,if_pos p0]
    cases h1:(bU s.aA.aC w).On with
    | false=>simp only [iE,if_true,aE];refine(hj _ ?_ _).trans ?_;rfl;simp [lM,dN]
    | true =>
      cases h2:(bU s.aA.aC w).cX with
      | true=>simp only [dE,aN,if_false,if_true,aE,reduceCtorEq];refine(hj _ ?_ _).trans ?_;rfl;simp [lM,dN]
      | false =>
        simp only [dE,aN,if_false,reduceCtorEq]
        by_cases c0:cellAt s.Cells j.Op.Cell=0
        · have c0':(cellAt s.Cells j.Op.Cell == 0)=true:=by simpa using c0
          simp only [c0',if_true,if_pos c0,aE];refine(hj _ ?_ _).trans ?_;rfl;simp [lM,dN,FT,c0]
        · have c0':(cellAt s.Cells j.Op.Cell == 0)=false:=by simpa using c0
          simp only [c0',aN,if_false,if_neg c0,aE];refine(hj _ ?_ _).trans ?_;rfl;simp [lM,dN,FT]
  have p0':(j.Pc == 0)=false:=by simpa using p0
  simp only [p0',aN,if_false,if_neg p0]
  by_cases p1:j.Pc=1
  · have p1':(j.Pc == 1)=true:=by simpa using p1
    simp only [p1',if_true,if_pos p1,aE];refine(hj _ ?_ _).trans ?_;rfl;simp [lM,dN]
  have p1':(j.Pc == 1)=false:=by simpa using p1
  simp only [p1',aN,if_false,if_neg p1]
  by_cases p2:j.Pc=2
  · have p2':(j.Pc == 2)=true:=by simpa using p2
    simp only [p2',if_true,if_pos p2,aE,mA,bD,pY]
    cases h1:(bU s.aA.aC w).On <;> cases h2:(bU s.aA.aC w).cX <;> simp only [iE,dE,aN,if_false,if_true,aE,and_false,and_true,false_and,true_and,reduceCtorEq] <;> (refine(hj _ ?_ _).trans ?_;rfl;simp [lM,dN])
  have p2':(j.Pc == 2)=false:=by simpa using p2
  simp only [p2',aN,if_false,if_neg p2,aE];refine(hj _ ?_ _).trans ?_;rfl;simp [lM,dN]
theorem aNN:((yK s w j).bind fun q=>cJ w q.1 q.2)=some (lM s w (NX s w j)):=by
  have hj:=fun x hx j=>aIL hs hw x hx j
  unfold yK NX wE
  simp only [aE2 hs.1.1.2.1 hw,aE,bD]
  have step:j.Op.Kind≠6→(j.Pc=0∨j.Pc=1∧j.Op.Kind≠5)→((hU s w j false).bind fun q=>cJ w q.1 q.2)=some (lM s w ⟨(fX s.aA w j.Sub).1,s.Cells,if (fX s.aA w j.Sub).2.cV then if j.Op.Kind=5 then dN {j with Sub:=(fX s.aA w j.Sub).2} 9 (fX s.aA w j.Sub).2.Code else if j.Pc=0 then dN {j with Sub:=O4 4 0} 1 0 else dN {j with Sub:=(fX s.aA w j.Sub).2,dV:=(fX s.aA w j.Sub).2.Out} 9 (fX s.aA w j.Sub).2.Code else {j with Sub:=(fX s.aA w j.Sub).2},[]⟩):=fun k6 kp=>by
    unfold hU
    simp only [aN,if_false,aGP hs.1 hw,aE,bD,gX]
    cases hd:(fX s.aA w j.Sub).2.cV with
    | false=>simp only [iE,if_true,aN,if_false,aE];refine(hj _ ?_ _).trans ?_;rfl;simp [lM]
    | true =>
      simp only [dE,aN,if_false,if_true]
      by_cases k5:j.Op.Kind=5
      · have k5':(j.Op.Kind == 5)=true:=by simpa using k5
        simp only [k5',if_true,if_pos k5,aE];refine(hj _ ?_ _).trans ?_;rfl;simp [lM,dN]
      · have k5':(j.Op.Kind == 5)=false:=by simpa using k5
        simp only [k5',aN,if_false,if_neg k5]
        by_cases p0:j.Pc=0
        · have p0':(j.Pc == 0)=true:=by simpa using p0
          simp only [p0',if_true,if_pos p0,aE];refine(hj _ ?_ _).trans ?_;rfl;simp [lM,dN,O4]
        · have p0':(j.Pc == 0)=false:=by simpa using p0
          simp only [p0',aN,if_false,if_neg p0,aE];refine(hj _ ?_ _).trans ?_;rfl;simp [lM,dN]
  have bad:((hU s w j true).bind fun q=>cJ w q.1 q.2)=some (lM s w ⟨s.aA,s.Cells,dN j 9 1,[]⟩):=by
    unfold hU
    simp only [if_true,bD,aE];refine(hj _ ?_ _).trans ?_;rfl;simp [lM,dN]
  by_cases k6:j.Op.Kind=6
  · have k6':(j.Op.Kind == 6)=true:=by simpa using k6
    simp only [k6',if_true,if_pos k6]
    by_cases p0:j.Pc=0
    · have p0':(j.Pc == 0)=true:=by simpa using p0
      simp only [p0',if_true,if_pos p0]
      cases h1:(JC s.aA.aC w).2 with
      | true=>simp only [dE,aN,if_false,if_true,aE];refine(hj _ ?_ _).trans ?_;rfl;simp [lM,dN]
      | false=>simp only [iE,aN,if_false,if_true,aE];refine(hj _ ?_ _).trans ?_;rfl;simp [lM,dN]
    · have p0':(j.Pc == 0)=false:=by simpa using p0
      simp only [p0',aN,if_false,if_neg p0]
      exact bad
  have k6':(j.Op.Kind == 6)=false:=by simpa using k6
  simp only [k6',aN,if_false,if_neg k6]
  by_cases p0:j.Pc=0
  · have p0':(j.Pc != 0)=false:=by simpa using p0
    have hc:j.Pc=0∨j.Pc=1∧j.Op.Kind≠5:=.inl p0
    simp only [p0',aN,if_false,if_pos hc]
    exact step k6 hc
  have p0':(j.Pc != 0)=true:=by simpa using p0
  simp only [p0',if_true]
  by_cases p1:j.Pc=1
  · have p1':(j.Pc != 1)=false:=by simpa using p1
    simp only [p1',aN,if_false]
    by_cases k5:j.Op.Kind=5
    · have k5':(j.Op.Kind == 5)=true:=by simpa using k5
      simp only [k5',if_neg (show ¬(j.Pc=0∨j.Pc=1∧j.Op.Kind≠5) from fun h=>h.elim p0 fun h=>h.2 k5)]
      exact bad
    · have k5':(j.Op.Kind == 5)=false:=by simpa using k5
      have hc:j.Pc=0∨j.Pc=1∧j.Op.Kind≠5:=.inr ⟨p1,k5⟩
      simp only [k5',if_pos hc]
      exact step k6 hc
  · have p1':(j.Pc != 1)=true:=by simpa using p1
    simp only [p1',if_true,if_neg (show ¬(j.Pc=0∨j.Pc=1∧j.Op.Kind≠5) from fun h=>h.elim p0 fun h=>p1 h.1)]
    exact bad
omit hjo
theorem aNO:yE s w=some (aCP s w):=by
  have ht:=hs.2.2.2.1
  have hser:=hs.2.2.2.2.1
  have hn:∀(e:Ev) {α:Type} (k:Option α),need (s.Log.length + [e].length≤1073741824) k=k:=fun e _ k=>aM (by simp;omega) k
  have hq:idx s.e9 w=some ⟨SR s.e9 w⟩:=by
    have:=ht.1
    rw [fP hw.1 (by omega)]
    simp [SR,List.getD_eq_getElem?_getD,List.getElem?_eq_getElem (show w.toNat < s.e9.length by omega)]
  have ew:bB (s.aK+1)=s.aK+1:=aO (by omega) (by omega)
  have h12:(SR s.e9 w).length≤12:=by
    have h3:=ht.1
    rw [fP hw.1 (by omega)] at hq
    injection hq with hq
    have:=(ht.2 _ (List.getElem_mem (show w.toNat < s.e9.length by omega))).1
    rw [hq] at this;exact this
  unfold yE aCP
  rw [hq,aE]
  simp only [v5,hq,aE]
  cases ho:SR s.e9 w with
  | nil=>simp
  | cons o r =>
    rw [ho] at h12
    simp only [List.length_cons] at h12
    have l0:(((o :: r).length:Int) == 0)=false:=by simp;omega
    simp only [l0,aN,if_false]
    by_cases s0:s.aK=1000000
    · have s0':(s.aK == 1000000)=true:=by simpa using s0
      simp only [s0',if_true,if_pos s0]
    have s0':(s.aK == 1000000)=false:=by simpa using s0
    have hx:idx (o :: r) 0=some o:=rfl
    have etk:((o :: r).take (o :: r).length).drop (1:Int).toNat=r:=by rw [List.take_length];rfl
    simp only [s0',aN,if_false,if_neg s0,hx,aE,gX,ew]
    rw [aM (by simp only [List.length_cons];omega)]
    have fin:∀jb:bE,eX s w ⟨o :: r⟩ o jb=some ⟨s.aA,s.Cells,s.aX.set w.toNat jb,s.e9.set w.toNat ⟨r⟩,s.Log ++ [⟨1,w,s.aK+1,o.Cell,0,0,0⟩],s.aK+1⟩:=fun jb=>by
      simp only [eX,pZ hs hw,aE,hn,etk,ew]
    unfold AK
    by_cases k1:o.Kind=1
    · have k1':(o.Kind == 1)=true:=by simpa using k1
      simp only [k1',if_true,if_pos k1,fin];rfl
    have k1':(o.Kind == 1)=false:=by simpa using k1
    simp only [k1',aN,if_false,if_neg k1]
    have pin:∀z,z=true→iT s w ⟨o :: r⟩ o z=some ⟨s.aA,s.Cells,s.aX.set w.toNat (if (bU s.aA.aC w).On then ⟨true,o,s.aK+1,9,O4 5 0,0,0,0,1⟩ else ⟨true,o,s.aK+1,0,O4 5 0,0,0,0,0⟩),s.e9.set w.toNat ⟨r⟩,s.Log ++ [⟨1,w,s.aK+1,o.Cell,0,0,0⟩],s.aK+1⟩:=fun z hz=>by
      subst hz
      simp only [iT,if_true,gX,wI hs.1.1.2.1 hw,aE,ew,fin]
      cases (bU s.aA.aC w).On <;> rfl
    by_cases k2:o.Kind=2
    · have k2':(o.Kind == 2)=true:=by simpa using k2
      simp only [k2',if_true,if_pos (show o.Kind=2∨o.Kind=5 from .inl k2)]
      exact pin true rfl
    have k2':(o.Kind == 2)=false:=by simpa using k2
    simp only [k2',aN,if_false]
    by_cases k5:o.Kind=5
    · have k5':(o.Kind == 5)=true:=by simpa using k5
      simp only [k5',if_pos (show o.Kind=2∨o.Kind=5 from .inr k5)]
      exact pin true rfl
    have k5':(o.Kind == 5)=false:=by simpa using k5
    simp only [k5',iT,aN,if_false,if_neg (show ¬(o.Kind=2∨o.Kind=5) from fun h=>h.elim k2 k5),gX,aE,ew,fin]
    by_cases k4:o.Kind=4
    · have k4':(o.Kind == 4)=true:=by simpa using k4
      simp only [k4',if_true,if_pos k4];rfl
    · have k4':(o.Kind == 4)=false:=by simpa using k4
      simp only [k4',aN,if_false,if_neg k4]
theorem aRH:NC s w=some (JD s w):=by
  have hn:∀(e:Ev) {α:Type} (k:Option α),need (s.Log.length + [e].length≤1073741824) k=k:=fun e _ k=>aM (by simp;omega) k
  have hjk:ZV (aL s w):=by
    have h:=pZ hs hw
    have h3:=hs.2.2.1
    rw [fP hw.1 (by omega)] at h
    injection h with h
    rw [←h];exact hs.2.2.2.2.2.2 _ (List.getElem_mem _)
  unfold NC JD
  rw [pZ hs hw,aE]
  cases hb:(aL s w).eG with
  | false=>simp only [iE,if_true,aNO hs hl hw,aE]
  | true =>
    have hjo:=(yU hb).1 hjk
    simp only [dE,aN,if_false,reduceCtorEq]
    by_cases p9:(aL s w).Pc=9
    · have p9':((aL s w).Pc == 9)=true:=by simpa using p9
      simp only [p9',if_true,if_pos p9,hn];rfl
    have p9':((aL s w).Pc == 9)=false:=by simpa using p9
    simp only [p9',aN,if_false,if_neg p9]
    unfold aNM
    by_cases k1:(aL s w).Op.Kind=1
    · have k1':((aL s w).Op.Kind == 1)=true:=by simpa using k1
      simp only [k1',if_true,if_pos k1];exact aUA hs hl hw hjo k1
    have k1':((aL s w).Op.Kind == 1)=false:=by simpa using k1
    simp only [k1',aN,if_false,if_neg k1]
    by_cases k2:(aL s w).Op.Kind=2
    · have k2':((aL s w).Op.Kind == 2)=true:=by simpa using k2
      simp only [k2',if_true,if_pos k2];exact aUB hs hl hw hjo
    have k2':((aL s w).Op.Kind == 2)=false:=by simpa using k2
    simp only [k2',aN,if_false,if_neg k2]
    by_cases k3:(aL s w).Op.Kind=3
    · have k3':((aL s w).Op.Kind == 3)=true:=by simpa using k3
      simp only [k3',if_true,if_pos k3];exact aUC hs hl hw hjo
    have k3':((aL s w).Op.Kind == 3)=false:=by simpa using k3
    simp only [k3',aN,if_false,if_neg k3]
    by_cases k7:(aL s w).Op.Kind=7
    · have k7':((aL s w).Op.Kind == 7)=true:=by simpa using k7
      simp only [k7',if_true,if_pos k7];exact aRG hs hl hw hjo
    have k7':((aL s w).Op.Kind == 7)=false:=by simpa using k7
    simp only [k7',aN,if_false,if_neg k7];exact aNN hs hl hw hjo
theorem aRI:rQ s w=some (JD s w)∧C7 (JD s w)∧(JD s w).Log.length≤s.Log.length+1:=by
  obtain⟨x,e1,e2,h1,h2⟩:=aGO hs hl hw
  rw [aRH hs hl hw] at e1
  injection e1 with e1
  rw [e1];exact⟨e2,h1,h2⟩
end
end Go.Gv
end
noncomputable section
namespace Go.Gv
def aRJ(b:aA)(s:Int):Int:=if eM b.Mem s=3 then (if DE b.aP s then 3 else 4) else eM b.Mem s
noncomputable section
variable {b:aA} (hb:mO b)
include hb
theorem mO.fits:b.Mem.aD.Bytes.length≤maxLen∧(dC b.Mem.aB).length≤1073741824∧b.aC.cH.length≤maxLen∧b.aP.length≤maxLen∧(bH b.aP).length≤1073741824∧b.nA.length≤maxLen:=by
  obtain⟨h1,h2,h3,h4,_⟩:=mD.facts hb.1.1
  have a:=hb.1.2.1.2.1;have c:=hb.1.2.2.1.1;have d:=hb.1.2.2.1.2.1;have e:=hb.1.2.2.2.1
  simp only [maxLen];omega
end
end Go.Gv
end
noncomputable section
namespace Go.Gv
def yV{α:Type}(o:Option α)(Q:α→Prop):Prop:=∃x,o=some x∧Q x
abbrev aVB{σ ρ:Type}(I:σ→Prop)(Q:ρ→Prop):Step σ ρ→Prop
  | .next s=>I s
  | .stop r=>Q r
namespace yV
variable {α β σ ρ:Type} {Q:α→Prop}
theorem ret{x:α}(h:Q x):yV (some x) Q:=⟨x,rfl,h⟩
theorem bind{P:β→Prop}{o:Option β}{f:β→Option α}(h:yV o P)(hf:∀x,P x→yV (f x) Q):yV (o.bind f) Q:=by
  obtain⟨x,e,hx⟩:=h
  rw [e];exact hf x hx
theorem need{p:Prop}[Decidable p]{k:Option α}(h:p)(hk:yV k Q):yV (Gv.need p k) Q:=by rw [aM h];exact hk
theorem ite{c:Prop}[Decidable c]{a b:Option α}(h1:c→yV a Q)(h2:¬c→yV b Q):yV (if c then a else b) Q:=by
  by_cases h:c
  · rw [if_pos h];exact h1 h
  · rw [if_neg h];exact h2 h
theorem mono{P:α→Prop}{o:Option α}(h:yV o P)(hf:∀x,P x→Q x):yV o Q:=by obtain⟨x,e,hx⟩:=h;exact⟨x,e,hf x hx⟩
theorem idx{l:List β}{i:Int}(h:0≤i∧i < l.length):yV (Gv.idx l i) (fun x=>x∈l):=⟨_,fP h.1 h.2,List.getElem_mem _⟩
theorem loop{Q:ρ→Prop}{f:σ→Option (Step σ ρ)}{s:σ}(μ:σ→Nat)(Inv:σ→Prop)(h0:Inv s)(hb:∀s,Inv s→yV (f s) (aVB (fun s'=>Inv s'∧μ s' < μ s) (fun r=>Q r))):yV (Gv.loop f s) Q:=by
  have key:∀n s,μ s < n→Inv s→yV (Gv.loop f s) Q:=by
    intro n
    induction n with
    | zero=>intro s h;omega
    | succ n ih =>
      intro s h hs
      obtain⟨q,e,hq⟩:=hb s hs
      cases q with
      | next s'=>rw [bP e];exact ih s' (by have:=hq.2;omega) hq.1
      | stop r=>rw [bO e];exact⟨r,rfl,hq⟩
  exact key _ s (Nat.lt_succ_self _) h0
theorem of{o:Option α}{x:α}(h:o=some x):yV o (fun y=>y=x):=⟨x,h,rfl⟩
end yV
def Cu(b:List UInt8)(i:Int):Prop:=(0≤i∧i≤b.length)∧b.length≤1048576
theorem aRK(x:Int):0≤gU .and .i64 x 255∧gU .and .i64 x 255≤255:=by
  have e:gU .and .i64 x 255=IntKind.i64.wrap ((BitVec.ofInt 64 x &&& BitVec.ofInt 64 255).toNat:Int):=rfl
  have h:(BitVec.ofInt 64 x &&& BitVec.ofInt 64 255).toNat≤255:=by
    rw [BitVec.toNat_and];exact Nat.le_trans Nat.and_le_right (by decide)
  rw [e,wrap_i64 (by omega) (by omega)];omega
noncomputable section
variable {b:List UInt8} {i h:Int} (hc:Cu b i)
include hc
theorem aIM:yV (qB ⟨b,i,h⟩) (fun x=>(0≤x.1∧x.1≤255)∧Cu b x.2.1):=by
  unfold qB A7
  obtain⟨⟨a1,a2⟩,a3⟩:=hc
  refine .ite (fun q=>?_) (fun q=>?_)
  · have q':=of_decide_eq_true q
    simp only at q'
    refine .bind (.idx ⟨a1,q'⟩) fun x _=>.ret ⟨aRK _,?_⟩
    show Cu b (bB (i+1))
    rw [aO (by omega) (by omega)]
    exact⟨by omega,a3⟩
  · exact .ret ⟨aRK _,⟨a1,a2⟩,a3⟩
theorem below{n:Int}(hn:n≤1000000):yV (fZ ⟨b,i,h⟩ n) (fun x=>(0≤x.1∧(x.1 < n∨n≤0∧x.1=0))∧Cu b x.2.1):=by
  unfold fZ
  refine .ite (fun q=>?_) (fun q=>?_)
  · have q':=of_decide_eq_true q
    exact .ret ⟨by simp;omega,hc⟩
  · have q0:0 < n:=by simpa using q
    refine .ite (fun q=>?_) (fun q=>?_)
    · refine .bind (aIM hc) fun x ⟨hx,h1⟩=>.need (by omega) (.ret ⟨?_,h1⟩)
      simp only [yO hx.1]
      exact⟨Int.emod_nonneg _ (by omega),.inl (Int.emod_lt_of_pos _ q0)⟩
    · refine .bind (aIM hc) fun x ⟨hx,h1⟩=>.bind (aIM h1) fun y ⟨hy,h2⟩=>.bind (aIM h2) fun z ⟨hz,h3⟩=>.bind (aIM h3) fun w ⟨hw,h4⟩=>.need (by omega) (.ret ⟨?_,h4⟩)
      have e:bB (bB (bB (bB (x.1 * 16777216)+bB (y.1 * 65536))+bB (z.1 * 256))+w.1)=x.1 * 16777216+y.1 * 65536+z.1 * 256+w.1:=by
        rw [aO (x:=x.1 * 16777216) (by omega) (by omega),aO (x:=y.1 * 65536) (by omega) (by omega),aO (x:=z.1 * 256) (by omega) (by omega),aO (x:=x.1 * 16777216+y.1 * 65536) (by omega) (by omega),aO (x:=x.1 * 16777216+y.1 * 65536+z.1 * 256) (by omega) (by omega),aO (by omega) (by omega)]
      simp only [e]
      rw [yO (by omega)]
      exact⟨Int.emod_nonneg _ (by omega),.inl (Int.emod_lt_of_pos _ q0)⟩
theorem aY0{n:Int}(hn:n≤1000000):yV (PF ⟨b,i,h⟩ n) (fun x=>Cu b x.2.1):=
  .bind (below hc hn) fun _ ⟨_,h1⟩=>.ret h1
theorem aMD{l:List Int}(hl:0 < l.length)(hl2:l.length≤1000):yV (pA ⟨b,i,h⟩ l) (fun x=>x.1∈l∧Cu b x.2.1):=
  .bind (below hc (by omega)) fun x ⟨hx,h1⟩=>.bind (.idx (by omega)) fun y hy=>.ret ⟨hy,h1⟩
end
theorem a0G{code:List UInt8}(hl:code.length≤1048576):yV (MY code) (fun x=>Cu code x.1):=by
  unfold MY
  refine .bind (P:=fun _=>True) (.loop (fun s=>code.length - s.2.toNat) (fun s=>0≤s.2∧s.2≤code.length) ⟨by simp,by simp⟩ ?_) fun x _=>.ret ⟨⟨by simp,by simp⟩,hl⟩
  rintro⟨a,k⟩ ⟨h1,h2⟩
  simp only [RX,D6]
  simp only at h1 h2
  have nx:k < code.length→yV ((idx code k).bind fun x7=>some (Step.next (gU .and .i64 (bB ((bB ((bB (a * 131))+(x7.toNat:Int)))+7)) 1073741823,bB (k+1)))) (aVB (ρ:=Int) (fun s'=>(0≤s'.2∧s'.2≤code.length)∧code.length - s'.2.toNat < code.length - k.toNat) (fun r=>True)):=fun hk=>by
    refine .bind (.idx ⟨h1,hk⟩) fun x _=>.ret ?_
    rw [aO (x:=k+1) (by omega) (by omega)]
    refine⟨⟨?_,?_⟩,?_⟩ <;> (try simp only) <;> omega
  refine .ite (fun q=>?_) (fun q=>?_)
  · have q':=of_decide_eq_true q
    exact .ite (fun _=>nx q') (fun _=>.ret trivial)
  · rw [if_neg (by simp)];exact .ret trivial
end Go.Gv
end
noncomputable section
namespace Go.Gv
noncomputable section
variable {b:List UInt8} {i h:Int} (hc:Cu b i)
include hc
theorem opD:yV (MZ ⟨b,i,h⟩) (fun x=>kX x.1∧Cu b x.2.1):=by
  unfold MZ
  refine .bind (aMD hc (by decide) (by decide)) fun x1 ⟨hk,h1⟩=>?_
  have hk7:1≤x1.1∧x1.1≤7:=by simp at hk;omega
  rw [aE1,aE]
  have key:∀(i' h' cell:Int),Cu b i'→(C6 x1.1∨cell=0)→(0≤cell∧cell≤1)→yV (xA ⟨b,i,h⟩ x1 i' h' cell) (fun x=>kX x.1∧Cu b x.2.1):=by
    intro i' h' cell hc' h2 h3
    unfold xA D8 D7
    refine .ite (fun q=>?_) (fun q=>?_)
    · have q1:x1.1=1:=by simpa using q
      have fin:∀(i h size:Int),Cu b i→(0≤size∧size≤100)→yV ((fZ ⟨b,i,h⟩ 60000).bind fun x13=>some ((⟨x1.1,cell,size,x13.1⟩:dT),(x13.2.1,x13.2.2))) (fun x=>kX x.1∧Cu b x.2.1):=fun i h size hi hs=>
        .bind (below hi (by omega)) fun v ⟨hv,h4⟩=>.ret ⟨⟨hk7,h2,h3,by rw [if_pos q1];exact⟨hs,by (try simp only);omega⟩⟩,h4⟩
      refine .bind (below hc' (by omega)) fun s ⟨hs,h4⟩=>.bind (aY0 h4 (by omega)) fun o h5=>.ite (fun _=>.bind (aMD h5 (by decide) (by decide)) fun p ⟨hp,h6⟩=>fin _ _ _ h6 (by simp at hp;omega)) (fun _=>fin _ _ _ h5 (by rw [aO (by omega) (by omega)];omega))
    · have q1:¬x1.1=1:=by simpa using q
      exact .ret ⟨⟨hk7,h2,h3,by rw [if_neg q1];exact⟨rfl,rfl⟩⟩,hc'⟩
  refine .ite (fun q=>?_) (fun q=>?_)
  · refine .bind (aMD h1 (by decide) (by decide)) fun x ⟨hx,h2⟩=>key _ _ _ h2 (.inl (of_decide_eq_true q)) (by simp at hx;omega)
  · exact key _ _ _ h1 (.inr rfl) (by omega)
theorem aME{m:Int}(hm:0≤m∧m≤12):yV (tT ⟨b,i,h⟩ m) (fun x=>(x.1.length=3∧∀q∈x.1,q.i6.length≤m∧∀o∈q.i6,kX o)∧Cu b x.2.1):=by
  unfold tT
  refine .bind (P:=fun x=>(x.1.length=3∧∀q∈x.1,q.i6.length≤m∧∀o∈q.i6,kX o)∧Cu b x.2.1) (.loop (fun s=>3 - s.2.1.toNat) (fun s=>((s.1.length:Int)=s.2.1∧s.2.1≤3∧∀q∈s.1,q.i6.length≤m∧∀o∈q.i6,kX o)∧Cu b s.2.2.1) ⟨⟨rfl,by simp,by simp⟩,hc⟩ ?_) fun x hx=>.ret hx
  rintro⟨l,k,i',h'⟩ ⟨⟨e,k3,hq⟩,hi⟩
  simp only at e k3 hq hi
  simp only [JY]
  refine .ite (fun q=>?_) (fun q=>?_)
  · have q':=of_decide_eq_true q
    rw [aO (x:=m+1) (by omega) (by omega)]
    refine .bind (below hi (by omega)) fun n ⟨hn,h1⟩=>?_
    refine .bind (P:=fun x=>((x.2.2.length:Int)≤m∧∀o∈x.2.2,kX o)∧Cu b x.1) (.loop (fun s=>s.1.toNat) (fun s=>(0≤s.1∧s.1+s.2.2.2.length≤m∧∀o∈s.2.2.2,kX o)∧Cu b s.2.1) ⟨⟨hn.1,by simp;omega,by simp⟩,h1⟩ ?_) ?_
    · rintro⟨n,i1,h1,ops⟩ ⟨⟨n0,n1,ho⟩,hi1⟩
      simp only at n0 n1 ho hi1
      simp only [JW,A8]
      refine .ite (fun q=>?_) (fun q=>?_)
      · have q1:=of_decide_eq_true q
        refine .bind (opD hi1) fun o ⟨h2,h3⟩=>.need (by simp;omega) (.ret ?_)
        rw [aO (by omega) (by omega)]
        refine⟨⟨⟨by (try simp only);omega,by simp;omega,?_⟩,h3⟩,by (try simp only);omega⟩
        intro x hx
        rcases List.mem_append.1 hx with hx | hx
        · exact ho x hx
        · rw [List.mem_singleton.1 hx];exact h2
      · have q1:¬0 < n:=by simpa using q
        exact .ret ⟨⟨by (try simp only);omega,ho⟩,hi1⟩
    · rintro⟨i1,h1,ops⟩ ⟨⟨o1,o2⟩,hi1⟩
      simp only [JX,JV]
      refine .need (by simp;omega) (.ret ?_)
      rw [aO (by omega) (by omega)]
      refine⟨⟨⟨by simp;omega,by (try simp only);omega,?_⟩,hi1⟩,by (try simp only);omega⟩
      intro x hx
      rcases List.mem_append.1 hx with hx | hx
      · exact hq x hx
      · rw [List.mem_singleton.1 hx];exact⟨o1,o2⟩
  · have q':¬k < 3:=by simpa using q
    exact .ret ⟨⟨by (try simp only);omega,hq⟩,hi⟩
def VG(l:List Queue):Prop:=l.length≤3∧∀q∈l,q.i6.length≤1000
omit hc in
theorem aE5{l:List Queue}(hl:VG l)(k:Nat){q:Queue}(hq:q.i6.length≤1000):VG (l.set k q):=⟨by simpa using hl.1,fun x hx=>(List.mem_or_eq_of_mem_set hx).elim (hl.2 x) (fun e=>e ▸ hq)⟩
theorem aRL:yV (yX ⟨b,i,h⟩) (fun x=>VG x.1∧Cu b x.2.1):=by
  unfold yX
  refine .bind (aME hc (by omega)) fun x1 ⟨⟨l3,hq⟩,h1⟩=>.bind (below h1 (by omega)) fun x5 ⟨_,h5⟩=>?_
  have hT:VG x1.1:=⟨by omega,fun q hq'=>by have:=(hq q hq').1;omega⟩
  simp only [jY,zX]
  refine .ite (fun _=>?_) fun _=>.ite (fun _=>?_) fun _=>.ite (fun _=>?_) fun _=>.ite (fun _=>?_) fun _=>?_
  · exact .need (by omega) (.ret ⟨⟨by simp;omega,fun q hq'=>hT.2 q (List.mem_of_mem_take (by simpa using hq'))⟩,h5⟩)
  · refine .bind (.idx (by omega)) fun x9 h9=>.bind (aMD h5 (by decide) (by decide)) fun x10 ⟨_,h10⟩=>?_
    have:=hT.2 _ h9
    have:=(hq _ h9).1
    exact .need (by simp;omega) (.ret ⟨aE5 hT _ (by simp;omega),h10⟩)
  · refine .bind (P:=fun x=>VG x.1∧Cu b x.2.1) (.loop (fun s=>20 - ((s.1.getD 1 ⟨[]⟩).i6.length)) (fun s=>(s.1.length=3∧∀q∈s.1,q.i6.length≤13)∧Cu b s.2.1) ⟨⟨l3,fun q hq'=>by have:=(hq q hq').1;omega⟩,h5⟩ ?_) ?_
    · rintro⟨l,i1,h1⟩ ⟨⟨l3,hq⟩,hi1⟩
      simp only at l3 hq hi1
      simp only [IB,zY]
      have hx:idx l 1=some l[1]:=aV (k:=1) (by omega)
      have hm:=hq _ (List.getElem_mem (show 1 < l.length by omega))
      rw [hx]
      simp only [aE]
      refine .bind (below hi1 (by omega)) fun x ⟨hx2,hi2⟩=>.ite (fun q=>?_) (fun q=>?_)
      · have q':=of_decide_eq_true q
        rw [aO (by omega) (by omega)] at q'
        refine .need (by simp;omega) (.ret ?_)
        refine⟨⟨⟨by simp [l3],fun x hx=>?_⟩,hi2⟩,?_⟩
        · rcases List.mem_or_eq_of_mem_set hx with hx | hx
          · exact hq x hx
          · rw [hx];simp;omega
        · have e1:l.getD 1 ⟨[]⟩=l[1]:=by rw [List.getD_eq_getElem?_getD,List.getElem?_eq_getElem (by omega)];rfl
          have e2:(l.set (1:Int).toNat ⟨l[1].i6 ++ [⟨4,0,0,0⟩]⟩).getD 1 ⟨[]⟩=⟨l[1].i6 ++ [⟨4,0,0,0⟩]⟩:=by rw [List.getD_eq_getElem?_getD,show(1:Int).toNat=1 from rfl,List.getElem?_set_self (by omega)];rfl
          simp only [e1,e2]
          simp;omega
      · exact .ret ⟨⟨by (try simp only);omega,fun q hq'=>by have:=hq q hq';omega⟩,hi2⟩
    · rintro⟨l,i1,h1⟩ hx
      exact .ret hx
  · refine .bind (.idx (by omega)) fun x9 h9=>?_
    have:=(hq _ h9).1
    exact .need (by simp;omega) (.ret ⟨aE5 hT _ (by simp;omega),h5⟩)
  · exact .ret ⟨hT,h5⟩
theorem aW6{m:Int}(hm:m≤1000):yV (D9 ⟨b,i,h⟩ m) (fun x=>x.1.length≤4000∧Cu b x.2.1):=by
  unfold D9
  refine .bind (below hc (by omega)) fun x1 ⟨hx1,h1⟩=>?_
  refine .bind (P:=fun x=>x.1.length≤4000∧Cu b x.2.1) (.loop (fun s=>s.2.1.toNat) (fun s=>(0≤s.2.1∧s.1.length+4 * s.2.1≤4000)∧Cu b s.2.2.1) ⟨⟨hx1.1,by simp;omega⟩,h1⟩ ?_) fun x hx=>.ret hx
  rintro⟨l,n,i1,h1⟩ ⟨⟨n0,n1⟩,hi1⟩
  simp only at n0 n1 hi1
  simp only [LU]
  refine .ite (fun q=>?_) (fun q=>?_)
  · have q':=of_decide_eq_true q
    refine .bind (below hi1 (by omega)) fun x13 ⟨_,h13⟩=>.bind (below h13 (by omega)) fun x14 ⟨hx14,h14⟩=>?_
    rw [aO (by omega) (by omega)]
    refine .bind (P:=fun x=>(x.length:Int)≤l.length+4) (.loop (fun s=>s.2.toNat) (fun s=>0≤s.2∧(s.1.length:Int)+s.2≤l.length+4) ⟨by (try simp only);omega,by (try simp only);omega⟩ ?_) ?_
    · rintro⟨r,k⟩ ⟨k0,k1⟩
      simp only at k0 k1
      simp only [LR]
      refine .ite (fun q=>?_) (fun q=>?_)
      · have q2:=of_decide_eq_true q
        refine .need (by simp;omega) (.ret ?_)
        rw [aO (by omega) (by omega)]
        have e:(r ++ [x13.1]).length=r.length+1:=by simp
        exact⟨⟨by (try simp only);omega,by (try simp only);omega⟩,by (try simp only);omega⟩
      · exact .ret (by (try simp only);omega)
    · intro r hr
      simp only [LS,LQ]
      refine .ret ?_
      rw [aO (by omega) (by omega)]
      exact⟨⟨⟨by (try simp only);omega,by (try simp only);omega⟩,h14⟩,by (try simp only);omega⟩
  · exact .ret ⟨by (try simp only);omega,hi1⟩
end
theorem aKG{code:List UInt8}(hl:code.length≤1048576):yV (qH code) (fun x=>VG x.e9∧x.tL.length≤5000):=by
  unfold qH
  refine .bind (a0G hl) fun x1 h1=>.bind (aME h1 (by omega)) fun x2 ⟨⟨l3,hq⟩,h2⟩=>.bind (aW6 h2 (by omega)) fun x3 ⟨p,h3⟩=>.bind (below h3 (by omega)) fun x6 ⟨_,h6⟩=>?_
  have hT:VG x2.1:=⟨by omega,fun q hq'=>by have:=(hq q hq').1;omega⟩
  simp only [jX]
  refine .ite (fun _=>.bind (aRL h6) fun x7 ⟨h7,_⟩=>.ret ⟨h7,by (try simp only);omega⟩) fun _=>.ite (fun _=>.need (by simp;omega) (.ret ⟨hT,by simp;omega⟩)) fun _=>.ret ⟨hT,by (try simp only);omega⟩
theorem aY1{x:FY}(hx:VG x.e9)(hp:x.tL.length≤5000)(P:aG→Prop)(h0:∀t,LB t→t=x.e9→P (kM t))(hs:∀s w,C7 s→(0≤w∧w≤2)→P s→P (JD s w))(ht:LB x.e9) :
    yV (CB x) (fun s=>C7 s∧P s∧s.Log.length≤400):=by
  unfold CB
  rw [(W9 (t:=x.e9) (by have:=hx.1;omega) (fun q hq=>by have:=hx.2 q hq;omega)).2,aE,if_pos ht]
  have hj:(((kM x.e9).aX.length:Int) == 0)=false:=rfl
  rw [hj,if_neg (by simp)]
  refine .need (by split <;> omega) ?_
  have hN:((x.tL.take ((if 400 < (x.tL.length:Int) then (400:Int) else (x.tL.length:Int)).toNat)).drop 0).length≤400:=by
    rw [List.drop_zero,List.length_take];split <;> omega
  refine .bind (P:=fun s=>C7 s∧P s∧s.Log.length≤400) (.loop (fun s=>1000 - s.1.toNat) (fun s=>(0≤s.1∧s.1≤400)∧C7 s.2∧P s.2∧(s.2.Log.length:Int)≤s.1) ⟨⟨by simp,by simp⟩,aNJ ht,h0 _ ht rfl,by simp [kM]⟩ ?_) fun s h=>.ret h
  rintro⟨k,s⟩ ⟨⟨k0,k1⟩,h1,h2,h3⟩
  simp only at k0 k1 h1 h2 h3
  simp only [J5,tH]
  refine .ite (fun q=>?_) (fun q=>.ret ⟨h1,h2,by (try simp only);omega⟩)
  have q':=of_decide_eq_true q
  refine .bind (.idx ⟨k0,q'⟩) fun w _=>?_
  rw [kL,aE]
  refine .ite (fun hw=>?_) (fun hw=>?_)
  · have hw':=of_decide_eq_true hw
    obtain⟨e,o1,o2⟩:=aRI h1 (by omega) hw'
    rw [e,aE]
    refine .ret ?_
    rw [aO (by omega) (by omega)]
    exact⟨⟨⟨by (try simp only);omega,by (try simp only);omega⟩,o1,hs s w h1 hw' h2,by (try simp only);omega⟩,by (try simp only);omega⟩
  · refine .ret ?_
    rw [aO (by omega) (by omega)]
    exact⟨⟨⟨by (try simp only);omega,by (try simp only);omega⟩,h1,h2,by (try simp only);omega⟩,by (try simp only);omega⟩
theorem aRM{x:FY}(hx:VG x.e9):M0 x=some (decide (LB x.e9)):=by
  unfold M0
  rw [(W9 (t:=x.e9) (by have:=hx.1;omega) (fun q hq=>by have:=hx.2 q hq;omega)).1,aE]
  by_cases h:LB x.e9
  · rw [if_pos h,bC h];rfl
  · rw [if_neg h,bL h];rfl
end Go.Gv
end
noncomputable section
namespace Go.Gv
theorem aE6(b:aA)(w:Int)(s:Sub):(fX b w s).2.Kind=s.Kind:=by
  unfold fX TN LC NW sL nW VD AI
  simp only [apply_ite Prod.snd,apply_ite Sub.Kind,ite_self]
theorem aCQ{b:aA}{w:Int}{s:Sub}(h:s.Kind=1∨s.Kind=2∨s.Kind=4):(fX b w s).1.aC=b.aC:=by
  unfold fX
  rcases h with k | k | k
  · simp only [k,if_true]
    unfold TN LC
    simp only [apply_ite Prod.fst,apply_ite aA.aC,ite_self]
  · simp only [k]
    unfold NW
    simp [apply_ite Prod.fst,apply_ite aA.aC]
  · simp only [k]
    unfold nW
    simp [apply_ite Prod.fst,apply_ite aA.aC]
theorem wJ{c:aC}(hc:I1 c){w v:Int}(hw:0≤w∧w≤2)(hv:0≤v∧v≤2)(e:Int)(x:oE):bU ⟨e,c.cH.set w.toNat x⟩ v=if v=w then x else bU c v:=by
  have h3:=hc.2.1
  unfold bU
  simp only [List.getD_eq_getElem?_getD,List.getElem?_set]
  by_cases q:v=w
  · subst q;simp [show v.toNat < c.cH.length by omega]
  · rw [if_neg q,if_neg (by omega)]
def lY(j:bE):Prop:=j.eG=true∧(j.Op.Kind=2∨j.Op.Kind=5)∧j.Pc=0
def Adv(j:bE):Prop:=j.eG=true∧j.Op.Kind=4∧j.Pc=0
def JI(e:Int)(p:oE)(j:bE):Prop:=j.eG=true →
  (j.Op.Kind=1→j.Sub.Kind=1∨j.Sub.Kind=2)∧(j.Op.Kind=4→j.Pc=1→j.Sub.Kind=4) ∧
  (Adv j→j.Sub.Kind=3∧j.Sub.cV=false∧(j.Sub.Pc=0∨j.Sub.E≤e∧(j.Sub.Pc=1∧(0≤j.Sub.B∧j.Sub.B≤2)∨j.Sub.Pc=2∧j.Sub.B=3))) ∧
  (lY j→j.Sub.Kind=5∧j.Sub.cV=false∧(j.Sub.Pc=0∨j.Sub.Pc=1∧(0≤j.Sub.E∧j.Sub.E≤e)∨j.Sub.Pc=2∧p.aI=j.Sub.E))
def Calm(j:bE):Prop:=¬lY j∧¬Adv j∧(j.Op.Kind=1→j.Sub.Kind=1∨j.Sub.Kind=2)∧(j.Op.Kind=4→j.Pc=1→j.Sub.Kind=4)
theorem Calm.ji{j:bE}(h:Calm j)(e:Int)(p:oE):JI e p j:=fun _=>⟨h.2.2.1,h.2.2.2,fun q=>absurd q h.2.1,fun q=>absurd q h.1⟩
theorem jL{j:bE}(h1:j.Op.Kind≠1)(h2:j.Op.Kind≠2∧j.Op.Kind≠5∨j.Pc≠0)(h4:j.Op.Kind≠4∨j.Pc≠0∧(j.Pc=1→j.Sub.Kind=4)):Calm j:=
  ⟨fun q=>by have:=q.2;omega,fun q=>by have:=q.2;omega,fun q=>absurd q h1,fun q p=>by rcases h4 with h | h;exact absurd q h;exact h.2 p⟩
theorem aIN{j:bE}(h1:j.Op.Kind=1)(h2:j.Sub.Kind=1∨j.Sub.Kind=2):Calm j:=⟨fun q=>by have:=q.2.1;omega,fun q=>by have:=q.2.1;omega,fun _=>h2,fun q=>by omega⟩
def Ep(c:aC)(J:Int→bE):Prop:=(∀w,0≤w∧w≤2→JI c.aI (bU c w) (J w))∧∀p,0≤p∧p≤2→¬lY (J p)→(bU c p).On=true→(bU c p).cX=false→c.aI≤(bU c p).aI+1∧(c.aI=(bU c p).aI+1→∀a,0≤a∧a≤2→Adv (J a)→(J a).Sub.Pc≠0→(J a).Sub.E=c.aI→(J a).Sub.B≤p)
def LF(J:Int→bE)(w:Int)(j:bE):Int→bE:=fun v=>if v=w then j else J v
theorem fT(J:Int→bE)(w:Int)(j:bE):LF J w j w=j:=if_pos rfl
theorem eD(J:Int→bE){w v:Int}(j:bE)(h:v≠w):LF J w j v=J v:=if_neg h
noncomputable section
variable {c:aC} {J:Int→bE} (h:Ep c J)
include h
theorem Ep.congr{J':Int→bE}(e:∀v,0≤v∧v≤2→J' v=J v):Ep c J':=by
  refine⟨fun w hw=>by rw [e w hw];exact h.1 w hw,fun p hp hn h1 h2=>?_⟩
  rw [e p hp] at hn
  obtain⟨a1,a2⟩:=h.2 p hp hn h1 h2
  exact⟨a1,fun q a ha=>by rw [e a ha];exact a2 q a ha⟩
variable {w:Int} (hw:0≤w∧w≤2) {j:bE}
include hw
theorem Ep.step{c':aC}(he:c'.aI=c.aI)(hp:∀v,0≤v∧v≤2→v≠w→bU c' v=bU c v)(hj:JI c.aI (bU c' w) j)
    (h2:¬lY j→(bU c' w).On=true→(bU c' w).cX=false→c.aI≤(bU c' w).aI+1∧(c.aI=(bU c' w).aI+1→∀a,0≤a∧a≤2→a≠w→Adv (J a)→(J a).Sub.Pc≠0→(J a).Sub.E=c.aI→(J a).Sub.B≤w))
    (ha:Adv j→j.Sub.Pc=0∨j.Sub.B=0):Ep c' (LF J w j):=by
  constructor
  · intro v hv
    rw [he]
    by_cases q:v=w
    · subst q;rw [fT];exact hj
    · rw [eD _ _ q,hp v hv q];exact h.1 v hv
  · intro p hpr hn o1 o2
    rw [he]
    have hadv:∀a,0≤a∧a≤2→(∀q:a≠w,Adv (J a)→(J a).Sub.Pc≠0→(J a).Sub.E=c.aI→(J a).Sub.B≤p)→Adv (LF J w j a)→(LF J w j a).Sub.Pc≠0→(LF J w j a).Sub.E=c.aI→(LF J w j a).Sub.B≤p:=by
      intro a har hk
      by_cases q:a=w
      · subst q
        rw [fT]
        intro x1 x2 _
        rcases ha x1 with y | y
        · exact absurd y x2
        · omega
      · rw [eD _ _ q];exact hk q
    by_cases q:p=w
    · subst q
      rw [fT] at hn
      obtain⟨a1,a2⟩:=h2 hn o1 o2
      exact⟨a1,fun e a har=>hadv a har (fun q=>a2 e a har q)⟩
    · rw [eD _ _ q] at hn
      rw [hp p hpr q] at o1 o2 ⊢
      obtain⟨a1,a2⟩:=h.2 p hpr hn o1 o2
      exact⟨a1,fun e a har=>hadv a har (fun _=>a2 e a har)⟩
theorem Ep.still(hn:¬lY (J w))(hj:Calm j):Ep c (LF J w j):=
  h.step hw rfl (fun _ _ _=>rfl) (hj.ji _ _) (fun _ o1 o2=>by
    obtain⟨a1,a2⟩:=h.2 w hw hn o1 o2
    exact⟨a1,fun e a har _=>a2 e a har⟩) (fun q=>absurd q hj.2.1)
theorem Ep.aVC(hc:I1 c)(hn:¬lY (J w))(hj:Calm j):Ep (JC c w).1 (LF J w j):=by
  unfold JC
  by_cases q:(bU c w).On
  · rw [if_pos q]
    refine h.step hw rfl (fun v hv hvw=>by rw [wJ hc hw hv,if_neg hvw]) (hj.ji _ _) (fun _ o1=>?_) (fun q=>absurd q hj.2.1)
    rw [wJ hc hw hw,if_pos rfl] at o1
    cases o1
  · rw [if_neg q];exact h.still hw hn hj
theorem Ep.pin{b:aA}(hb:b.aC=c)(hc:I1 c)(hj:J w=j)(hP:lY j){fin:bE}(hf:Calm fin) :
    Ep (VD b w j.Sub).1.aC (LF J w (if (VD b w j.Sub).2.cV then fin else {j with Sub:=(VD b w j.Sub).2})):=by
  have hji:=h.1 w hw
  rw [hj] at hji
  have hk5:=hP.2.1
  obtain⟨k,d,hpc⟩:=(hji hP.1).2.2.2 hP
  have noadv:∀s:Sub,¬Adv {j with Sub:=s}:=fun s q=>by have:=q.2.1;simp only at this;omega
  have hP':∀s:Sub,lY {j with Sub:=s}:=fun s=>hP
  have mk:∀(s:Sub) (p:oE),(s.Kind=5∧s.cV=false∧(s.Pc=0∨s.Pc=1∧(0≤s.E∧s.E≤c.aI)∨s.Pc=2∧p.aI=s.E))→JI c.aI p {j with Sub:=s}:=fun s p hs _=>⟨fun q=>by simp only at q;omega,fun q=>by simp only at q;omega,fun q=>absurd q (noadv s),fun _=>hs⟩
  unfold VD
  rw [hb]
  rcases hpc with p0 | ⟨p1,e0,e1⟩ | ⟨p2,pe⟩
  · simp only [if_pos p0,d,aN,if_false,hb]
    exact h.step hw rfl (fun _ _ _=>rfl) (mk _ _ ⟨k,rfl,.inr (.inl ⟨rfl,hc.1.1,Int.le_refl _⟩)⟩) (fun q=>absurd (hP' _) q) (fun q=>absurd q (noadv _))
  · have hpt:NV c w j.Sub.E=(⟨c.aI,c.cH.set w.toNat ⟨true,j.Sub.E,false,0⟩⟩,true):=by unfold NV;rw [if_pos ⟨e0,e1⟩]
    simp only [if_neg (show ¬j.Sub.Pc=0 by omega),if_pos p1,hpt,if_true,d,aN,if_false]
    exact h.step hw rfl (fun v hv hvw=>by rw [wJ hc hw hv,if_neg hvw]) (mk _ _ ⟨k,rfl,.inr (.inr ⟨rfl,by rw [wJ hc hw hw,if_pos rfl]⟩)⟩) (fun q=>absurd (hP' _) q) (fun q=>absurd q (noadv _))
  · simp only [if_neg (show ¬j.Sub.Pc=0 by omega),if_neg (show ¬j.Sub.Pc=1 by omega),if_pos p2]
    by_cases q:c.aI=j.Sub.E
    · simp only [if_pos q,AI,if_true,hb]
      exact h.step hw rfl (fun _ _ _=>rfl) (hf.ji _ _) (fun _ _ _=>⟨by omega,fun e=>by omega⟩) (fun q=>absurd q hf.2.1)
    · simp only [if_neg q,d,aN,if_false,hb]
      exact h.step hw rfl (fun _ _ _=>rfl) (mk _ _ ⟨k,rfl,.inl rfl⟩) (fun q=>absurd (hP' _) q) (fun q=>absurd q (noadv _))
omit h hw in
theorem aIO(hc:I1 c){q:Int}(hq:0≤q∧q≤2)(e:Int):(AZ c q e).1.aI=c.aI∧(∀v,0≤v∧v≤2→(bU (AZ c q e).1 v).On=(bU c v).On∧(bU (AZ c q e).1 v).aI=(bU c v).aI∧((bU (AZ c q e).1 v).cX=false→(bU c v).cX=false)) ∧
    ((AZ c q e).2=true→(bU (AZ c q e).1 q).On=true→(bU (AZ c q e).1 q).cX=false→(bU c q).aI=e):=by
  unfold AZ
  by_cases k1:(bU c q).On=false∨(bU c q).cX=true∨(bU c q).aI=e
  · rw [if_pos k1]
    refine⟨rfl,fun v hv=>⟨rfl,rfl,id⟩,fun _ o1 o2=>?_⟩
    rcases k1 with k | k | k
    · rw [k] at o1;cases o1
    · rw [k] at o2;cases o2
    · exact k
  · rw [if_neg k1]
    by_cases k2:(bU c q).Seen=2
    · rw [if_pos k2]
      refine⟨rfl,fun v hv=>?_,fun _ _ o2=>?_⟩
      · rw [wJ hc hq hv]
        by_cases z:v=q
        · subst z;rw [if_pos rfl];exact⟨rfl,rfl,fun x=>by cases x⟩
        · rw [if_neg z];exact⟨rfl,rfl,id⟩
      · rw [wJ hc hq hq,if_pos rfl] at o2;cases o2
    · rw [if_neg k2]
      refine⟨rfl,fun v hv=>?_,fun x=>by cases x⟩
      rw [wJ hc hq hv]
      by_cases z:v=q
      · subst z;rw [if_pos rfl];exact⟨rfl,rfl,id⟩
      · rw [if_neg z];exact⟨rfl,rfl,id⟩
theorem Ep.advance{b:aA}(hb:b.aC=c)(hc:I1 c)(hj:J w=j)(hA:Adv j){fin:bE}(hf:Calm fin) :
    Ep (sL b j.Sub).1.aC (LF J w (if (sL b j.Sub).2.cV then fin else {j with Sub:=(sL b j.Sub).2})):=by
  have hji:=h.1 w hw
  rw [hj] at hji
  have hk4:=hA.2.1
  obtain⟨k,d,hpc⟩:=(hji hA.1).2.2.1 hA
  have nopin:∀s:Sub,¬lY {j with Sub:=s}:=fun s q=>by have:=q.2.1;simp only at this;omega
  have nopw:¬lY (J w):=by rw [hj];exact nopin j.Sub
  have mk:∀(s:Sub) (p:oE) (e:Int),(s.Kind=3∧s.cV=false∧(s.Pc=0∨s.E≤e∧(s.Pc=1∧(0≤s.B∧s.B≤2)∨s.Pc=2∧s.B=3)))→JI e p {j with Sub:=s}:=fun s p e hs _=>⟨fun q=>by simp only at q;omega,fun _ q=>by simp only at q;have:=hA.2.2;omega,fun _=>hs,fun q=>absurd q (nopin s)⟩
  unfold sL
  rw [hb]
  rcases hpc with p0 | ⟨el,⟨p1,B0,B2⟩ | ⟨p2,B3⟩⟩
  · simp only [if_pos p0,d,aN,if_false,hb]
    refine h.step hw rfl (fun _ _ _=>rfl) (mk _ _ _ ⟨k,rfl,.inr ⟨Int.le_refl _,.inl ⟨rfl,by simp,by simp⟩⟩⟩) (fun _ o1 o2=>?_) (fun _=>.inr rfl)
    obtain⟨a1,a2⟩:=h.2 w hw nopw o1 o2
    exact⟨a1,fun e a har _=>a2 e a har⟩
  · obtain ⟨le, lv, lq⟩ := aIO hc (q := j.Sub.B) ⟨B0, B2⟩ j.Sub.E
    simp only [if_neg (show ¬j.Sub.Pc=0 by omega),if_pos p1,if_pos (show 0≤j.Sub.B∧j.Sub.B≤2 from ⟨B0,B2⟩)]
    have others:∀v,0≤v∧v≤2→JI (AZ c j.Sub.B j.Sub.E).1.aI (bU (AZ c j.Sub.B j.Sub.E).1 v) (J v):=fun v hv=>by
      have:=h.1 v hv
      rw [le]
      intro hbv
      obtain⟨x1,x2,x3,x4⟩:=this hbv
      exact⟨x1,x2,x3,fun q=>by rw [(lv v hv).2.1];exact x4 q⟩
    cases hl:(AZ c j.Sub.B j.Sub.E).2
    · simp only [aN,if_false,AI,if_true]
      refine⟨fun v hv=>?_,fun p hp hn o1 o2=>?_⟩
      · by_cases q:v=w
        · subst q;rw [fT];exact hf.ji _ _
        · rw [eD _ _ q];exact others v hv
      · have hn':¬lY (J p):=by
          by_cases q:p=w
          · rw [q];exact nopw
          · rw [eD _ _ q] at hn;exact hn
        obtain⟨y1,y2,y3⟩:=lv p hp
        rw [y1] at o1
        obtain⟨a1,a2⟩:=h.2 p hp hn' o1 (y3 o2)
        rw [le,y2]
        refine⟨a1,fun e a har=>?_⟩
        by_cases q:a=w
        · subst q;rw [fT];exact fun q=>absurd q hf.2.1
        · rw [eD _ _ q];exact a2 e a har
    · simp only [if_true,d,aN,if_false]
      refine⟨fun v hv=>?_,fun p hp hn o1 o2=>?_⟩
      · by_cases q:v=w
        · subst q
          rw [fT,le]
          refine mk _ _ _ ⟨k,rfl,.inr ⟨el,?_⟩⟩
          by_cases z:j.Sub.B=2
          · exact .inr ⟨by simp only [if_pos z],by simp only;omega⟩
          · exact .inl ⟨by simp only [if_neg z],by simp only;omega,by simp only;omega⟩
        · rw [eD _ _ q];exact others v hv
      · have hn':¬lY (J p):=by
          by_cases q:p=w
          · rw [q];exact nopw
          · rw [eD _ _ q] at hn;exact hn
        obtain⟨y1,y2,y3⟩:=lv p hp
        have o1':=o1
        rw [y1] at o1'
        obtain⟨a1,a2⟩:=h.2 p hp hn' o1' (y3 o2)
        rw [le,y2]
        refine⟨a1,fun e a har=>?_⟩
        by_cases q:a=w
        · subst q
          rw [fT]
          intro _ _ hE
          simp only at hE ⊢
          have hB:=a2 e a har (by rw [hj];exact hA) (by rw [hj];omega) (by rw [hj];exact hE)
          rw [hj] at hB
          by_cases z:j.Sub.B=p
          · rw [←z] at o1 o2
            have:=lq hl o1 o2
            rw [z] at this
            omega
          · omega
        · rw [eD _ _ q];exact a2 e a har
  · simp only [if_neg (show ¬j.Sub.Pc=0 by omega),if_neg (show ¬j.Sub.Pc=1 by omega),if_pos p2,AI,if_true]
    unfold W8
    by_cases q:c.aI=j.Sub.E∧j.Sub.E≠100000
    · simp only [if_pos q]
      refine⟨fun v hv=>?_,fun p hp hn o1 o2=>?_⟩
      · by_cases z:v=w
        · subst z;rw [fT];exact hf.ji _ _
        · rw [eD _ _ z]
          intro hbv
          obtain⟨x1,x2,x3,x4⟩:=h.1 v hv hbv
          refine⟨x1,x2,fun q=>?_,fun q=>?_⟩
          · obtain⟨z1,z2,z3⟩:=x3 q
            exact⟨z1,z2,z3.imp id fun z4=>⟨by simp only;omega,z4.2⟩⟩
          · obtain⟨z1,z2,z3⟩:=x4 q
            exact⟨z1,z2,z3.imp id fun z4=>z4.imp (fun z5=>⟨z5.1,z5.2.1,by simp only;omega⟩) id⟩
      · have hn':¬lY (J p):=by
          by_cases z:p=w
          · rw [z];exact nopw
          · rw [eD _ _ z] at hn;exact hn
        have o1':(bU c p).On=true:=o1
        have o2':(bU c p).cX=false:=o2
        obtain⟨a1,a2⟩:=h.2 p hp hn' o1' o2'
        have hpk:=(QX hc hp).1.2
        have hne:c.aI≠(bU c p).aI+1:=fun e=>by
          have:=a2 e w hw (by rw [hj];exact hA) (by rw [hj];omega) (by rw [hj];exact q.1.symm)
          rw [hj] at this;omega
        have hep:bU ⟨j.Sub.E+1,c.cH⟩ p=bU c p:=rfl
        rw [hep]
        refine⟨by simp only;omega,fun e a har hA' hp' hE'=>?_⟩
        exfalso
        by_cases z:a=w
        · subst z;rw [fT] at hA';exact hf.2.1 hA'
        · rw [eD _ _ z] at hA' hp' hE'
          obtain⟨_,_,z3⟩:=(h.1 a har hA'.1).2.2.1 hA'
          rcases z3 with z3 | z3
          · exact hp' z3
          · simp only at hE';omega
    · simp only [if_neg q]
      exact h.still hw nopw hf
end
end Go.Gv
end
noncomputable section
namespace Go.Gv
theorem RO{s:aG}(h3:s.aX.length=3){w v:Int}(hw:0≤w∧w≤2)(hv:0≤v∧v≤2)(b:aA)(c:List Int)(j:bE)(t:List Queue)(l:List Ev)(n:Int):aL ⟨b,c,s.aX.set w.toNat j,t,l,n⟩ v=LF (aL s) w j v:=by
  unfold aL LF
  simp only [List.getD_eq_getElem?_getD,List.getElem?_set]
  by_cases q:v=w
  · subst q;simp [show v.toNat < s.aX.length by omega]
  · rw [if_neg q,if_neg (by omega)]
noncomputable section
variable (s:aG) (w:Int) (j:bE)
theorem aY2{c:Prop}[Decidable c]{x y:Int}(hx:x=1∨x=2)(hy:y=1∨y=2):(if c then x else y)=1∨(if c then x else y)=2:=by split <;> assumption
theorem aNP(h:j.Sub.Kind=1∨j.Sub.Kind=2):(WT s w j).b.aC=s.aA.aC∧(WT s w j).j.Op=j.Op∧((WT s w j).j.Sub.Kind=1∨(WT s w j).j.Sub.Kind=2):=by
  have hc:=aCQ (b:=s.aA) (w:=w) (s:=j.Sub) (by omega)
  have hk:=aE6 s.aA w j.Sub
  unfold WT dN O4
  refine⟨?_,?_,?_⟩
  · simp only [apply_ite JR.b,apply_ite aA.aC,hc,ite_self]
  · simp only [apply_ite JR.j,apply_ite bE.Op,ite_self]
  · simp only [apply_ite JR.j,apply_ite bE.Sub,apply_ite Sub.Kind,hk]
    repeat' (first | exact h | exact .inr rfl | apply aY2)
theorem aW7{c:Prop}[Decidable c]{x y:Int}(hx:x≠0)(hy:y≠0):(if c then x else y)≠0:=by split <;> assumption
theorem aNQ(h0:j.Pc≠0)(h4:j.Pc≠4):(VF s w j).b.aC=s.aA.aC∧(VF s w j).j.Op=j.Op∧(VF s w j).j.Pc≠0:=by
  unfold VF pY dN
  rw [if_neg h0]
  simp only [if_neg h4]
  refine⟨?_,?_,?_⟩
  · simp only [apply_ite JR.b,apply_ite aA.aC,ite_self]
  · simp only [apply_ite JR.j,apply_ite bE.Op,ite_self]
  · simp only [apply_ite JR.j,apply_ite bE.Pc]
    repeat' (first | decide | apply aW7)
theorem aNR:(aCO s w j).b.aC=s.aA.aC∧(aCO s w j).j.Op=j.Op:=by
  unfold aCO dN
  exact⟨by simp only [apply_ite JR.b,apply_ite aA.aC,ite_self],by simp only [apply_ite JR.j,apply_ite bE.Op,ite_self]⟩
theorem aKH:(Q0 s w j).b.aC=s.aA.aC∧(Q0 s w j).j.Op=j.Op:=by
  unfold Q0 pY dN
  exact⟨by simp only [apply_ite JR.b,apply_ite aA.aC,ite_self],by simp only [apply_ite JR.j,apply_ite bE.Op,ite_self]⟩
end
noncomputable section
variable {s:aG} (hs:C7 s) {w:Int} (hw:0≤w∧w≤2) (h:Ep s.aA.aC (aL s))
include hs hw h
theorem aW8{j:bE}(hj:aL s w=j)(hb:j.eG=true)(hk:1≤j.Op.Kind∧j.Op.Kind≤7)(hp9:j.Pc≠9):Ep (aNM s w j).b.aC (LF (aL s) w (aNM s w j).j):=by
  have hc:=hs.1.1.2.1
  have hji:=h.1 w hw
  rw [hj] at hji
  obtain⟨i1,i2,i3,i4⟩:=hji hb
  have npw:¬lY j→¬lY (aL s w):=fun q=>by rw [hj];exact q
  unfold aNM
  by_cases k1:j.Op.Kind=1
  · rw [if_pos k1]
    obtain⟨e1,e2,e3⟩:=aNP s w j (i1 k1)
    rw [e1]
    exact h.still hw (npw fun q=>by have:=q.2.1;omega) (aIN (by rw [e2];exact k1) e3)
  rw [if_neg k1]
  by_cases k2:j.Op.Kind=2
  · rw [if_pos k2]
    by_cases p0:j.Pc=0
    · have hP:lY j:=⟨hb,.inl k2,p0⟩
      obtain⟨k,d,_⟩:=i4 hP
      have es:fX s.aA w j.Sub=VD s.aA w j.Sub:=by unfold fX;simp [k,d]
      have:=h.pin hw (b:=s.aA) rfl hc hj hP (fin:=dN {j with Sub:=(fX s.aA w j.Sub).2} 1 0) (jL (by simp only [dN];omega) (.inr (by simp [dN])) (.inl (by simp only [dN];omega)))
      unfold VF
      rw [if_pos p0]
      simp only [es] at this ⊢
      exact this
    · by_cases p4:j.Pc=4
      · unfold VF
        simp only [if_neg p0,if_neg (show ¬j.Pc=1 by omega),if_neg (show ¬j.Pc=2 by omega),if_neg (show ¬j.Pc=3 by omega),if_pos p4]
        exact h.aVC hw hc (npw fun q=>p0 q.2.2) (jL (by simp only [dN];omega) (.inr (by simp [dN])) (.inl (by simp only [dN];omega)))
      · obtain⟨e1,e2,e3⟩:=aNQ s w j p0 p4
        rw [e1]
        exact h.still hw (npw fun q=>p0 q.2.2) (jL (by rw [e2];omega) (.inr e3) (.inl (by rw [e2];omega)))
  rw [if_neg k2]
  by_cases k3:j.Op.Kind=3
  · rw [if_pos k3]
    obtain⟨e1,e2⟩:=aNR s w j
    rw [e1]
    exact h.still hw (npw fun q=>by have:=q.2.1;omega) (jL (by rw [e2];omega) (.inl (by rw [e2];omega)) (.inl (by rw [e2];omega)))
  rw [if_neg k3]
  by_cases k7:j.Op.Kind=7
  · rw [if_pos k7]
    obtain⟨e1,e2⟩:=aKH s w j
    rw [e1]
    exact h.still hw (npw fun q=>by have:=q.2.1;omega) (jL (by rw [e2];omega) (.inl (by rw [e2];omega)) (.inl (by rw [e2];omega)))
  rw [if_neg k7]
  unfold NX
  by_cases k6:j.Op.Kind=6
  · rw [if_pos k6]
    by_cases p0:j.Pc=0
    · rw [if_pos p0]
      exact h.aVC hw hc (npw fun q=>by have:=q.2.1;omega) (jL (by simp only [dN];omega) (.inr (by simp [dN])) (.inl (by simp only [dN];omega)))
    · rw [if_neg p0]
      exact h.still hw (npw fun q=>p0 q.2.2) (jL (by simp only [dN];omega) (.inr (by simp [dN])) (.inl (by simp only [dN];omega)))
  rw [if_neg k6]
  by_cases k5:j.Op.Kind=5
  · by_cases p0:j.Pc=0
    · have hP:lY j:=⟨hb,.inr k5,p0⟩
      obtain⟨k,d,_⟩:=i4 hP
      have es:fX s.aA w j.Sub=VD s.aA w j.Sub:=by unfold fX;simp [k,d]
      have:=h.pin hw (b:=s.aA) rfl hc hj hP (fin:=dN {j with Sub:=(fX s.aA w j.Sub).2} 9 (fX s.aA w j.Sub).2.Code) (jL (by simp only [dN];omega) (.inr (by simp [dN])) (.inl (by simp only [dN];omega)))
      rw [if_pos (.inl p0)]
      simp only [es,if_pos k5] at this ⊢
      exact this
    · rw [if_neg (fun q=>q.elim p0 fun q=>q.2 k5)]
      exact h.still hw (npw fun q=>p0 q.2.2) (jL (by simp only [dN];omega) (.inr (by simp [dN])) (.inl (by simp only [dN];omega)))
  have k4:j.Op.Kind=4:=by omega
  have np:¬lY (aL s w):=npw fun q=>by have:=q.2.1;omega
  by_cases p0:j.Pc=0
  · have hA:Adv j:=⟨hb,k4,p0⟩
    obtain⟨k,d,_⟩:=i3 hA
    have es:fX s.aA w j.Sub=sL s.aA j.Sub:=by unfold fX;simp [k,d]
    have:=h.advance hw (b:=s.aA) rfl hc hj hA (fin:=dN {j with Sub:=O4 4 0} 1 0) (jL (by simp only [dN];omega) (.inr (by simp [dN])) (.inr ⟨by simp [dN],fun _=>rfl⟩))
    rw [if_pos (.inl p0)]
    simp only [es,if_neg k5,if_pos p0] at this ⊢
    exact this
  by_cases p1:j.Pc=1
  · rw [if_pos (.inr ⟨p1,k5⟩)]
    have hk:=i2 k4 p1
    have hcl:=aCQ (b:=s.aA) (w:=w) (s:=j.Sub) (by omega)
    have hkk:=aE6 s.aA w j.Sub
    simp only [hcl,if_neg k5,if_neg p0]
    refine h.still hw np ?_
    split
    · exact jL (by simp only [dN];omega) (.inr (by simp [dN])) (.inr ⟨by simp [dN],fun q=>by simp [dN] at q⟩)
    · exact jL (by simp only;omega) (.inr p0) (.inr ⟨p0,fun _=>by simp only [hkk];exact hk⟩)
  · rw [if_neg (fun q=>q.elim p0 fun q=>p1 q.1)]
    exact h.still hw np (jL (by simp only [dN];omega) (.inr (by simp [dN])) (.inr ⟨by simp [dN],fun q=>by simp [dN] at q⟩))
theorem aUD:Ep (JD s w).aA.aC (aL (JD s w)):=by
  have h3:=hs.2.2.1
  have hjk:ZV (aL s w):=by
    have h:=pZ hs hw
    rw [fP hw.1 (by omega)] at h
    injection h with h
    rw [←h];exact hs.2.2.2.2.2.2 _ (List.getElem_mem _)
  unfold JD
  cases hb:(aL s w).eG with
  | false =>
    rw [if_pos rfl]
    have np:¬lY (aL s w):=fun q=>by have:=q.1;rw [hb] at this;cases this
    unfold aCP
    cases ho:SR s.e9 w with
    | nil=>exact h
    | cons o r =>
      simp only
      by_cases s0:s.aK=1000000
      · rw [if_pos s0];exact h
      rw [if_neg s0]
      refine Ep.congr ?_ (fun v hv=>RO h3 hw hv _ _ _ _ _ _)
      simp only
      unfold AK
      by_cases k1:o.Kind=1
      · rw [if_pos k1]
        exact h.still hw np (aIN k1 (.inl rfl))
      rw [if_neg k1]
      by_cases k2:o.Kind=2∨o.Kind=5
      · rw [if_pos k2]
        cases hon:(bU s.aA.aC w).On
        · simp only [aN,if_false]
          refine h.step hw rfl (fun _ _ _=>rfl) (fun _=>⟨fun q=>absurd q k1,fun q=>by simp only at q;omega,fun q=>by have:=q.2.1;simp only at this;omega,fun _=>⟨rfl,rfl,.inl rfl⟩⟩) (fun _ o1=>?_) (fun q=>by have:=q.2.1;simp only at this;omega)
          rw [hon] at o1;cases o1
        · simp only [if_true]
          exact h.still hw np (jL k1 (.inr (by simp)) (.inl (by simp only;omega)))
      rw [if_neg k2]
      by_cases k4:o.Kind=4
      · rw [if_pos k4]
        refine h.step hw rfl (fun _ _ _=>rfl) (fun _=>⟨fun q=>absurd q k1,fun _ q=>by simp at q,fun _=>⟨rfl,rfl,.inl rfl⟩,fun q=>by have:=q.2.1;simp only at this;omega⟩) (fun _ o1 o2=>?_) (fun _=>.inl rfl)
        obtain⟨a1,a2⟩:=h.2 w hw np o1 o2
        exact⟨a1,fun e a har _=>a2 e a har⟩
      · rw [if_neg k4]
        exact h.still hw np (jL k1 (.inl (by simp only;omega)) (.inl k4))
  | true =>
    rw [if_neg (by simp)]
    by_cases p9:(aL s w).Pc=9
    · rw [if_pos p9]
      refine Ep.congr ?_ (fun v hv=>RO h3 hw hv _ _ _ _ _ _)
      exact h.still hw (fun q=>by have:=q.2.2;omega) (jL (by decide) (.inl (by decide)) (.inl (by decide)))
    · rw [if_neg p9]
      refine Ep.congr ?_ (fun v hv=>RO h3 hw hv _ _ _ _ _ _)
      exact aW8 hs hw h rfl hb ((yU hb).1 hjk).1.1 p9
end
theorem ep0(t:List Queue):Ep (kM t).aA.aC (aL (kM t)):=by
  have hj:∀w:Int,aL (kM t) w=I9:=fun w=>by
    unfold aL kM
    simp only [List.getD_eq_getElem?_getD,List.getElem?_replicate]
    split <;> rfl
  have hp:∀w:Int,bU (kM t).aA.aC w=⟨false,0,false,0⟩:=fun w=>by
    unfold bU kM aCM
    simp only [List.getD_eq_getElem?_getD,List.getElem?_replicate]
    split <;> rfl
  exact⟨fun w _ hb=>by rw [hj] at hb;simp [I9] at hb,fun p _ _ o1=>by rw [hp] at o1;simp at o1⟩
def aRN(s:aG)(k:Nat):Prop:=(bU s.aA.aC k).On=true∧(aL s k).eG=false
instance (s:aG) (k:Nat):Decidable (aRN s k):=by unfold aRN;infer_instance
theorem SS{l:List Int}(hl:l.length≤1000000000):kE l l=some true:=by
  unfold kE
  rw [if_neg (by simp)]
  have key:loop (pO l l) 0=some (Out.brk ()):=iY (f:=pO l l) l.length (fun k=>(k:Int)) _ (fun k hk=>by
    simp only [pO]
    rw [if_pos (by simp;omega),aV hk]
    simp only [aE,bne_self_eq_false,aN,if_false]
    rw [aO (by omega) (by omega)];rfl) (by simp [pO])
  rw [key];rfl
end Go.Gv
end
noncomputable section
namespace Go.Gv
def Hk(h:aD):Prop:=h.Bytes.length=384∧h.Class.length=6
def Wk(m:Mem):Prop:=Hk m.aD∧m.aB.Global.length=3∧m.aB.Own.length=9∧(dC m.aB).length≤24
theorem mD.wk{m:Mem}(hm:mD m):Wk m:=by obtain⟨a,b,c,d,e,_⟩:=mD.facts hm;exact⟨⟨d,e⟩,b,c,a⟩
theorem Wk.small{m:Mem}(h:Wk m):wV m:=by obtain⟨⟨a,b⟩,c,d,e⟩:=h;exact⟨by omega,by omega,by omega,by omega,by omega⟩
theorem Wk.aVD{m:Mem}(h:Wk m):AE m=some (decide (mD m)):=by
  obtain⟨⟨a,b⟩,c,d,e⟩:=h
  exact E5 (by rw [a];simp [maxLen]) (by omega)
noncomputable section
variable {b:List UInt8} {i h:Int} (hc:Cu b i)
include hc
omit hc in
theorem Hk.aVD{h:aD}(hh:Hk h):FG h=some (decide (RU h)):=QL (by rw [hh.1];simp [maxLen])
end
end Go.Gv
end
noncomputable section
namespace Go.Gv
noncomputable section
variable {b:List UInt8} {i h:Int} (hc:Cu b i)
include hc
def Rk(l:List bA):Prop:=l.length=3∧(bH l).length≤24
omit hc in
theorem Rk.rows{l:List bA}(hl:Rk l):∀s∈l,s.Rows.length≤24:=fun s hs=>by have:=MJ hs;have:=hl.2;omega
end
end Go.Gv
end
noncomputable section
namespace Go.Gv
def aY3(c:aC)(k:Nat):Prop:=((bU c k).On=true∧(bU c k).cX=false)∧(bU c k).aI < c.aI
instance (c:aC) (k:Nat):Decidable (aY3 c k):=by unfold aY3;infer_instance
def aY4(c:aC)(k:Nat):Prop:=(bU c k).On=true∧(bU c k).cX=false
instance (c:aC) (k:Nat):Decidable (aY4 c k):=by unfold aY4;infer_instance
end Go.Gv
end
noncomputable section
namespace Go.Gv
def Aft{α:Type}(o:Option α)(Q:α→Prop):Prop:=∀x,o=some x→Q x
namespace Aft
variable {α β:Type} {Q:α→Prop}
theorem ret{x:α}(h:Q x):Aft (some x) Q:=fun _ e=>by injection e with e;rw [←e];exact h
theorem bind{o:Option β}{f:β→Option α}(h:∀x,o=some x→Aft (f x) Q):Aft (o.bind f) Q:=fun y e=>by
  cases ho:o with
  | none=>rw [ho] at e;cases e
  | some x=>rw [ho] at e;exact h x ho y e
theorem ite{c:Prop}[Decidable c]{a b:Option α}(h1:Aft a Q)(h2:Aft b Q):Aft (if c then a else b) Q:=by
  split
  · exact h1
  · exact h2
theorem need{p:Prop}[Decidable p]{k:Option α}(h:p→Aft k Q):Aft (Gv.need p k) Q:=fun y e=>by
  unfold Gv.need at e
  split at e
  · rename_i q;exact h q y e
  · cases e
end Aft
noncomputable section
variable (s:aG) (w:Int) (j:bE)
end
end Go.Gv
end
noncomputable section
set_option maxRecDepth 20000
namespace Go.Gv
def aMF(s:aG):Prop:=(∀j∈s.aX,j.eG=false)∧∀q∈s.e9,q.i6=[]
instance (s:aG):Decidable (aMF s):=by unfold aMF;infer_instance
end Go.Gv
end
noncomputable section
set_option maxRecDepth 20000
namespace Go.Gv
def aY5:dT:=⟨4,0,0,0⟩
def aY6(n k:Nat):List Queue:=List.replicate k ⟨List.replicate n aY5⟩++List.replicate (3 - k) ⟨[]⟩
theorem aMF.todo{s:aG}(hs:C7 s)(h:aMF s):s.e9=aY6 0 3:=by
  apply List.ext_getElem
  · rw [hs.2.2.2.1.1];rfl
  · intro i h1 h2
    have:=h.2 _ (List.getElem_mem h1)
    have e:(aY6 0 3)[i]=⟨[]⟩:=by
      have h3:i < 3:=h2
      rcases(by omega:i=0∨i=1∨i=2) with rfl | rfl | rfl <;> rfl
    rw [e]
    cases hq:s.e9[i];rw [hq] at this;simp only at this;rw [this]
end Go.Gv
end
noncomputable section
namespace Go.Gv
theorem aCR{m:Mem}(hm:mD m){w h:Int}(hw:0≤w∧w≤2)(hv:g7 m h):(∀t,aW (DA m w h).aD t=aW m.aD t)∧(∀t,0≤aW m.aD t→hY (DA m w h).aD t=if t=h % 32 then h / 32+1 else hY m.aD t) ∧
    (∀t,t≠h % 32→(t∈dC (DA m w h).aB↔t∈dC m.aB))∧eM (DA m w h) (h % 32)≠3:=by
  obtain⟨hcnt,h3,h9,h1,h2,hsm,hcp,hlo,hsG,hsO⟩:=mD.facts hm
  have hcl:=g8 hv.2.1
  have hc2:0≤aW m.aD (h % 32)∧aW m.aD (h % 32)≤2:=by
    obtain⟨_,q,e⟩:=oZ hcl
    rw [e];exact gZ.1 (by omega)
  have hg6:1≤h / 32∧h / 32≤6:=by have:=hv.1;unfold jN at this;omega
  obtain⟨_,hg⟩:=RU.aQZ hm.1.1 hcl (g:=h / 32+1) (by omega)
  have hh:(DA m w h).aD=⟨WN m.aD.Bytes (eA (h % 32) (aW m.aD (h % 32))).toNat (h / 32+1),m.aD.Class⟩:=by
    unfold DA;simp only [apply_ite Mem.aD,ite_self]
  have kx:(w * 3+aW m.aD (h % 32)).toNat < m.aB.Own.length:=by omega
  have ky:(aW m.aD (h % 32)).toNat < m.aB.Global.length:=by omega
  have hl:∀t,t∈dC (DA m w h).aB↔t∈dC m.aB∨(h / 32+1≤6∧t=h % 32):=fun t=>by
    unfold DA dC
    by_cases q:h / 32+1≤6
    · rw [if_pos q]
      split
      · rw [←dD kx]
        simp only [List.mem_append,C5 kx,List.mem_singleton,q,true_and]
        constructor
        · rintro(a | a | a)
          · exact .inl (.inl a)
          · exact .inl (.inr a)
          · exact .inr a
        · rintro((a | a) | a)
          · exact .inl a
          · exact .inr (.inl a)
          · exact .inr (.inr a)
      · rw [←dD ky]
        simp only [List.mem_append,C5 ky,List.mem_singleton,q,true_and]
        constructor
        · rintro((a | a) | a)
          · exact .inl (.inl a)
          · exact .inr a
          · exact .inl (.inr a)
        · rintro((a | a) | a)
          · exact .inl (.inl a)
          · exact .inr a
          · exact .inl (.inr a)
    · rw [if_neg q]
      simp only [List.mem_append,q,false_and,or_false]
  refine⟨fun t=>by rw [hh];rfl,fun t ht=>by rw [hh];exact hg t ht,fun t ht=>by rw [hl];exact⟨fun x=>x.elim id fun y=>absurd y.2 ht,.inl⟩,fun hu=>?_⟩
  have hu':=gQ.1 hu
  have e1:hY (DA m w h).aD (h % 32)=h / 32+1:=by rw [hh,hg _ hcl,if_pos rfl]
  rw [e1] at hu'
  exact hu'.2.1 ((hl _).2 (.inr ⟨hu'.2.2,rfl⟩))
theorem aKI{m:Mem}(hm:mD m){w h:Int}(hw:0≤w∧w≤2)(hv:g7 m h){t:Int}(ht:t≠h % 32):eM (DA m w h) t=eM m t:=by
  obtain⟨a,b,c,_⟩:=aCR hm hw hv
  by_cases q:0≤aW m.aD t
  · exact U5 (a t) (by rw [b t q,if_neg ht]) (c t ht)
  · have e:aW (DA m w h).aD t=aW m.aD t:=a t
    unfold eM
    rw [e,if_pos (by omega),if_pos (by omega)]
def aW9(z:List Int)(h:Int):Prop:=∀v:Int,0≤v∧v≤2→pX z v≠h
def aY7(e:Int)(z:List Int)(r:cW):Prop:=C9 r e∧aW9 z r.Handle
def aRO(m:Mem)(r:cW):Prop:=0≤aW m.aD (r.Handle % 32)∧r.Handle / 32 < hY m.aD (r.Handle % 32)
theorem aRO.not{m:Mem}{r:cW}(h:aRO m r):¬g7 m r.Handle:=fun l=>by have:=l.2.2;have:=h.2;omega
structure Gc (w:Int) (b b':aA) (row out:Int):Prop where
  kept:∀j:Nat,(j:Int) < row→∀hj:j < (cY b'.aP w).length,¬aY7 b.aC.aI b.nA (cY b'.aP w)[j]
  len:((cY b'.aP w).length:Int)+out=(cY b.aP w).length
  flat:((bH b'.aP).length:Int)+out=(bH b.aP).length
  gone:∀r∈cY b.aP w,r∈cY b'.aP w∨aRO b'.Mem r
  used:∀i:Nat,i < 24→(aRJ b' i=4↔aRJ b i=4)
  cls:∀t,aW b'.Mem.aD t=aW b.Mem.aD t
  pos:0≤out
theorem aIP{l:List cW}{j:Nat}(h:j < l.length):GI l (j:Int)=l[j]:=by
  have:=QY (l:=l) (k:=(j:Int)) (by omega)
  rw [aV h] at this
  injection this with this
  exact this.symm
noncomputable section
variable {w:Int} (hw:0≤w∧w≤2) {b b':aA} (hL0:(cY b.aP w).length≤24) {s:Sub} (hd:s.cV=false)
include hw hL0 hd
end
end Go.Gv
end
noncomputable section
namespace Go.Gv
theorem aRP{m:Mem}(hm:mD m)(h:Int):IH m h=some (decide (g7 m h)):=by
  obtain⟨hcnt,h3,h9,_⟩:=mD.facts hm
  unfold IH ET
  rw [hm.wk.aVD,bC hm,aE,if_pos rfl,nF hm.1.1.1 (by omega) (by simp only [maxLen];omega) (by simp only [maxLen];omega),aE]
noncomputable section
variable {b:aA} (hb:mO b)
include hb
end
end Go.Gv
end
noncomputable section
set_option maxRecDepth 20000
namespace Go.Gv
def rp(n:Int):Int:=if wW n < 0 then 0 else gP (wW n)
def no(o:dT):dT:={o with gY:=rp o.gY}
def ns(s:Sub):Sub:=if s.Kind=1 then {s with A:=rp s.A} else s
def nj(j:bE):bE:={j with Op:=no j.Op,Sub:=ns j.Sub}
end Go.Gv
end
noncomputable section
namespace Go.Gv
def aVE(s:Sub):Nat:=if s.Pc=0 then 4 else if s.Pc=1 then 3 else if s.Pc=2 then 2 else 1
def aVF(s:Sub):Nat:=if s.Pc=0 then 5 else if s.Pc=1∧0≤s.B∧s.B≤2 then (4 - s.B).toNat else 1
def aVG(n:Nat)(s:Sub):Nat:=if s.Pc=0 then 2+5 * n else if s.Pc=1 then 1+5 * (n - s.Row.toNat) else if s.Pc=2 then max 1 (5 * (n - s.Row.toNat) - s.B.toNat) else if s.Pc=3 then max 1 (5 * (n - s.Row.toNat) - 3) else 1
def aVH(e:Int)(s:Sub):Nat:=if s.Pc=0 then 3 else if s.Pc=1 then (if s.E=e then 2 else 5) else if s.Pc=2 then (if s.E=e then 1 else 4) else 1
def SU(b:aA)(w:Int):Nat:=(cY b.aP w).length
def KF(b:aA)(w:Int)(s:Sub):Nat:=if s.cV then 1 else if s.Kind=1 then aVE s else if s.Kind=2 then (if s.Pc=0 then 2 else 1) else if s.Kind=3 then aVF s+6 else if s.Kind=4 then aVG (SU b w) s else if s.Kind=5 then aVH b.aC.aI s else 1
def aMG(s:Sub):Nat:=if s.Kind=2∧s.cV=false then 1 else 0
theorem aNS(b:aA)(w:Int)(s:Sub):1≤KF b w s:=by
  unfold KF aVE aVF aVG aVH
  split <;> repeat' split
  all_goals omega
noncomputable section
variable {b:aA} {w:Int} {s:Sub} (hd:s.cV=false)
include hd
end
structure aUE (b:aA) (w:Int) (s:Sub) (r:aA×Sub):Prop where
  low:r.2.cV=true∨KF r.1 w r.2+1≤KF b w s
  ep:r.1.aC.aI=b.aC.aI∨r.1.aC.aI=b.aC.aI+1∧r.2.cV=true∧7≤KF b w s
  rows:SU r.1 w+aMG r.2≤SU b w+aMG s
  oth:∀v,0≤v∧v≤2→v≠w→SU r.1 v=SU b v
end Go.Gv
end
noncomputable section
namespace Go.Gv
def aVI(b:aA)(c:List Int)(w:Int)(j:bE):Nat:=
  if j.Pc=9 then 1
  else if j.Op.Kind=1 then (if j.Pc=0 then KF b w j.Sub+11 else if j.Pc=1 then 11 else if j.Pc=2 then 10 else if j.Pc=3 then KF b w j.Sub+1 else 2)
  else if j.Op.Kind=2 then (if j.Pc=0 then KF b w j.Sub+5 else if j.Pc=1 then 5 else if j.Pc=2 then 4 else if j.Pc=3 then 3 else 2)
  else if j.Op.Kind=3 then (if j.Pc=0 then 6 else if j.Pc=1 then (if cellAt c j.Op.Cell=j.H then 5 else 8) else if j.Pc=2 then (if cellAt c j.Op.Cell=j.H then 4 else 7) else if j.Pc=3 then 3 else 2)
  else if j.Op.Kind=7 then (if j.Pc=0 then 4 else if j.Pc=1 then 3 else 2)
  else if j.Op.Kind=6 then 2
  else if j.Op.Kind=5 then (if j.Pc=0 then KF b w j.Sub+1 else 2)
  else if j.Pc=0 then KF b w j.Sub+3+5 * (SU b w+aMG j.Sub) else if j.Pc=1 then KF b w j.Sub+1 else 2
def rfJ(j:bE):Nat:=aMG j.Sub+if j.Op.Kind=1∧(j.Pc=0∨j.Pc=1∨j.Pc=2) then 1 else 0
structure a1P (b:aA) (c:List Int) (w:Int) (j:bE) (r:JR):Prop where
  low:∃d,(d=0∧r.b.aC.aI=b.aC.aI∧r.c=c∨d=3)∧aVI r.b r.c w r.j+1+2 * d≤aVI b c w j
  rows:SU r.b w+rfJ r.j≤SU b w+rfJ j
  oth:∀v,0≤v∧v≤2→v≠w→SU r.b v=SU b v
  op:r.j.Op=j.Op∧r.j.eG=j.eG
theorem aUE.d{b:aA}{w:Int}{s:Sub}{r:aA×Sub}(h:aUE b w s r):∃d,(d=0∧r.1.aC.aI=b.aC.aI∨d=3)∧1+2 * d≤KF b w s:=by
  rcases h.ep with e | ⟨_,_,e⟩
  · exact⟨0,.inl ⟨rfl,e⟩,by have:=aNS b w s;omega⟩
  · exact⟨3,.inr rfl,by omega⟩
theorem aUE.nd{b:aA}{w:Int}{s:Sub}{r:aA×Sub}(h:aUE b w s r)(hn:r.2.cV=false):r.1.aC.aI=b.aC.aI∧KF r.1 w r.2+1≤KF b w s:=by
  refine⟨?_,?_⟩
  · rcases h.ep with e | ⟨_,e,_⟩
    · exact e
    · rw [hn] at e;cases e
  · rcases h.low with e | e
    · rw [hn] at e;cases e
    · exact e
noncomputable section
variable {s:aG} (hs:C7 s) {w:Int} (hw:0≤w∧w≤2) {j:bE} (h9:j.Pc≠9)
include hs hw h9
end
end Go.Gv
end
noncomputable section
namespace Go.Gv
def kq(q:List dT):Nat:=(q.map fun o=>if o.Kind=1 then 1 else 0).sum
def opC(k:Nat)(o:dT):Nat:=if o.Kind=1 then 16 else if o.Kind=2 then 9 else if o.Kind=3 then 7 else if o.Kind=5 then 5 else if o.Kind=6 then 3 else if o.Kind=7 then 5 else 15+5 * k
def qC(k:Nat)(q:List dT):Nat:=(q.map (opC k)).sum
def aVJ(s:aG)(w:Int):Prop:=(aL s w).eG=false∧SR s.e9 w=[]
instance (s:aG) (w:Int):Decidable (aVJ s w):=by unfold aVJ;infer_instance
end Go.Gv
end
noncomputable section
namespace Go.Gv
def wX(c:Int):Prop:=0≤c∧c≤8
structure a0H (j:bE) (r:JR):Prop where
  ser:r.j.aK=j.aK
  ev:∀e∈r.l,e.Kind=2∨e.Kind=3
  code:wX j.Code∧wX j.Sub.Code→wX r.j.Code∧wX r.j.Sub.Code
theorem je{j:bE}{b:aA}{c:List Int}{q:bE}{l:List Ev}(h1:q.aK=j.aK)(h2:∀e∈l,e.Kind=2∨e.Kind=3)(h3:wX j.Code∧wX j.Sub.Code→wX q.Code∧wX q.Sub.Code):a0H j ⟨b,c,q,l⟩:=⟨h1,h2,h3⟩
noncomputable section
variable {s:aG} {w:Int} {j:bE}
theorem cOk{c:Int}(h:0≤c∧c≤8):wX c:=h
end
end Go.Gv
end
noncomputable section
namespace Go.Gv
def aXA(f:Int→Nat):Nat:=f 0+f 1+f 2
def kN(k:Int)(l:List Ev):Nat:=l.countP fun e=>e.Kind == k
def tN(n:Int)(l:List Ev):Nat:=l.countP fun e=>e.Kind == 4 && e.aK == n
def bJ(j:bE):Nat:=if j.eG then 1 else 0
def bN(n:Int)(j:bE):Nat:=if j.eG=true∧j.aK=n then 1 else 0
def one(n m:Int):Nat:=if 1≤n∧n≤m then 1 else 0
structure Tl (N:Nat) (s:aG):Prop where
  tot:s.aK+aXA (fun v=>(SR s.e9 v).length)=N
  calls:(kN 1 s.Log:Int)=s.aK
  a0Z:(kN 4 s.Log:Int)+aXA (fun v=>bJ (aL s v))=s.aK
  each:∀n,tN n s.Log+aXA (fun v=>bN n (aL s v))=one n s.aK
  a00:(∀e∈s.Log,e.Kind=4→wX e.Code)∧∀v,0≤v∧v≤2→wX (aL s v).Code∧wX (aL s v).Sub.Code
theorem aRQ(c:aC)(w:Int)(o:dT)(n:Int):(AK c w o n).eG=true∧(AK c w o n).aK=n∧wX (AK c w o n).Code∧wX (AK c w o n).Sub.Code:=by
  unfold AK
  have z:wX 0:=cOk (by omega)
  have u:wX 1:=cOk (by omega)
  split
  · exact⟨rfl,rfl,z,z⟩
  split
  · split
    · exact⟨rfl,rfl,u,z⟩
    · exact⟨rfl,rfl,z,z⟩
  split
  · exact⟨rfl,rfl,z,z⟩
  · exact⟨rfl,rfl,z,z⟩
end Go.Gv
end
noncomputable section
namespace Go.Gv
def tQ(h:aD)(s:Int):Int:=ld h.Bytes ((eA s (aW h s)).toNat+4) 4
theorem aRR{h:aD}{x:Int}(hh:jN x)(hc:0≤aW h (x % 32)):WR h x=tQ h (x % 32):=by unfold WR tQ;rw [if_pos ⟨hh,hc⟩]
theorem aUF{b:List Int}{a:Nat}{n:Int}(h:a+4≤b.length)(hn:0≤n∧n≤4294967295):ld (D1 b a n) a 4=n:=by
  have e:∀j,bt (D1 b a n) j=if j=a+3 then n % 256 else if j=a+2 then n / 256 % 256 else if j=a+1 then n / 65536 % 256 else if j=a then n / 16777216 else bt b j:=fun j=>by
    unfold D1
    rw [AH (by simp;omega),AH (by simp;omega),AH (by simp;omega),AH (by omega)]
  rw [ld4 (by rw [MK];exact h),e,e,e,e,if_neg (by omega),if_neg (by omega),if_neg (by omega),if_pos rfl,if_neg (by omega),if_neg (by omega),if_pos rfl,if_neg (by omega),if_pos rfl,if_pos rfl]
  omega
theorem XA{h:aD}{s t:Int}(hc:0≤aW h s)(ht:0≤aW h t)(hn:s≠t):(eA s (aW h s)).toNat+12≤(eA t (aW h t)).toNat∨(eA t (aW h t)).toNat+12≤(eA s (aW h s)).toNat:=by
  obtain⟨p,i,p6,hi,es,ec,eo,ep⟩:=sK hc
  obtain⟨q,j,q6,hj,fs,fc,fo,fp⟩:=sK ht
  have room:∀c (i:Nat),i < (bV c).toNat→8+i * (aT c).toNat+12≤64:=fun c i h=>by
    have hcl:0≤c∧c≤2:=gZ.1 (by omega)
    rcases fQ hcl with rfl | rfl | rfl
    · rw [show(bV 0).toNat=4 from rfl] at h;rw [show(aT 0).toNat=12 from rfl];omega
    · rw [show(bV 1).toNat=2 from rfl] at h;rw [show(aT 1).toNat=20 from rfl];omega
    · rw [show(bV 2).toNat=1 from rfl] at h;rw [show(aT 2).toNat=44 from rfl];omega
  have r1:=room _ _ hi
  have r2:=room _ _ hj
  rw [eo,fo]
  by_cases e:p=q
  · subst e
    have hij:i≠j:=fun e=>hn (by omega)
    have hcl:0≤bT h p∧bT h p≤2:=gZ.1 (by omega)
    generalize bT h p=c at hi hj hcl
    rcases fQ hcl with rfl | rfl | rfl
    · rw [show(aT 0).toNat=12 from rfl];omega
    · rw [show(aT 1).toNat=20 from rfl];omega
    · rw [show(bV 2).toNat=1 from rfl] at hi hj;omega
  · have:p < q∨q < p:=by omega
    omega
theorem Q1{h:aD}{s:Int}(hc:0≤aW h s):(eA s (aW h s)).toNat+8≤384:=(aRF hc).1
theorem aUG{h:aD}(h384:h.Bytes.length=384){s t n:Int}(hc:0≤aW h s)(ht:0≤aW h t):tQ ⟨WN h.Bytes (eA s (aW h s)).toNat n,h.Class⟩ t=tQ h t:=by
  have e1:=Q1 hc
  have e2:=Q1 ht
  show ld (WN h.Bytes (eA s (aW h s)).toNat n) ((eA t (aW h t)).toNat+4) 4=ld h.Bytes ((eA t (aW h t)).toNat+4) 4
  refine HW (by omega) (C4 ..) fun j j1 j2=>?_
  by_cases e:s=t
  · subst e
    rw [vD (by omega),if_neg (by omega),if_neg (by omega)]
  · have:=XA hc ht e
    rw [vD (by omega),if_neg (by omega),if_neg (by omega)]
theorem aRS{h:aD}(h384:h.Bytes.length=384){s t n:Int}(hn:0≤n∧n≤4294967295)(hc:0≤aW h s)(ht:0≤aW h t):tQ ⟨D1 h.Bytes ((eA s (aW h s)).toNat+4) n,h.Class⟩ t=if t=s then n else tQ h t:=by
  have e1:=Q1 hc
  have e2:=Q1 ht
  show ld (D1 h.Bytes ((eA s (aW h s)).toNat+4) n) ((eA t (aW h t)).toNat+4) 4=if t=s then n else ld h.Bytes ((eA t (aW h t)).toNat+4) 4
  by_cases e:t=s
  · subst e
    rw [if_pos rfl,aUF (by omega) hn]
  · rw [if_neg e]
    have:=XA hc ht (fun q=>e q.symm)
    exact HW (by omega) (MK ..) fun j j1 j2=>U6 (by omega) (by omega)
theorem aUH{h:aD}(hh:RU h){s:Int}(hc:0≤aW h s):1≤hY h s∧hY h s≤7:=by
  obtain⟨p,i,p6,hi,es,ec,eo,ep⟩:=sK hc
  have hold:=(I8 hh.1 p6).1 (hh.2 p p6)
  have hcl:0≤bT h p∧bT h p≤2:=gZ.1 (by omega)
  unfold WQ at hold
  rw [if_neg (by omega)] at hold
  unfold hY
  rw [eo]
  exact hold.2.2 i hi
theorem aRT{m:Mem}(hm:mD m){w h:Int}(hv:g7 m h){t:Int}(ht:0≤aW m.aD t):tQ (DA m w h).aD t=tQ m.aD t:=by
  have hcl:=g8 hv.2.1
  have hh:(DA m w h).aD=⟨WN m.aD.Bytes (eA (h % 32) (aW m.aD (h % 32))).toNat (h / 32+1),m.aD.Class⟩:=by
    unfold DA;simp only [apply_ite Mem.aD,ite_self]
  rw [hh]
  exact aUG hm.1.1.1.1 hcl ht
structure aXB (m m':Mem) (x n:Int):Prop where
  state:∀t,eM m' t=eM m t
  gen:∀t,0≤aW m.aD t→hY m'.aD t=hY m.aD t
  dat:∀t,0≤aW m.aD t→tQ m'.aD t=if t=x then n else tQ m.aD t
theorem aIQ{m:Mem}(hm:mD m){h n:Int}(hv:g7 m h)(hn:0≤n∧n≤65535):(AJ m h n).2=0∧aXB m (AJ m h n).1 (h % 32) n:=by
  have hcl:=g8 hv.2.1
  unfold AJ
  rw [if_pos hv]
  obtain⟨_,hg⟩:=RU.put hm.1.1 hcl (n:=n) ⟨hn.1,by omega⟩
  refine⟨rfl,fun t=>?_,hg,fun t ht=>aRS hm.1.1.1.1 ⟨hn.1,by omega⟩ hcl ht⟩
  by_cases q:0≤aW m.aD t
  · exact U5 rfl (hg t q) Iff.rfl
  · unfold eM
    have c:aW m.aD t < 0:=by omega
    exact(if_pos (show aW _ t < 0 from c)).trans (if_pos c).symm
structure aKJ (m m':Mem) (x:Int):Prop where
  was:eM m x≠3
  now:eM m' x=3
  gen:1≤hY m'.aD x∧hY m'.aD x≤6
  rest:∀t,t≠x→(eM m' t=3↔eM m t=3)
  same:∀t,eM m t=3→hY m'.aD t=hY m.aD t∧tQ m'.aD t=tQ m.aD t
theorem aE7{m:Mem}(hm:mD m){ls:aB}{x:Int}(h1:∀t,t∈dC m.aB↔t∈dC ls∨t=x)(h2:x∉dC ls):aKJ m ⟨m.aD,ls⟩ x:=by
  have hx:x∈dC m.aB:=(h1 x).2 (.inr rfl)
  obtain⟨a,b⟩:=mD.oC hm hx
  refine⟨fun q=>(gQ.1 q).2.1 hx,gQ.2 ⟨a,h2,b⟩,⟨(aUH hm.1.1 a).1,b⟩,fun t ht=>?_,fun t _=>⟨rfl,rfl⟩⟩
  rw [gQ,gQ]
  have:t∈dC m.aB↔t∈dC ls:=by rw [h1];exact⟨fun q=>q.elim id fun q=>absurd q ht,.inl⟩
  simp only [this]
theorem aNT{l:List Int}(h:l≠[]):l=(JB l).1 ++ [(JB l).2]:=by
  unfold JB
  rcases List.eq_nil_or_concat l with rfl | ⟨L,b,rfl⟩
  · exact absurd rfl h
  · simp
theorem aIR{l:List aQ}{k:Nat}(hk:k < l.length)(h:dO l k≠[]):∃A B,cK l=A++((JB (dO l k)).2 :: B)∧cK (l.set k ⟨(JB (dO l k)).1⟩)=A++B:=by
  have e:=aNT h
  refine⟨cK (l.take k)++(JB (dO l k)).1,cK (l.drop (k+1)),?_,?_⟩
  · rw [AY hk,dD hk]
    conv=>lhs;rw [e]
    simp
  · rw [D0 hk];simp
theorem aIS{l:List aQ}{k:Nat}(hk:k < l.length)(h:dO l k=[]):l.set k ⟨(JB (dO l k)).1⟩=l∧(JB (dO l k)).2 = -1:=by
  rw [h]
  refine⟨?_,rfl⟩
  have e:(⟨(JB []).1⟩:aQ)=l[k]:=by
    have:=dD hk
    rw [h] at this
    cases hl:l[k] with
    | mk s=>rw [hl] at this;simp only at this;subst this;rfl
  rw [e,List.set_getElem_self]
theorem aGR{m:Mem}(hm:mD m){w c:Int}(hw:0≤w∧w≤2)(hc:0≤c∧c≤2):(C8 m w c=(m,-1))∨0≤(C8 m w c).2∧aKJ m (C8 m w c).1 (C8 m w c).2:=by
  obtain⟨hcnt,h3,h9,_⟩:=mD.facts hm
  have hk:(w * 3+c).toNat < m.aB.Own.length:=by omega
  unfold C8
  by_cases q:dO m.aB.Own (w * 3+c).toNat=[]
  · left
    obtain⟨a,b⟩:=aIS hk q
    rw [a,b]
  · right
    obtain⟨A,B,e1,e2⟩:=aIR hk q
    have nd:=hm.1.2.2.2.2.2
    have rg:=hm.1.2.2.2.2.1
    unfold dC at nd rg
    rw [e1] at nd rg
    refine⟨(rg _ (by simp)).1,aE7 hm (fun t=>?_) ?_⟩
    · unfold dC;simp only;rw [e1,e2];simp only [List.mem_append,List.mem_cons]
      constructor
      · rintro(h | h | h | h)
        · exact .inl (.inl h)
        · exact .inl (.inr (.inl h))
        · exact .inr h
        · exact .inl (.inr (.inr h))
      · rintro((h | h | h) | h)
        · exact .inl h
        · exact .inr (.inl h)
        · exact .inr (.inr (.inr h))
        · exact .inr (.inr (.inl h))
    · unfold dC;simp only;rw [e2]
      have:(cK m.aB.Global++(A++(JB (dO m.aB.Own (w * 3+c).toNat)).2 :: B)).Perm ((JB (dO m.aB.Own (w * 3+c).toNat)).2 :: (cK m.aB.Global++(A++B))):=by
        rw [←List.append_assoc,←List.append_assoc];exact List.perm_middle
      exact(List.nodup_cons.1 (this.nodup_iff.1 nd)).1
theorem aEB{m:Mem}(hm:mD m){c:Int}(hc:0≤c∧c≤2):(sW m c=(m,-1))∨0≤(sW m c).2∧aKJ m (sW m c).1 (sW m c).2:=by
  obtain⟨hcnt,h3,h9,_⟩:=mD.facts hm
  have hk:c.toNat < m.aB.Global.length:=by omega
  unfold sW
  by_cases q:dO m.aB.Global c.toNat=[]
  · left
    obtain⟨a,b⟩:=aIS hk q
    rw [a,b]
  · right
    obtain⟨A,B,e1,e2⟩:=aIR hk q
    have nd:=hm.1.2.2.2.2.2
    have rg:=hm.1.2.2.2.2.1
    unfold dC at nd rg
    rw [e1] at nd rg
    refine⟨(rg _ (by simp)).1,aE7 hm (fun t=>?_) ?_⟩
    · unfold dC;simp only;rw [e1,e2];simp only [List.mem_append,List.mem_cons]
      constructor
      · rintro((h | h | h) | h)
        · exact .inl (.inl (.inl h))
        · exact .inr h
        · exact .inl (.inl (.inr h))
        · exact .inl (.inr h)
      · rintro(((h | h) | h) | h)
        · exact .inl (.inl h)
        · exact .inl (.inr (.inr h))
        · exact .inr h
        · exact .inl (.inr (.inl h))
    · unfold dC;simp only;rw [e2]
      have:(A++(JB (dO m.aB.Global c.toNat)).2 :: B++cK m.aB.Own).Perm ((JB (dO m.aB.Global c.toNat)).2 :: (A++B++cK m.aB.Own)):=by
        rw [List.append_assoc,List.append_assoc,List.cons_append];exact List.perm_middle
      exact(List.nodup_cons.1 (this.nodup_iff.1 nd)).1
theorem aKK{m:Mem}(hm:mD m){c:Int}(hc:0≤c∧c≤2):(GH m c=(m,-1))∨0≤(GH m c).2∧aKJ m (GH m c).1 (GH m c).2:=by
  obtain⟨hcnt,h3,h9,h1,_⟩:=mD.facts hm
  have hs:=hm.1.1.1
  unfold GH
  by_cases q:VC m.aD=6
  · left;rw [if_pos q]
  right
  rw [if_neg q]
  obtain⟨hp,hun⟩:=aQ8 hs q
  generalize VC m.aD=p at hp hun
  obtain⟨a,b,d,e⟩:=RU.aU9 hm.1.1 hp (by omega) hc
  have hpp:0 < bV c:=gZ.2 hc
  have hp4:=lX c
  have hk:c.toNat < m.aB.Global.length:=by omega
  have hcons:gS p (bV c).toNat=(p:Int) * 4 :: (gS p (bV c).toNat).drop 1:=by
    have:0 < (gS p (bV c).toNat).length:=by rw [I7];omega
    have h0:=List.drop_eq_getElem_cons this
    rw [List.drop_zero] at h0
    have e0:(gS p (bV c).toNat)[0]=(p:Int) * 4:=by simp [gS]
    rw [e0] at h0;exact h0
  have hnd:=aIC p (bV c).toNat
  rw [hcons,List.nodup_cons] at hnd
  have hxs:∀t,t∈(gS p (bV c).toNat).drop 1↔∃i,i < (bV c).toNat∧t=(p:Int) * 4+(i:Nat)∧i≠0:=fun t=>by
    constructor
    · intro h
      obtain⟨i,hi,rfl⟩:=aQ2 (List.mem_of_mem_drop h)
      refine⟨i,hi,rfl,fun z=>hnd.1 ?_⟩
      subst z;simpa using h
    · rintro⟨i,hi,rfl,i0⟩
      have hmem:(p:Int) * 4+(i:Nat)∈gS p (bV c).toNat:=by simp only [gS,List.mem_map,List.mem_range];exact⟨i,hi,rfl⟩
      rw [hcons] at hmem
      rcases List.mem_cons.1 hmem with h | h
      · omega
      · exact h
  generalize (gS p (bV c).toNat).drop 1=xs at hnd hxs
  have hmem:∀t,t∈dC ⟨m.aB.Global.set c.toNat ⟨dO m.aB.Global c.toNat++xs⟩,m.aB.Own⟩↔t∈dC m.aB∨t∈xs:=fun t=>by
    unfold dC;rw [←dD hk];simp only [List.mem_append,C5 hk];rw [or_right_comm]
  have hno:∀i,i < (bV c).toNat→¬0≤aW m.aD ((p:Int) * 4+(i:Nat)):=fun i hi z=>(d _ z).1 (by omega)
  have e0:=e 0 (by omega)
  rw [show(p:Int) * 4+((0:Nat):Int)=(p:Int) * 4 by omega] at e0
  have hno0:=hno 0 (by omega)
  rw [show(p:Int) * 4+((0:Nat):Int)=(p:Int) * 4 by omega] at hno0
  have bts:=fun j=>(aQ0 hm.1.1.1.1 hp hc (bV c).toNat (by omega) j).1
  have hbl:=I6 m.aD.Bytes p c (bV c).toNat
  refine⟨by simp only;omega,fun z=>hno0 (gQ.1 z).1,gQ.2 ⟨by simp only [e0.1];exact hc.1,fun z=>?_,by simp only [e0.2];omega⟩,by simp only [e0.2];omega,fun t ht=>?_,fun t ht=>?_⟩
  · rcases(hmem _).1 z with y | y
    · exact hno0 (mD.oC hm y).1
    · exact hnd.1 y
  · rw [gQ,gQ]
    simp only at ht
    by_cases z:0≤aW m.aD t
    · obtain⟨z1,z2⟩:=d t z
      have zx:t∉xs:=fun y=>by obtain⟨i,hi,rfl,_⟩:=(hxs t).1 y;exact hno i hi z
      have:t∈dC (⟨m.aB.Global.set c.toNat ⟨dO m.aB.Global c.toNat++xs⟩,m.aB.Own⟩:aB)↔t∈dC m.aB:=by rw [hmem];exact⟨fun y=>y.elim id fun y=>absurd y zx,.inl⟩
      simp only [this,b t z1,z2]
    · refine⟨fun y=>?_,fun y=>absurd y.1 z⟩
      exfalso
      obtain⟨y1,y2,y3⟩:=y
      by_cases zp:(t / 4).toNat=p
      · obtain⟨r1,r2,r3⟩:=oZ y1
        rw [zp,QU hs hp,if_pos rfl] at r2
        exact y2 ((hmem t).2 (.inr ((hxs t).2 ⟨(t % 4).toNat,by omega,by omega,by omega⟩)))
      · simp only at y1
        rw [b t zp] at y1;exact z y1
  · have ht':=gQ.1 ht
    obtain⟨z1,z2⟩:=d t ht'.1
    refine⟨z2,?_⟩
    obtain⟨p',i',p6',hi',es',ec',eo',ep'⟩:=sK ht'.1
    have hend:=Q1 ht'.1
    have hz':=sV hs p6' rfl hi'
    have room:8+i' * (aT (bT m.aD p')).toNat+8≤64:=by
      have hcl:0≤bT m.aD p'∧bT m.aD p'≤2:=gZ.1 (by omega)
      generalize bT m.aD p'=c' at hi' hcl
      rcases fQ hcl with rfl | rfl | rfl
      · rw [show(bV 0).toNat=4 from rfl] at hi';rw [show(aT 0).toNat=12 from rfl];omega
      · rw [show(bV 1).toNat=2 from rfl] at hi';rw [show(aT 1).toNat=20 from rfl];omega
      · rw [show(bV 2).toNat=1 from rfl] at hi';rw [show(aT 2).toNat=44 from rfl];omega
    unfold tQ
    simp only
    rw [b t z1]
    exact HW (by omega) hbl fun j j1 j2=>bts j (by omega)
structure aRU (b:aA) (r:aA×Sub) (s:Sub):Prop where
  clock:r.1.aC=b.aC
  a01:r.1.aP=b.aP
  haz:r.1.nA=b.nA
  two:r.1.Mem=b.Mem∧(r.2.cV=true∧r.2.Code≠0∨r.2.cV=false∧r.2.Kind=1∧0≤r.2.Pc∧r.2.Pc≤3) ∨
    r.2.cV=true∧r.2.Code=0∧jN r.2.Out∧g7 r.1.Mem r.2.Out∧aKJ b.Mem r.1.Mem (r.2.Out % 32)
theorem aUI{b:aA}(hm:mD b.Mem){w:Int}(hw:0≤w∧w≤2){s:Sub}(hk:s.Kind=1)(hd:s.cV=false)(hp:0≤s.Pc∧s.Pc≤3):aRU b (fX b w s) s:=by
  have hr:=aCJ s.A
  have e:fX b w s=TN b w s:=by unfold fX;simp [hk,hd]
  rw [e]
  have fin:∀p:Mem×Int,(p=(b.Mem,-1)∨0≤p.2∧aKJ b.Mem p.1 p.2)→aRU b (LC b s p) s:=fun p h=>by
    unfold LC
    rcases h with rfl | ⟨h0,h1⟩
    · rw [if_neg (by simp)]
      split
      · exact⟨rfl,rfl,rfl,.inl ⟨rfl,.inl ⟨rfl,by simp [AI]⟩⟩⟩
      · exact⟨rfl,rfl,rfl,.inl ⟨rfl,.inr ⟨hd,hk,by simp only;omega,by simp only;omega⟩⟩⟩
    · rw [if_pos h0]
      have h23:=(oZ (gQ.1 h1.now).1).1
      have eh:aKD p.1 p.2=hY p.1.aD p.2 * 32+p.2:=if_pos h1.gen
      have hg:=h1.gen
      have e1:aKD p.1 p.2 % 32=p.2:=by omega
      have e2:aKD p.1 p.2 / 32=hY p.1.aD p.2:=by omega
      have hn:jN (aKD p.1 p.2):=by unfold jN;omega
      refine⟨rfl,rfl,rfl,.inr ⟨rfl,rfl,hn,⟨hn,?_,?_⟩,?_⟩⟩
      · simp only [AI];rw [e1];exact h1.now
      · simp only [AI];rw [e1,e2]
      · simp only [AI];rw [e1];exact h1
  unfold TN
  by_cases c0:wW s.A < 0
  · rw [if_pos c0]
    exact⟨rfl,rfl,rfl,.inl ⟨rfl,.inl ⟨rfl,by simp [AI]⟩⟩⟩
  rw [if_neg c0]
  have hc:0≤wW s.A∧wW s.A≤2:=by omega
  split
  · exact fin _ (aGR hm hw hc)
  split
  · exact fin _ (aEB hm hc)
  split
  · exact fin _ (aKK hm hc)
  · omega
end Go.Gv
end
noncomputable section
namespace Go.Gv
def A3(j:bE):Int:=if j.Op.Kind=1 then (if j.Pc=1∨j.Pc=2 then j.H else if j.Pc=3 then j.Old else 0) else 0
def nm(c:List Int)(J:Int→bE)(i:Int):Int:=if i < 2 then cellAt c i else A3 (J (i - 2))
structure Ow (b:aA) (N:Int→Int):Prop where
  live:∀i,0≤i∧i≤4→N i≠0→g7 b.Mem (N i)∧¬DE b.aP (N i % 32)
  once:∀i j,0≤i∧i≤4→0≤j∧j≤4→N i≠0→N i=N j→i=j
  all:∀t,eM b.Mem t=3→¬DE b.aP t→∃i,(0≤i∧i≤4)∧N i≠0∧N i % 32=t
theorem aCS{m:Mem}{h g:Int}(a:g7 m h)(b:g7 m g)(e:h % 32=g % 32):h=g:=by
  have h1:=a.2.2
  have h2:=b.2.2
  rw [e] at h1
  omega
theorem Ow.perm{b b':aA}{N N':Int→Int}(h:Ow b N)(hm:b'.Mem=b.Mem)(hl:b'.aP=b.aP)(σ:Int→Int)(hr:∀i,0≤i∧i≤4→0≤σ i∧σ i≤4)(hi:∀i,σ (σ i)=i)(he:∀i,0≤i∧i≤4→N' i=N (σ i)):Ow b' N':=by
  refine⟨fun i hi' hn=>?_,fun i j hi' hj' hn e=>?_,fun t ht hh=>?_⟩
  · rw [he i hi'] at hn ⊢
    rw [hm,hl]
    exact h.live _ (hr i hi') hn
  · rw [he i hi'] at hn
    rw [he i hi',he j hj'] at e
    have:=h.once _ _ (hr i hi') (hr j hj') hn e
    rw [←hi i,this,hi]
  · rw [hm] at ht
    rw [hl] at hh
    obtain⟨i,a,b,c⟩:=h.all t ht hh
    exact⟨σ i,hr i a,by rw [he _ (hr i a),hi];exact b,by rw [he _ (hr i a),hi];exact c⟩
theorem Ow.congr{b b':aA}{N N':Int→Int}(h:Ow b N)(hm:b'.Mem=b.Mem)(hl:b'.aP=b.aP)(he:∀i,0≤i∧i≤4→N' i=N i):Ow b' N':=h.perm hm hl id (fun _ h=>h) (fun _=>rfl) he
noncomputable section
variable {b b':aA} {N N':Int→Int} (h:Ow b N)
include h
theorem Ow.a0I(hb:mO b)(hl:b'.aP=b.aP){H:Int}(ht:aKJ b.Mem b'.Mem (H % 32))(hv:g7 b'.Mem H){i:Int}(hi:0≤i∧i≤4)(h0:N i=0)(hN:N' i=H)(ho:∀j,0≤j∧j≤4→j≠i→N' j=N j):Ow b' N':=by
  have nh:¬DE b.aP (H % 32):=fun⟨r,r1,r2,r3⟩=>ht.was (by rw [←r3];exact(hb.2 r r1).1.2.1)
  have ne:∀j,0≤j∧j≤4→N j≠0→N j % 32≠H % 32:=fun j hj hn e=>ht.was (by rw [←e];exact(h.live j hj hn).1.2.1)
  have keep:∀g,g7 b.Mem g→g7 b'.Mem g:=fun g hg=>by
    have e:g % 32≠H % 32:=fun e=>ht.was (by rw [←e];exact hg.2.1)
    exact⟨hg.1,(ht.rest _ e).2 hg.2.1,by rw [(ht.same _ hg.2.1).1];exact hg.2.2⟩
  refine⟨fun j hj hn=>?_,fun j k hj hk hn e=>?_,fun t hs hh=>?_⟩
  · by_cases q:j=i
    · subst q;rw [hN,hl];exact⟨hv,nh⟩
    · rw [ho j hj q] at hn ⊢
      rw [hl]
      exact⟨keep _ (h.live j hj hn).1,(h.live j hj hn).2⟩
  · by_cases q:j=i
    · by_cases q2:k=i
      · rw [q,q2]
      · rw [q,hN,ho k hk q2] at e
        exact absurd (by rw [e]) (ne k hk (by rw [←e];intro z;rw [q,hN] at hn;exact hn z))
    · by_cases q2:k=i
      · rw [q2,hN,ho j hj q] at e
        rw [ho j hj q] at hn
        exact absurd (by rw [e]) (ne j hj hn)
      · rw [ho j hj q] at hn
        rw [ho j hj q,ho k hk q2] at e
        exact h.once j k hj hk hn e
  · by_cases q:t=H % 32
    · exact⟨i,hi,by rw [hN];have:=hv.1;unfold jN at this;omega,by rw [hN,q]⟩
    · rw [hl] at hh
      obtain⟨j,j1,j2,j3⟩:=h.all t ((ht.rest t q).1 hs) hh
      have:j≠i:=fun e=>by rw [e,h0] at j2;exact j2 rfl
      exact⟨j,j1,by rw [ho j j1 this];exact j2,by rw [ho j j1 this];exact j3⟩
theorem Ow.retired(hm:b'.Mem=b.Mem){i:Int}(hi:0≤i∧i≤4)(hn:N i≠0)(hl:∀t,DE b'.aP t↔DE b.aP t∨t=N i % 32)(hN:N' i=0)(ho:∀j,0≤j∧j≤4→j≠i→N' j=N j):Ow b' N':=by
  have hiL:=(h.live i hi hn).1
  refine⟨fun j hj hjn=>?_,fun j k hj hk hjn e=>?_,fun t hs hh=>?_⟩
  · have q:j≠i:=fun e=>hjn (by rw [e,hN])
    rw [ho j hj q] at hjn ⊢
    rw [hm,hl]
    obtain⟨a,b⟩:=h.live j hj hjn
    refine⟨a,fun z=>z.elim b fun z=>q (h.once j i hj hi hjn (aCS a hiL z))⟩
  · have q:j≠i:=fun e=>hjn (by rw [e,hN])
    have q2:k≠i:=fun e'=>by rw [e',hN] at e;exact hjn e
    rw [ho j hj q] at hjn
    rw [ho j hj q,ho k hk q2] at e
    exact h.once j k hj hk hjn e
  · rw [hm] at hs
    rw [hl] at hh
    obtain⟨j,j1,j2,j3⟩:=h.all t hs (fun z=>hh (.inl z))
    have:j≠i:=fun e=>hh (.inr (by rw [←j3,e]))
    exact⟨j,j1,by rw [ho j j1 this];exact j2,by rw [ho j j1 this];exact j3⟩
theorem Ow.aY9{x:Int}(hx:DE b.aP x)(h3:eM b'.Mem x≠3)(hs:∀t,t≠x→eM b'.Mem t=eM b.Mem t)(hg:∀t,t≠x→eM b.Mem t=3→hY b'.Mem.aD t=hY b.Mem.aD t)(hl:∀t,t≠x→(DE b'.aP t↔DE b.aP t))(he:∀i,0≤i∧i≤4→N' i=N i):Ow b' N':=by
  refine⟨fun i hi hn=>?_,fun i j hi hj hn e=>?_,fun t ht hh=>?_⟩
  · rw [he i hi] at hn ⊢
    obtain⟨a,c⟩:=h.live i hi hn
    have q:N i % 32≠x:=fun e=>c (by rw [e];exact hx)
    exact⟨⟨a.1,by rw [hs _ q];exact a.2.1,by rw [hg _ q a.2.1];exact a.2.2⟩,by rw [hl _ q];exact c⟩
  · rw [he i hi] at hn
    rw [he i hi,he j hj] at e
    exact h.once i j hi hj hn e
  · have q:t≠x:=fun e=>h3 (by rw [←e];exact ht)
    rw [hs t q] at ht
    rw [hl t q] at hh
    obtain⟨i,a,c,d⟩:=h.all t ht hh
    exact⟨i,a,by rw [he i a];exact c,by rw [he i a];exact d⟩
end
def zEw:Ev:=⟨0,0,0,0,0,0,0⟩
def swp(L:List Ev)(k:Int):Ev:=L.foldl (fun a e=>if e.Kind=2∧e.Cell=k then e else a) zEw
theorem ZX(L:List Ev)(e:Ev)(k:Int):swp (L ++ [e]) k=if e.Kind=2∧e.Cell=k then e else swp L k:=by
  unfold swp;rw [List.foldl_append];rfl
def rdS(n:Int)(a:(Int→Ev)×Option (Ev×Ev))(e:Ev):(Int→Ev)×Option (Ev×Ev):=(fun k=>if e.Kind=2∧e.Cell=k then e else a.1 k,if e.Kind=3∧e.aK=n then some (e,a.1 e.Cell) else a.2)
def ZY(L:List Ev)(n:Int):Option (Ev×Ev):=(L.foldl (rdS n) (fun _=>zEw,none)).2
theorem aXC(L:List Ev)(n:Int)(k:Int):(L.foldl (rdS n) (fun _=>zEw,none)).1 k=swp L k:=by
  have:∀(L:List Ev) a,(L.foldl (rdS n) a).1 k=L.foldl (fun a e=>if e.Kind=2∧e.Cell=k then e else a) (a.1 k):=by
    intro L
    induction L with
    | nil=>intro a;rfl
    | cons e L ih=>intro a;rw [List.foldl_cons,List.foldl_cons,ih];rfl
  exact this L _
theorem VH(L:List Ev)(e:Ev)(n:Int):ZY (L ++ [e]) n=if e.Kind=3∧e.aK=n then some (e,swp L e.Cell) else ZY L n:=by
  unfold ZY
  rw [List.foldl_append,List.foldl_cons,List.foldl_nil]
  show(if e.Kind=3∧e.aK=n then some (e,(L.foldl (rdS n) (fun _=>zEw,none)).1 e.Cell) else _)=_
  rw [aXC]
theorem aUJ{L:List Ev}{n:Int}(h:∀e∈L,e.aK≠n):ZY L n=none:=by
  have:∀(L:List Ev) a,(∀e∈L,e.aK≠n)→(L.foldl (rdS n) a).2=a.2:=by
    intro L
    induction L with
    | nil=>intro a _;rfl
    | cons e L ih =>
      intro a h
      rw [List.foldl_cons,ih _ fun x hx=>h x (List.mem_cons_of_mem _ hx)]
      exact if_neg fun q=>h e (List.mem_cons_self ..) q.2
  exact this L _ h
def Told(o:Option (Ev×Ev))(code val:Int):Prop:=(code=0→∃e x,o=some (e,x)∧x.Handle≠0∧x.Handle=e.Handle∧x.dV=val)∧(code=8→∃e x,o=some (e,x)∧x.Handle=0∧e.Handle=0)
theorem Told.other{o:Option (Ev×Ev)}{code val:Int}(h0:code≠0)(h8:code≠8):Told o code val:=⟨fun q=>absurd q h0,fun q=>absurd q h8⟩
def TrL(L:List Ev):Prop:=∀M e N,L=M++e :: N→e.Kind=4→ZY M e.aK≠none→Told (ZY M e.aK) e.Code e.dV
theorem TrL.snoc{L:List Ev}(h:TrL L){e:Ev}(he:e.Kind=4→ZY L e.aK≠none→Told (ZY L e.aK) e.Code e.dV):TrL (L ++ [e]):=by
  intro M x N hx hk hr
  rcases List.eq_nil_or_concat N with rfl | ⟨N',y,rfl⟩
  · have:=List.append_inj' hx (by rfl)
    obtain⟨rfl,q⟩:=this
    injection q with q
    subst q
    exact he hk hr
  · have e1:M++x :: (N'.concat y)=(M++x :: N') ++ [y]:=by simp
    rw [e1] at hx
    have:=List.append_inj' hx (by rfl)
    exact h M x N' this.1 hk hr
def p5(b:aA)(c:List Int)(J:Int→bE)(e H:Int):Prop:=(∃k,(0≤k∧k≤1)∧cellAt c k=H)∨(∃v,(0≤v∧v≤2)∧(J v).Op.Kind=1∧(J v).Pc=3∧(J v).Old=H∧((J v).Sub.Pc=0∨e≤(J v).Sub.E))∨∃r∈bH b.aP,r.Handle=H∧e≤r.aI
def UnJ(j:bE)(v H:Int):Prop:=j.Op.Kind=4→j.Pc=1→j.Sub.H=H→(j.Sub.Pc=2→j.Sub.B≤v)∧j.Sub.Pc≠3
def NY(J:Int→bE)(v H:Int):Prop:=∀a,0≤a∧a≤2→UnJ (J a) v H
def aXD(b:aA)(old:Int)(s:Sub):Prop:=s.Kind=2∧s.cV=false∧s.A=old∧(s.Pc=0∨s.Pc=1∧0≤s.E∧s.E≤b.aC.aI)
def aXE(e:Int)(l:List cW)(s:Sub):Prop:=s.Kind=4∧s.cV=false∧(s.Pc=0∨s.E≤e∧(s.Pc=1∧0≤s.Row∨s.Pc=2∧(0≤s.B∧s.B≤2)∧FR l s∧C9 (GI l s.Row) s.E∨s.Pc=3∧FR l s∧C9 (GI l s.Row) s.E))
def aRV(j:bE):Prop:=j.Op.Kind=2∧(j.Pc=2∨j.Pc=3)∨j.Op.Kind=7∧(j.Pc=1∨j.Pc=2)
def aCT(j:bE):Prop:=j.Op.Kind=2∧j.Pc=3∨j.Op.Kind=7∧j.Pc=2
def Reads(j:bE):Prop:=j.Op.Kind=2∨j.Op.Kind=3∨j.Op.Kind=7
def Saw(o:Option (Ev×Ev))(H:Int)(x:Ev):Prop:=∃e,o=some (e,x)∧e.Handle=H∧x.Handle=H∧H≠0
def Pinned(c:aC)(v:Int):Prop:=(bU c v).On=true∧(bU c v).cX=false
structure Jv (b:aA) (c:List Int) (J:Int→bE) (o:Option (Ev×Ev)) (v:Int) (j:bE):Prop where
  idle:j.eG=false→j.Op.Kind=0
  s0:j.Op.Kind=1→j.Pc=0→j.Sub.Kind=1∧j.Sub.cV=false∧0≤j.Sub.Pc∧j.Sub.Pc≤3
  s1:j.Op.Kind=1→j.Pc=1∨j.Pc=2→j.H≠0
  s2:j.Op.Kind=1→j.Pc=2→tQ b.Mem.aD (j.H % 32)=j.Op.dV
  s3:j.Op.Kind=1→j.Pc=3→j.Old≠0∧aXD b j.Old j.Sub
  k:j.Op.Kind=4→j.Pc=1→aXE b.aC.aI (cY b.aP v) j.Sub
  g:aRV j→Pinned b.aC v→p5 b c J (bU b.aC v).aI j.H∧∃x,Saw o j.H x∧(¬aCT j→tQ b.Mem.aD (j.H % 32)=x.dV)∧(aCT j→j.dV=x.dV)
  z1:j.Op.Kind=3→j.Pc=1∨j.Pc=2∨j.Pc=3→j.H≠0
  z2:j.Op.Kind=3→j.Pc=2∨j.Pc=3→pX b.nA v=j.H
  z3:j.Op.Kind=3→j.Pc=3→p5 b c J 0 j.H∧NY J v j.H∧∃x,Saw o j.H x∧tQ b.Mem.aD (j.H % 32)=x.dV
  t:Reads j→j.Pc=9∨j.Pc=4→Told o j.Code j.dV
  n:j.eG=true→¬Reads j→o=none
structure Frm (b b':aA) (c c':List Int) (J J':Int→bE) (v:Int) (j:bE):Prop where
  ep:b.aC.aI≤b'.aC.aI
  rows:cY b'.aP v=cY b.aP v
  pin:Pinned b'.aC v→Pinned b.aC v∧(bU b'.aC v).aI=(bU b.aC v).aI
  haz:pX b'.nA v=pX b.nA v
  safe:∀e H,H≠0→e≤b.aC.aI→(b.aC.aI≤e+1∨∃u,(0≤u∧u≤2)∧NY J u H)→p5 b c J e H→p5 b' c' J' e H
  unp:pX b.nA v=j.H→NY J v j.H→NY J' v j.H
  aZD:∀e H,p5 b c J e H→H≠0→tQ b'.Mem.aD (H % 32)=tQ b.Mem.aD (H % 32)
  a0N:A3 j≠0→tQ b'.Mem.aD (A3 j % 32)=tQ b.Mem.aD (A3 j % 32)
theorem Jv.frame{b b':aA}{c c':List Int}{J J':Int→bE}{o o':Option (Ev×Ev)}{v:Int}{j:bE}(hv:0≤v∧v≤2)(h:Jv b c J o v j)(hc:I1 b.aC)(he:aRV j→Pinned b.aC v→b.aC.aI≤(bU b.aC v).aI+1)
    (f:Frm b b' c c' J J' v j) (ho:j.eG=true→o'=o):Jv b' c' J' o' v j:=by
  have busy:j.Op.Kind≠0→o'=o:=fun q=>ho (by cases hb:j.eG with
    | true=>rfl
    | false=>exact absurd (h.idle hb) q)
  have hpe:=(QX hc hv).1
  refine⟨h.idle,h.s0,h.s1,fun k p=>?_,fun k p=>?_,fun k p=>?_,fun g p=>?_,h.z1,fun k p=>?_,fun k p=>?_,fun r p=>?_,fun bb r=>?_⟩
  · have e:A3 j=j.H:=by unfold A3;rw [if_pos k,if_pos (.inr p)]
    have:=f.a0N (by rw [e];exact h.s1 k (.inr p))
    rw [e] at this
    rw [this];exact h.s2 k p
  · obtain⟨a,q1,q2,q3,q4⟩:=h.s3 k p
    exact⟨a,q1,q2,q3,q4.imp id fun z=>⟨z.1,z.2.1,Int.le_trans z.2.2 f.ep⟩⟩
  · obtain⟨q1,q2,q3⟩:=h.k k p
    rw [f.rows]
    exact⟨q1,q2,q3.imp id fun z=>⟨Int.le_trans z.1 f.ep,z.2⟩⟩
  · obtain⟨p1,p2⟩:=f.pin p
    obtain⟨s,x,x1,x2,x3⟩:=h.g g p1
    have hk:j.Op.Kind≠0:=by rcases g with g | g <;> omega
    rw [p2,busy hk]
    have h0:=x1.choose_spec.2.2.2
    refine⟨f.safe _ _ h0 hpe.2 (.inl (he g p1)) s,x,x1,fun l=>?_,x3⟩
    rw [f.aZD _ _ s h0];exact x2 l
  · rw [f.haz];exact h.z2 k p
  · obtain⟨s,u,x,x1,x2⟩:=h.z3 k p
    rw [busy (by omega)]
    have h0:=x1.choose_spec.2.2.2
    refine⟨f.safe _ _ h0 hc.1.1 (.inr ⟨v,hv,u⟩) s,f.unp (h.z2 k (.inr p)) u,x,x1,?_⟩
    rw [f.aZD _ _ s h0];exact x2
  · rw [busy (by unfold Reads at r;omega)];exact h.t r p
  · rw [ho bb];exact h.n bb r
structure Sv (b:aA) (c:List Int) (J:Int→bE) (L:List Ev) (n:Int):Prop where
  ow:Ow b (nm c J)
  cv:∀k,0≤k∧k≤1→(swp L k).Handle=cellAt c k∧(cellAt c k≠0→tQ b.Mem.aD (cellAt c k % 32)=(swp L k).dV)
  jv:∀v,0≤v∧v≤2→Jv b c J (ZY L (J v).aK) v (J v)
  tr:TrL L
  se:(∀e∈L,e.aK≤n)∧(∀v,0≤v∧v≤2→(J v).eG=true→(J v).aK≤n)∧∀v u,0≤v∧v≤2→0≤u∧u≤2→(J v).eG=true→(J u).eG=true→v≠u→(J v).aK≠(J u).aK
theorem iZ(c:List Int)(J:Int→bE){k:Int}(hk:0≤k∧k≤1):nm c J k=cellAt c k:=by unfold nm;rw [if_pos (by omega)]
theorem fA(c:List Int)(J:Int→bE){v:Int}(hv:0≤v∧v≤2):nm c J (v+2)=A3 (J v):=by unfold nm;rw [if_neg (by omega)];congr 2;omega
theorem aCU{i:Int}(hi:0≤i∧i≤4):(0≤i∧i≤1)∨∃v,(0≤v∧v≤2)∧i=v+2:=by
  by_cases h:i≤1
  · exact .inl ⟨hi.1,h⟩
  · exact .inr ⟨i - 2,by omega,by omega⟩
theorem aMH{l:List bA}{r:cW}(hr:r∈bH l)(hh:jN r.Handle):DE l (r.Handle % 32):=⟨r,hr,hh,rfl⟩
theorem p5.live{b:aA}{c:List Int}{J:Int→bE}(hb:mO b)(ho:Ow b (nm c J)){e H:Int}(h:p5 b c J e H)(h0:H≠0):g7 b.Mem H:=by
  rcases h with ⟨k,hk,q⟩ | ⟨v,hv,k1,p3,q,_⟩ | ⟨r,hr,q,_⟩
  · have:=ho.live k (by omega) (by rw [iZ c J hk,q];exact h0)
    rw [iZ c J hk,q] at this;exact this.1
  · have en:A3 (J v)=H:=by unfold A3;rw [if_pos k1,if_neg (by omega),if_pos p3,q]
    have:=ho.live (v+2) (by omega) (by rw [fA c J hv,en];exact h0)
    rw [fA c J hv,en] at this;exact this.1
  · rw [←q];exact(hb.2 r hr).1
theorem p5.apart{b:aA}{c:List Int}{J:Int→bE}(hb:mO b)(ho:Ow b (nm c J)){e H:Int}(h:p5 b c J e H)(h0:H≠0){w:Int}(hw:0≤w∧w≤2)(hk:(J w).Op.Kind=1)(hp:(J w).Pc=1∨(J w).Pc=2)(hn:(J w).H≠0):H % 32≠(J w).H % 32:=by
  intro z
  have ew:A3 (J w)=(J w).H:=by unfold A3;rw [if_pos hk,if_pos hp]
  have lw:=ho.live (w+2) (by omega) (by rw [fA c J hw,ew];exact hn)
  rw [fA c J hw,ew] at lw
  have e2:=aCS (h.live hb ho h0) lw.1 z
  rcases h with ⟨k,hk',q⟩ | ⟨v,hv,k1,p3,q,_⟩ | ⟨r,hr,q,_⟩
  · have:=ho.once k (w+2) (by omega) (by omega) (by rw [iZ c J hk',q];exact h0) (by rw [iZ c J hk',q,fA c J hw,ew,e2])
    omega
  · have en:A3 (J v)=H:=by unfold A3;rw [if_pos k1,if_neg (by omega),if_pos p3,q]
    have:=ho.once (v+2) (w+2) (by omega) (by omega) (by rw [fA c J hv,en];exact h0) (by rw [fA c J hv,en,fA c J hw,ew,e2])
    have:v=w:=by omega
    subst this;omega
  · apply lw.2
    rw [←z,←q]
    exact aMH hr (hb.2 r hr).1.1
end Go.Gv
end
noncomputable section
namespace Go.Gv
noncomputable section
variable {b:aA} {c:List Int} {J:Int→bE} {L:List Ev} {n:Int} (h:Sv b c J L n) (hb:mO b) (hep:Ep b.aC J) {w:Int} (hw:0≤w∧w≤2)
include h hb hep hw
theorem Sv.make{b':aA}{c':List Int}{j':bE}{L':List Ev}{n':Int}(ow':Ow b' (nm c' (LF J w j')))
    (cv':∀k,0≤k∧k≤1→(swp L' k).Handle=cellAt c' k∧(cellAt c' k≠0→tQ b'.Mem.aD (cellAt c' k % 32)=(swp L' k).dV))
    (fr:∀v,0≤v∧v≤2→v≠w→Frm b b' c c' J (LF J w j') v (J v)) (jw:Jv b' c' (LF J w j') (ZY L' j'.aK) w j')
    (rd:∀m,((J w).eG=true→m≠(J w).aK)→ZY L' m=ZY L m) (tr:TrL L') (se:∀e∈L',e.aK≤n') (hn:n≤n')
    (js:j'.eG=true→j'.aK≤n'∧(j'.aK=(J w).aK∧(J w).eG=true∨n < j'.aK)):Sv b' c' (LF J w j') L' n':=by
  refine⟨ow',cv',fun v hv=>?_,tr,se,fun v hv hbv=>?_,fun v u hv hu hbv hbu hvu=>?_⟩
  · by_cases q:v=w
    · subst q;rw [fT];exact jw
    · rw [eD _ _ q]
      refine(h.jv v hv).frame hv hb.1.2.1 (fun g p=>(hep.2 v hv (fun z=>?_) p.1 p.2).1) (fr v hv q) fun bv=>rd _ fun bw=>h.se.2.2 v w hv hw bv bw q
      have:=z.2.2
      rcases g with g | g <;> omega
  · by_cases q:v=w
    · subst q;rw [fT] at hbv ⊢;exact(js hbv).1
    · rw [eD _ _ q] at hbv ⊢
      exact Int.le_trans (h.se.2.1 v hv hbv) hn
  · have key:∀u,0≤u∧u≤2→(J u).eG=true→u≠w→j'.eG=true→j'.aK≠(J u).aK:=fun u hu bu q bw=>by
      rcases(js bw).2 with ⟨a1,a2⟩ | a
      · rw [a1];exact h.se.2.2 w u hw hu a2 bu (fun z=>q z.symm)
      · have:=h.se.2.1 u hu bu;omega
    by_cases q:v=w
    · subst q
      rw [fT] at hbv ⊢
      rw [eD _ _ (fun z=>hvu z.symm)] at hbu ⊢
      exact key u hu hbu (fun z=>hvu z.symm) hbv
    · rw [eD _ _ q] at hbv ⊢
      by_cases q2:u=w
      · subst q2
        rw [fT] at hbu ⊢
        exact fun z=>key v hv hbv q hbu z.symm
      · rw [eD _ _ q2] at hbu ⊢
        exact h.se.2.2 v u hv hu hbv hbu hvu
omit h hb hep in
theorem FU{c':List Int}{j':bE}{i:Int}(hi:0≤i∧i≤4)(q:i≠w+2)(hc:∀k,0≤k∧k≤1→i=k→cellAt c' k=cellAt c k):nm c' (LF J w j') i=nm c J i:=by
  rcases aCU hi with hk | ⟨v,hv,rfl⟩
  · rw [iZ _ _ hk,iZ _ _ hk];exact hc i hk rfl
  · rw [fA _ _ hv,fA _ _ hv,eD _ _ (by omega)]
structure Qt (b b':aA) (J:Int→bE) (w:Int) (j':bE):Prop where
  mem:b'.Mem=b.Mem
  lim:b'.aP=b.aP
  ep:b.aC.aI≤b'.aC.aI
  pin:∀v,0≤v∧v≤2→v≠w→Pinned b'.aC v→Pinned b.aC v∧(bU b'.aC v).aI=(bU b.aC v).aI
  haz:∀v,0≤v∧v≤2→v≠w→pX b'.nA v=pX b.nA v
  name:A3 j'=A3 (J w)
  old:(J w).Op.Kind=1→(J w).Pc=3→j'.Op.Kind=1∧j'.Pc=3∧j'.Old=(J w).Old∧(j'.Sub.Pc=0∨j'.Sub.E=(J w).Sub.E∧(J w).Sub.Pc≠0∨b.aC.aI≤j'.Sub.E)
  col:∀v,0≤v∧v≤2→∀H,pX b.nA v=H→UnJ (J w) v H→UnJ j' v H
omit h hb hep in
theorem Qt.safe{b':aA}{j':bE}(q:Qt b b' J w j'){e H:Int}(he:e≤b.aC.aI)(s:p5 b c J e H):p5 b' c (LF J w j') e H:=by
  rcases s with s | ⟨v,hv,k1,p3,o,s⟩ | s
  · exact .inl s
  · refine .inr (.inl ⟨v,hv,?_⟩)
    by_cases z:v=w
    · subst z
      rw [fT]
      obtain⟨a1,a2,a3,a4⟩:=q.old k1 p3
      refine⟨a1,a2,by rw [a3];exact o,?_⟩
      rcases a4 with a4 | ⟨a4,a5⟩ | a4
      · exact .inl a4
      · rcases s with s | s
        · exact absurd s a5
        · exact .inr (by omega)
      · exact .inr (by omega)
    · rw [eD _ _ z];exact⟨k1,p3,o,s⟩
  · rw [←q.lim] at s;exact .inr (.inr s)
omit h hb hep in
theorem Qt.frm{b':aA}{j':bE}(q:Qt b b' J w j'){v:Int}(hv:0≤v∧v≤2)(hn:v≠w):Frm b b' c c J (LF J w j') v (J v):=by
  refine⟨q.ep,by rw [q.lim],q.pin v hv hn,q.haz v hv hn,fun e H _ he _ s=>q.safe hw he s,fun hz u a ha=>?_,fun e H _ _=>by rw [q.mem],fun _=>by rw [q.mem]⟩
  by_cases z:a=w
  · subst z;rw [fT];exact q.col v hv _ hz (u _ hw)
  · rw [eD _ _ z];exact u a ha
theorem Sv.quiet{b':aA}{j':bE}(q:Qt b b' J w j')(hB:(J w).eG=true)(hser:j'.aK=(J w).aK){l:List Ev}(hl:l=[]∨∃x,l=[FT w (J w) x])
    (jw:Jv b' c (LF J w j') (ZY (L++l) j'.aK) w j'):Sv b' c (LF J w j') (L++l) n:=by
  have ow':Ow b' (nm c (LF J w j')):=h.ow.congr q.mem q.lim fun i hi=>by
    by_cases z:i=w+2
    · subst z;rw [fA _ _ hw,fA _ _ hw,fT,q.name]
    · exact FU hw hi z fun _ _ _=>rfl
  have fr:=fun v (hv:0≤v∧v≤2) hn=>q.frm (c:=c) hw hv hn
  have sn:=h.se.2.1 w hw hB
  rcases hl with rfl | ⟨x,rfl⟩
  · rw [List.append_nil] at jw ⊢
    exact h.make hb hep hw ow' (fun k hk=>by rw [q.mem];exact h.cv k hk) fr jw (fun _ _=>rfl) h.tr h.se.1 (Int.le_refl _) fun _=>⟨by omega,.inl ⟨hser,hB⟩⟩
  · have e2:∀k,swp (L ++ [FT w (J w) x]) k=swp L k:=fun k=>by rw [ZX,if_neg (fun z=>by have:=z.1;simp [FT] at this)]
    refine h.make hb hep hw ow' (fun k hk=>by rw [q.mem,e2];exact h.cv k hk) fr jw (fun m hm=>?_) (h.tr.snoc fun z=>by simp [FT] at z) (fun e he=>?_) (Int.le_refl _) fun _=>⟨by omega,.inl ⟨hser,hB⟩⟩
    · rw [VH,if_neg (fun z=>hm hB z.2.symm)]
    · rcases List.mem_append.1 he with z | z
      · exact h.se.1 e z
      · rw [List.mem_singleton.1 z];exact sn
omit h hb hep hw in
theorem RP(j:bE)(x:Int):ZY (L ++ [FT w j x]) j.aK=some (FT w j x,swp L j.Op.Cell):=by
  rw [VH,if_pos ⟨rfl,rfl⟩];rfl
end
noncomputable section
variable {b:aA} {c:List Int} {J:Int→bE} {o:Option (Ev×Ev)} {v:Int} {j:bE} (hb:j.eG=true)
include hb
theorem GJ(k:j.Op.Kind=2∨j.Op.Kind=7)(g:aRV j→Pinned b.aC v→p5 b c J (bU b.aC v).aI j.H∧∃x,Saw o j.H x∧(¬aCT j→tQ b.Mem.aD (j.H % 32)=x.dV)∧(aCT j→j.dV=x.dV))(t:j.Pc=9∨j.Pc=4→Told o j.Code j.dV):Jv b c J o v j:=
  ⟨fun q=>absurd (hb.symm.trans q) (by decide),fun q=>by omega,fun q=>by omega,fun q=>by omega,fun q=>by omega,fun q=>by omega,g,fun q=>by omega,fun q=>by omega,fun q=>by omega,fun _=>t,fun _ r=>absurd (by unfold Reads;omega) r⟩
theorem Q2(k:j.Op.Kind=3)(z1:j.Pc=1∨j.Pc=2∨j.Pc=3→j.H≠0)(z2:j.Pc=2∨j.Pc=3→pX b.nA v=j.H)(z3:j.Pc=3→p5 b c J 0 j.H∧NY J v j.H∧∃x,Saw o j.H x∧tQ b.Mem.aD (j.H % 32)=x.dV)(t:j.Pc=9∨j.Pc=4→Told o j.Code j.dV):Jv b c J o v j:=
  ⟨fun q=>absurd (hb.symm.trans q) (by decide),fun q=>by omega,fun q=>by omega,fun q=>by omega,fun q=>by omega,fun q=>by omega,fun q=>by rcases q with q | q <;> omega,fun _=>z1,fun _=>z2,fun _=>z3,fun _=>t,fun _ r=>absurd (by unfold Reads;omega) r⟩
theorem Q3(k:j.Op.Kind=1)(s0:j.Pc=0→j.Sub.Kind=1∧j.Sub.cV=false∧0≤j.Sub.Pc∧j.Sub.Pc≤3)(s1:j.Pc=1∨j.Pc=2→j.H≠0)(s2:j.Pc=2→tQ b.Mem.aD (j.H % 32)=j.Op.dV)(s3:j.Pc=3→j.Old≠0∧aXD b j.Old j.Sub)(n:o=none):Jv b c J o v j:=
  ⟨fun q=>absurd (hb.symm.trans q) (by decide),fun _=>s0,fun _=>s1,fun _=>s2,fun _=>s3,fun q=>by omega,fun q=>by rcases q with q | q <;> omega,fun q=>by omega,fun q=>by omega,fun q=>by omega,fun r=>by unfold Reads at r;omega,fun _ _=>n⟩
theorem Q4(k:j.Op.Kind=4∨j.Op.Kind=5∨j.Op.Kind=6)(kk:j.Op.Kind=4→j.Pc=1→aXE b.aC.aI (cY b.aP v) j.Sub)(n:o=none):Jv b c J o v j:=
  ⟨fun q=>absurd (hb.symm.trans q) (by decide),fun q=>by omega,fun q=>by omega,fun q=>by omega,fun q=>by omega,kk,fun q=>by rcases q with q | q <;> omega,fun q=>by omega,fun q=>by omega,fun q=>by omega,fun r=>by unfold Reads at r;omega,fun _ _=>n⟩
end
theorem HX{j:bE}(h:j.Pc=0∨j.Pc=1∧j.Op.Kind=2∨j.Pc=4∨j.Pc=9):¬aRV j:=fun g=>by rcases g with g | g <;> omega
theorem NZ{j:bE}{v H:Int}(h:j.Op.Kind≠4):UnJ j v H:=fun q=>absurd q h
theorem rF{j:bE}(h:j.Op.Kind≠1):A3 j=0:=if_neg h
theorem SW{j:bE}(h1:j.Pc≠1)(h2:j.Pc≠2)(h3:j.Pc≠3):A3 j=0:=by
  unfold A3
  split
  · rw [if_neg (show ¬(j.Pc=1∨j.Pc=2) by omega)]
  · rfl
theorem aNU{j:bE}(k:j.Op.Kind=1)(p:j.Pc=1∨j.Pc=2):A3 j=j.H:=by unfold A3;rw [if_pos k,if_pos p]
theorem nm3{j:bE}(k:j.Op.Kind=1)(p:j.Pc=3):A3 j=j.Old:=by unfold A3;rw [if_pos k,if_neg (by omega),if_pos p]
theorem Q5{b:aA}{J:Int→bE}{w:Int}{j':bE}(name:A3 j'=A3 (J w))(old:(J w).Op.Kind≠1∨(J w).Pc≠3)(col:j'.Op.Kind≠4∨j'.Pc≠1):Qt b b J w j':=
  ⟨rfl,rfl,Int.le_refl _,fun _ _ _ p=>⟨p,rfl⟩,fun _ _ _=>rfl,name,fun k p=>by omega,fun _ _ _ _ _=>by rcases col with q | q;exact NZ q;exact fun _ p=>absurd p q⟩
theorem Q6{b:aA}{cl:aC}{J:Int→bE}{w:Int}{j':bE}(ep:b.aC.aI≤cl.aI)(pin:∀v,0≤v∧v≤2→v≠w→Pinned cl v→Pinned b.aC v∧(bU cl v).aI=(bU b.aC v).aI)(name:A3 j'=A3 (J w))(old:(J w).Op.Kind≠1∨(J w).Pc≠3)(col:j'.Op.Kind≠4∨j'.Pc≠1∨j'.Sub.Pc=0):Qt b ⟨b.Mem,cl,b.aP,b.nA⟩ J w j':=
  ⟨rfl,rfl,ep,pin,fun _ _ _=>rfl,name,fun k p=>by omega,fun _ _ _ _ _=>by
    rcases col with q | q | q
    · exact NZ q
    · exact fun _ p=>absurd p q
    · exact fun _ _ _=>by omega⟩
theorem aRW{b:aA}(hc:I1 b.aC){w:Int}(hw:0≤w∧w≤2)(s:Sub):∃cl:aC,(VD b w s).1=⟨b.Mem,cl,b.aP,b.nA⟩∧cl.aI=b.aC.aI∧∀v,0≤v∧v≤2→v≠w→bU cl v=bU b.aC v:=by
  unfold VD NV
  split
  · exact⟨_,rfl,rfl,fun _ _ _=>rfl⟩
  split
  · split
    · refine⟨⟨b.aC.aI,b.aC.cH.set w.toNat ⟨true,s.E,false,0⟩⟩,rfl,rfl,fun v hv hn=>by rw [wJ hc hw hv,if_neg hn]⟩
    · exact⟨_,rfl,rfl,fun _ _ _=>rfl⟩
  split
  · split
    · exact⟨_,rfl,rfl,fun _ _ _=>rfl⟩
    · exact⟨_,rfl,rfl,fun _ _ _=>rfl⟩
  · exact⟨_,rfl,rfl,fun _ _ _=>rfl⟩
theorem aMI{c:aC}(hc:I1 c){w:Int}(hw:0≤w∧w≤2):(JC c w).1.aI=c.aI∧∀v,0≤v∧v≤2→v≠w→bU (JC c w).1 v=bU c v:=by
  unfold JC
  split
  · exact⟨rfl,fun v hv hn=>by rw [wJ hc hw hv,if_neg hn]⟩
  · exact⟨rfl,fun _ _ _=>rfl⟩
theorem VI{c c':aC}{v:Int}(h:bU c' v=bU c v)(p:Pinned c' v):Pinned c v∧(bU c' v).aI=(bU c v).aI:=by
  unfold Pinned at *;rw [h] at p;exact⟨p,by rw [h]⟩
theorem aKL{b:aA}(hc:I1 b.aC)(s:Sub):∃cl:aC,(sL b s).1=⟨b.Mem,cl,b.aP,b.nA⟩∧b.aC.aI≤cl.aI∧∀v,0≤v∧v≤2→Pinned cl v→Pinned b.aC v∧(bU cl v).aI=(bU b.aC v).aI:=by
  unfold sL
  split
  · exact⟨_,rfl,Int.le_refl _,fun _ _ p=>⟨p,rfl⟩⟩
  split
  · split
    · rename_i hB
      obtain⟨l1,l2,_⟩:=aIO hc hB s.E
      have key:b.aC.aI≤(AZ b.aC s.B s.E).1.aI∧∀v,0≤v∧v≤2→Pinned (AZ b.aC s.B s.E).1 v→Pinned b.aC v∧(bU (AZ b.aC s.B s.E).1 v).aI=(bU b.aC v).aI:=⟨by omega,fun v hv p=>by
        obtain⟨a1,a2,a3⟩:=l2 v hv
        exact⟨⟨by rw [←a1];exact p.1,a3 p.2⟩,a2⟩⟩
      split <;> exact⟨_,rfl,key.1,key.2⟩
    · exact⟨_,rfl,Int.le_refl _,fun _ _ p=>⟨p,rfl⟩⟩
  split
  · refine⟨_,rfl,?_,?_⟩
    · unfold W8;split
      · rename_i q;simp only;omega
      · exact Int.le_refl _
    · intro v hv p
      unfold W8 at p ⊢
      split
      · rename_i q
        rw [if_pos q] at p
        exact⟨p,rfl⟩
      · rename_i q
        rw [if_neg q] at p
        exact⟨p,rfl⟩
  · exact⟨_,rfl,Int.le_refl _,fun _ _ p=>⟨p,rfl⟩⟩
theorem aE8{z:List Int}(hz:HV z){w v:Int}(hw:0≤w∧w≤2)(hv:0≤v∧v≤2){H:Int}(hh:jN H):pX (MN z w H) v=if v=w then H else pX z v:=by
  have:=hz.1
  unfold MN pX
  rw [if_pos hh]
  simp only [List.getD_eq_getElem?_getD,List.getElem?_set]
  by_cases q:v=w
  · subst q;simp [show v.toNat < z.length by omega]
  · rw [if_neg q,if_neg (by omega)]
theorem aUK{z:List Int}(hz:HV z){w v:Int}(hw:0≤w∧w≤2)(hv:0≤v∧v≤2)(hn:v≠w):pX (WS z w) v=pX z v:=by
  unfold WS
  split
  · rfl
  · unfold pX
    simp only [List.getD_eq_getElem?_getD,List.getElem?_set]
    rw [if_neg (by omega)]
theorem aKM{c:List Int}(h2:c.length=2){k i:Int}(hk:0≤k∧k≤1)(hi:0≤i∧i≤1)(x:Int):cellAt (c.set k.toNat x) i=if i=k then x else cellAt c i:=by
  unfold cellAt
  simp only [List.getD_eq_getElem?_getD,List.getElem?_set]
  by_cases q:i=k
  · subst q;simp [show i.toNat < c.length by omega]
  · rw [if_neg q,if_neg (by omega)]
end Go.Gv
end
noncomputable section
namespace Go.Gv
noncomputable section
variable {s:aG} (hs:C7 s) {n:Int} (h:Sv s.aA s.Cells (aL s) s.Log n) (hep:Ep s.aA.aC (aL s)) {w:Int} (hw:0≤w∧w≤2) {j:bE} (hj:aL s w=j) (hb:j.eG=true) (hjk:kX j.Op∧cS j.H∧cS j.Old)
include hs h hep hw hj hb
theorem aCV{pc:Int}(g:aRV j)(l:aCT j):Told (ZY s.Log j.aK) (pY s.aA.aC w j pc).Code (pY s.aA.aC w j pc).dV:=by
  unfold pY
  by_cases q:(bU s.aA.aC w).On=true∧(bU s.aA.aC w).cX=false
  · rw [if_pos q]
    have:=h.jv w hw
    rw [hj] at this
    obtain⟨_,x,⟨e,x1,x2,x3,x4⟩,_,x5⟩:=this.g g q
    refine⟨fun _=>⟨e,x,x1,by rw [x3];exact x4,by rw [x2,x3],(x5 l).symm⟩,fun q=>by simp [dN] at q⟩
  · rw [if_neg q];exact Told.other (by simp [dN]) (by simp [dN])
theorem aGS{e H:Int}(sa:p5 s.aA s.Cells (aL s) e H)(h0:H≠0):WR s.aA.Mem.aD H=tQ s.aA.Mem.aD (H % 32):=by
  have l:=sa.live hs.1 h.ow h0
  exact aRR l.1 (g8 l.2.1)
include hjk
theorem aXF(k2:j.Op.Kind=2):Sv (VF s w j).b (VF s w j).c (LF (aL s) w (VF s w j).j) (s.Log++(VF s w j).l) n:=by
  have hB:(aL s w).eG=true:=by rw [hj];exact hb
  have hc:=hs.1.1.2.1
  have own:=h.jv w hw
  have nk:(aL s w).Op.Kind≠1∨(aL s w).Pc≠3:=.inl (by rw [hj];omega)
  have nm0:∀j':bE,j'.Op.Kind=j.Op.Kind→A3 j'=A3 (aL s w):=fun j' q=>by rw [rF (by omega),rF (by rw [hj];omega)]
  have nc:∀j':bE,j'.Op.Kind=j.Op.Kind→j'.Op.Kind≠4∨j'.Pc≠1:=fun j' q=>.inl (by omega)
  have q0:=fun(j':bE) (q:j'.Op.Kind=j.Op.Kind)=>Q5 (b:=s.aA) (J:=aL s) (w:=w) (nm0 j' q) nk (nc j' q)
  have cell:=hjk.1.2.2.1
  have hcv:=h.cv j.Op.Cell cell
  rw [hj] at own
  unfold VF
  by_cases p0:j.Pc=0
  · rw [if_pos p0]
    obtain⟨_,_,_,i4⟩:=hep.1 w hw hB
    rw [hj] at i4
    obtain⟨sk,sd,_⟩:=i4 ⟨hb,.inl k2,p0⟩
    have es:fX s.aA w j.Sub=VD s.aA w j.Sub:=by unfold fX;simp [sk,sd]
    rw [es]
    obtain⟨cl,e1,e2,e3⟩:=aRW hc hw j.Sub
    simp only [e1]
    refine h.quiet hs.1 hep hw (Q6 (by omega) (fun v hv hn p=>VI (e3 v hv hn) p) (nm0 _ (by split <;> rfl)) nk (.inl (by split <;> (simp only [dN];omega)))) hB (by rw [hj];split <;> rfl) (.inl rfl) ?_
    split
    · exact GJ hb (.inl k2) (fun g=>absurd g (HX (.inr (.inl ⟨rfl,k2⟩)))) (fun q=>by simp [dN] at q)
    · exact GJ hb (.inl k2) (fun g=>absurd g (HX (.inl p0))) (fun q=>by simp only at q;omega)
  rw [if_neg p0]
  by_cases p1:j.Pc=1
  · rw [if_pos p1]
    by_cases c0:cellAt s.Cells j.Op.Cell=0
    · rw [if_pos c0,c0]
      refine h.quiet hs.1 hep hw (by exact q0 _ rfl) hB (by exact(congrArg bE.aK hj).symm) (.inr ⟨0,by rw [hj]⟩) ?_
      have rs:=RP (L:=s.Log) (w:=w) j 0
      refine GJ hb (.inl k2) (fun g=>absurd g (HX (.inr (.inr (.inl rfl))))) fun _=>⟨fun q=>by simp [dN] at q,fun _=>⟨_,_,rs,by rw [hcv.1,c0],rfl⟩⟩
    · rw [if_neg c0]
      refine h.quiet hs.1 hep hw (by exact q0 _ rfl) hB (by exact(congrArg bE.aK hj).symm) (.inr ⟨_,by rw [hj]⟩) ?_
      have rs:=RP (L:=s.Log) (w:=w) j (cellAt s.Cells j.Op.Cell)
      refine GJ hb (.inl k2) (fun _ _=>⟨.inl ⟨_,cell,rfl⟩,_,⟨_,rs,rfl,hcv.1,c0⟩,fun _=>hcv.2 c0,fun l=>?_⟩) (fun q=>by simp [dN] at q)
      rcases l with ⟨_,l⟩ | ⟨l,_⟩
      · simp [dN] at l
      · simp only [dN] at l;omega
  rw [if_neg p1]
  by_cases p2:j.Pc=2
  · rw [if_pos p2]
    have q:=q0 (dN {j with dV:=WR s.aA.Mem.aD j.H} 3 0) rfl
    refine h.quiet hs.1 hep hw q hB (by exact(congrArg bE.aK hj).symm) (.inl rfl) ?_
    rw [List.append_nil]
    refine GJ hb (.inl k2) (fun _ p=>?_) (fun q=>by simp [dN] at q)
    obtain⟨sa,x,x1,x2,_⟩:=own.g (.inl ⟨k2,.inl p2⟩) p
    have x2:=x2 fun l=>by rcases l with l | l <;> omega
    have h0:=x1.choose_spec.2.2.2
    refine⟨q.safe hw ((QX hc hw).1.2) sa,x,x1,fun nl=>absurd (.inl ⟨k2,rfl⟩) nl,fun _=>?_⟩
    show WR s.aA.Mem.aD j.H=x.dV
    rw [aGS hs h hep hw hj hb sa h0,x2]
  rw [if_neg p2]
  by_cases p3:j.Pc=3
  · rw [if_pos p3]
    have ct:=aCV hs h hep hw hj hb (pc:=4) (.inl ⟨k2,.inr p3⟩) (.inl ⟨k2,p3⟩)
    have ce:(pY s.aA.aC w j 4).Op=j.Op∧(pY s.aA.aC w j 4).aK=j.aK∧(pY s.aA.aC w j 4).eG=true∧(pY s.aA.aC w j 4).Pc=4:=by unfold pY;split <;> exact⟨rfl,rfl,hb,rfl⟩
    generalize pY s.aA.aC w j 4=j' at ct ce
    refine h.quiet hs.1 hep hw (by exact q0 _ (by rw [ce.1])) hB (by rw [hj];exact ce.2.1) (.inl rfl) ?_
    rw [List.append_nil]
    exact GJ ce.2.2.1 (.inl (by rw [ce.1];exact k2)) (fun g=>absurd g (HX (.inr (.inr (.inl ce.2.2.2))))) fun _=>by rw [ce.2.1];exact ct
  rw [if_neg p3]
  by_cases p4:j.Pc=4
  · rw [if_pos p4]
    obtain⟨u1,u2⟩:=aMI hc hw
    refine h.quiet hs.1 hep hw (Q6 (by omega) (fun v hv hn p=>VI (u2 v hv hn) p) (nm0 (dN j 9 j.Code) rfl) nk (.inl (by simp only [dN];omega))) hB (by exact(congrArg bE.aK hj).symm) (.inl rfl) ?_
    rw [List.append_nil]
    exact GJ hb (.inl k2) (fun g=>absurd g (HX (.inr (.inr (.inr rfl))))) fun _=>own.t (.inl k2) (.inr p4)
  rw [if_neg p4]
  refine h.quiet hs.1 hep hw (by exact q0 _ rfl) hB (by exact(congrArg bE.aK hj).symm) (.inl rfl) ?_
  exact GJ hb (.inl k2) (fun g=>absurd g (HX (.inr (.inr (.inr rfl))))) fun _=>Told.other (by simp [dN]) (by simp [dN])
theorem aUL(k7:j.Op.Kind=7):Sv (Q0 s w j).b (Q0 s w j).c (LF (aL s) w (Q0 s w j).j) (s.Log++(Q0 s w j).l) n:=by
  have hB:(aL s w).eG=true:=by rw [hj];exact hb
  have hc:=hs.1.1.2.1
  have own:=h.jv w hw
  have nk:(aL s w).Op.Kind≠1∨(aL s w).Pc≠3:=.inl (by rw [hj];omega)
  have nm0:∀j':bE,j'.Op.Kind=j.Op.Kind→A3 j'=A3 (aL s w):=fun j' q=>by rw [rF (by omega),rF (by rw [hj];omega)]
  have nc:∀j':bE,j'.Op.Kind=j.Op.Kind→j'.Op.Kind≠4∨j'.Pc≠1:=fun j' q=>.inl (by omega)
  have q0:=fun(j':bE) (q:j'.Op.Kind=j.Op.Kind)=>Q5 (b:=s.aA) (J:=aL s) (w:=w) (nm0 j' q) nk (nc j' q)
  have cell:=hjk.1.2.2.1
  have hcv:=h.cv j.Op.Cell cell
  rw [hj] at own
  have fin:∀{j':bE},j'.Op=j.Op→j'.aK=j.aK→j'.eG=true→j'.Pc=9→Told (ZY s.Log j.aK) j'.Code j'.dV→Sv s.aA s.Cells (LF (aL s) w j') (s.Log ++ []) n:=fun e1 e2 e3 e4 e5=>by
    refine h.quiet hs.1 hep hw (by exact q0 _ (by rw [e1])) hB (by rw [hj];exact e2) (.inl rfl) ?_
    rw [List.append_nil]
    exact GJ e3 (.inr (by rw [e1];exact k7)) (fun g=>absurd g (HX (.inr (.inr (.inr e4))))) fun _=>by rw [e2];exact e5
  unfold Q0
  by_cases p0:j.Pc=0
  · rw [if_pos p0]
    split
    · exact fin rfl rfl hb rfl (Told.other (by simp [dN]) (by simp [dN]))
    split
    · exact fin rfl rfl hb rfl (Told.other (by simp [dN]) (by simp [dN]))
    by_cases c0:cellAt s.Cells j.Op.Cell=0
    · rw [if_pos c0,c0]
      refine h.quiet hs.1 hep hw (by exact q0 _ rfl) hB (by exact(congrArg bE.aK hj).symm) (.inr ⟨0,by rw [hj]⟩) ?_
      have rs:=RP (L:=s.Log) (w:=w) j 0
      refine GJ hb (.inr k7) (fun g=>absurd g (HX (.inr (.inr (.inr rfl))))) fun _=>⟨fun q=>by simp [dN] at q,fun _=>⟨_,_,rs,by rw [hcv.1,c0],rfl⟩⟩
    · rw [if_neg c0]
      refine h.quiet hs.1 hep hw (by exact q0 _ rfl) hB (by exact(congrArg bE.aK hj).symm) (.inr ⟨_,by rw [hj]⟩) ?_
      have rs:=RP (L:=s.Log) (w:=w) j (cellAt s.Cells j.Op.Cell)
      refine GJ hb (.inr k7) (fun _ _=>⟨.inl ⟨_,cell,rfl⟩,_,⟨_,rs,rfl,hcv.1,c0⟩,fun _=>hcv.2 c0,fun l=>?_⟩) (fun q=>by simp [dN] at q)
      rcases l with ⟨l,_⟩ | ⟨_,l⟩
      · simp only [dN] at l;omega
      · simp [dN] at l
  rw [if_neg p0]
  by_cases p1:j.Pc=1
  · rw [if_pos p1]
    have q:=q0 (dN {j with dV:=WR s.aA.Mem.aD j.H} 2 0) rfl
    refine h.quiet hs.1 hep hw q hB (by exact(congrArg bE.aK hj).symm) (.inl rfl) ?_
    rw [List.append_nil]
    refine GJ hb (.inr k7) (fun _ p=>?_) (fun q=>by simp [dN] at q)
    obtain⟨sa,x,x1,x2,_⟩:=own.g (.inr ⟨k7,.inl p1⟩) p
    have x2:=x2 fun l=>by rcases l with l | l <;> omega
    have h0:=x1.choose_spec.2.2.2
    refine⟨q.safe hw ((QX hc hw).1.2) sa,x,x1,fun nl=>absurd (.inr ⟨k7,rfl⟩) nl,fun _=>?_⟩
    show WR s.aA.Mem.aD j.H=x.dV
    rw [aGS hs h hep hw hj hb sa h0,x2]
  rw [if_neg p1]
  by_cases p2:j.Pc=2
  · rw [if_pos p2]
    have ct:=aCV hs h hep hw hj hb (pc:=9) (.inr ⟨k7,.inr p2⟩) (.inr ⟨k7,p2⟩)
    have ce:(pY s.aA.aC w j 9).Op=j.Op∧(pY s.aA.aC w j 9).aK=j.aK∧(pY s.aA.aC w j 9).eG=true∧(pY s.aA.aC w j 9).Pc=9:=by unfold pY;split <;> exact⟨rfl,rfl,hb,rfl⟩
    exact fin ce.1 ce.2.1 ce.2.2.1 ce.2.2.2 ct
  rw [if_neg p2]
  exact fin rfl rfl hb rfl (Told.other (by simp [dN]) (by simp [dN]))
theorem aXG(k3:j.Op.Kind=3):Sv (aCO s w j).b (aCO s w j).c (LF (aL s) w (aCO s w j).j) (s.Log++(aCO s w j).l) n:=by
  have hB:(aL s w).eG=true:=by rw [hj];exact hb
  have hc:=hs.1.1.2.1
  have hz:=hs.1.1.2.2.2
  have own:=h.jv w hw
  have nk:(aL s w).Op.Kind≠1∨(aL s w).Pc≠3:=.inl (by rw [hj];omega)
  have nm0:∀j':bE,j'.Op.Kind=j.Op.Kind→A3 j'=A3 (aL s w):=fun j' q=>by rw [rF (by omega),rF (by rw [hj];omega)]
  have nc:∀j':bE,j'.Op.Kind=j.Op.Kind→j'.Op.Kind≠4∨j'.Pc≠1:=fun j' q=>.inl (by omega)
  have q0:=fun(j':bE) (q:j'.Op.Kind=j.Op.Kind)=>Q5 (b:=s.aA) (J:=aL s) (w:=w) (nm0 j' q) nk (nc j' q)
  have cell:=hjk.1.2.2.1
  have hcv:=h.cv j.Op.Cell cell
  rw [hj] at own
  unfold aCO
  by_cases p0:j.Pc=0
  · rw [if_pos p0]
    by_cases c0:cellAt s.Cells j.Op.Cell=0
    · rw [if_pos c0]
      refine h.quiet hs.1 hep hw (by exact q0 _ rfl) hB (by exact(congrArg bE.aK hj).symm) (.inr ⟨0,by rw [hj]⟩) ?_
      have rs:=RP (L:=s.Log) (w:=w) j 0
      exact Q2 hb k3 (fun q=>by simp [dN] at q) (fun q=>by simp [dN] at q) (fun q=>by simp [dN] at q) fun _=>⟨fun q=>by simp [dN] at q,fun _=>⟨_,_,rs,by rw [hcv.1,c0],rfl⟩⟩
    · rw [if_neg c0]
      refine h.quiet hs.1 hep hw (by exact q0 _ rfl) hB (by exact(congrArg bE.aK hj).symm) (.inl rfl) ?_
      exact Q2 hb k3 (fun _=>c0) (fun q=>by simp [dN] at q) (fun q=>by simp [dN] at q) (fun q=>by simp [dN] at q)
  rw [if_neg p0]
  by_cases p1:j.Pc=1
  · rw [if_pos p1]
    have h0:=own.z1 k3 (.inl p1)
    have hh:jN j.H:=hjk.2.1.resolve_left h0
    have q:Qt s.aA ⟨s.aA.Mem,s.aA.aC,s.aA.aP,MN s.aA.nA w j.H⟩ (aL s) w (dN j 2 0):=⟨rfl,rfl,Int.le_refl _,fun _ _ _ p=>⟨p,rfl⟩,fun v hv hn=>by rw [aE8 hz hw hv hh,if_neg hn],nm0 _ rfl,fun k p=>by omega,fun _ _ _ _ _=>NZ (by simp only [dN];omega)⟩
    refine h.quiet hs.1 hep hw q hB (by exact(congrArg bE.aK hj).symm) (.inl rfl) ?_
    exact Q2 hb k3 (fun _=>h0) (fun _=>by rw [aE8 hz hw hw hh,if_pos rfl];rfl) (fun q=>by simp [dN] at q) (fun q=>by simp [dN] at q)
  rw [if_neg p1]
  by_cases p2:j.Pc=2
  · rw [if_pos p2]
    by_cases ce:cellAt s.Cells j.Op.Cell=j.H
    · rw [if_pos ce]
      have h0:=own.z1 k3 (.inr (.inl p2))
      refine h.quiet hs.1 hep hw (by exact q0 _ rfl) hB (by exact(congrArg bE.aK hj).symm) (.inr ⟨j.H,by rw [hj]⟩) ?_
      have rs:=RP (L:=s.Log) (w:=w) j j.H
      refine Q2 hb k3 (fun _=>h0) (fun _=>own.z2 k3 (.inl p2)) (fun _=>⟨.inl ⟨_,cell,ce⟩,fun a ha=>?_,_,⟨_,rs,rfl,by rw [hcv.1,ce];rfl,h0⟩,?_⟩) (fun q=>by simp [dN] at q)
      · by_cases z:a=w
        · subst z;rw [fT];exact NZ (by simp only [dN];omega)
        · rw [eD _ _ z]
          intro k4 a1 aH
          simp only [dN] at aH
          obtain⟨_,_,ck⟩:=(h.jv a ha).k k4 a1
          have hl:=(h.ow.live j.Op.Cell (by omega) (by rw [iZ _ _ cell,ce];exact h0)).2
          rw [iZ _ _ cell,ce] at hl
          have no:∀{l},FR (cY s.aA.aP a) l→l.H=j.H→False:=fun{l} at_ e=>by
            obtain⟨b1,b2,b3⟩:=at_
            have hm:=QZ hs.1.1.2.2.1 ha (aCL (l:=cY s.aA.aP a) (k:=l.Row) ⟨b1,b2⟩)
            apply hl
            rw [←e,←b3]
            exact aMH hm (hs.1.2 _ hm).1.1
          rcases ck with ck | ⟨_,ck | ck | ck⟩
          · exact⟨fun z=>by omega,by omega⟩
          · exact⟨fun z=>by omega,by omega⟩
          · exact absurd (no ck.2.2.1 aH) id
          · exact absurd (no ck.2.1 aH) id
      · show tQ s.aA.Mem.aD (j.H % 32)=_
        rw [←ce];exact hcv.2 (by rw [ce];exact h0)
    · rw [if_neg ce]
      refine h.quiet hs.1 hep hw (by exact q0 _ rfl) hB (by exact(congrArg bE.aK hj).symm) (.inl rfl) ?_
      exact Q2 hb k3 (fun q=>by simp [dN] at q) (fun q=>by simp [dN] at q) (fun q=>by simp [dN] at q) (fun q=>by simp [dN] at q)
  rw [if_neg p2]
  by_cases p3:j.Pc=3
  · rw [if_pos p3]
    refine h.quiet hs.1 hep hw (by exact q0 _ rfl) hB (by exact(congrArg bE.aK hj).symm) (.inl rfl) ?_
    rw [List.append_nil]
    obtain⟨sa,u,x,x1,x2⟩:=own.z3 k3 p3
    obtain⟨e,y1,y2,y3,h0⟩:=x1
    refine Q2 hb k3 (fun q=>by simp [dN] at q) (fun q=>by simp [dN] at q) (fun q=>by simp [dN] at q) fun _=>⟨fun _=>⟨e,x,y1,by rw [y3];exact h0,by rw [y2,y3],?_⟩,fun q=>by simp [dN] at q⟩
    show x.dV=WR s.aA.Mem.aD j.H
    rw [aGS hs h hep hw hj hb sa h0,x2]
  rw [if_neg p3]
  by_cases p4:j.Pc=4
  · rw [if_pos p4]
    have q:Qt s.aA ⟨s.aA.Mem,s.aA.aC,s.aA.aP,WS s.aA.nA w⟩ (aL s) w (dN j 9 j.Code):=⟨rfl,rfl,Int.le_refl _,fun _ _ _ p=>⟨p,rfl⟩,fun v hv hn=>aUK hz hw hv hn,nm0 _ rfl,fun k p=>by omega,fun _ _ _ _ _=>NZ (by simp only [dN];omega)⟩
    refine h.quiet hs.1 hep hw q hB (by exact(congrArg bE.aK hj).symm) (.inl rfl) ?_
    rw [List.append_nil]
    exact Q2 hb k3 (fun q=>by simp [dN] at q) (fun q=>by simp [dN] at q) (fun q=>by simp [dN] at q) fun _=>own.t (.inr (.inl k3)) (.inr p4)
  rw [if_neg p4]
  refine h.quiet hs.1 hep hw (by exact q0 _ rfl) hB (by exact(congrArg bE.aK hj).symm) (.inl rfl) ?_
  exact Q2 hb k3 (fun q=>by simp [dN] at q) (fun q=>by simp [dN] at q) (fun q=>by simp [dN] at q) fun _=>Told.other (by simp [dN]) (by simp [dN])
end
end Go.Gv
end
noncomputable section
namespace Go.Gv
theorem map_inj{α:Type}{f:α→Int}:∀{l:List α},(l.map f).Nodup→∀x∈l,∀y∈l,f x=f y→x=y
  | [],_,x,hx,_,_,_=>by cases hx
  | a :: t, h, x, hx, y, hy, e => by
    rw [List.map_cons,List.nodup_cons] at h
    rcases List.mem_cons.1 hx with ex | hx
    · rcases List.mem_cons.1 hy with ey | hy
      · rw [ex,ey]
      · exact absurd (List.mem_map.2 ⟨y,hy,by rw [←e,ex]⟩) h.1
    · rcases List.mem_cons.1 hy with ey | hy
      · exact absurd (List.mem_map.2 ⟨x,hx,by rw [e,ey]⟩) h.1
      · exact map_inj h.2 x hx y hy e
theorem aCW{l:List bA}(h3:l.length=3){w v:Int}(hw:0≤w∧w≤2)(hv:0≤v∧v≤2)(hn:v≠w)(x:bA):cY (l.set w.toNat x) v=cY l v:=by
  unfold cY
  simp only [List.getD_eq_getElem?_getD,List.getElem?_set]
  rw [if_neg (by omega)]
theorem aRX{l:List bA}(hl:oF l){w:Int}(hw:0≤w∧w≤2){x r:cW}:r∈bH (l.set w.toNat ⟨cY l w ++ [x]⟩)↔r∈bH l∨r=x:=by
  have h3:=hl.1
  have kx:w.toNat < l.length:=by omega
  have hrow:l[w.toNat].Rows=cY l w:=by
    have:=D2 hl hw
    rw [fP hw.1 (by omega)] at this
    injection this with this
    rw [this]
  rw [DZ kx,AX kx,hrow]
  simp only [List.mem_append,List.mem_singleton]
  constructor
  · rintro(a | (a | a) | a)
    · exact .inl (.inl a)
    · exact .inl (.inr (.inl a))
    · exact .inr a
    · exact .inl (.inr (.inr a))
  · rintro((a | a | a) | a)
    · exact .inl a
    · exact .inr (.inl (.inl a))
    · exact .inr (.inr a)
    · exact .inr (.inl (.inr a))
noncomputable section
variable {s:aG} (hs:C7 s) {n:Int} (h:Sv s.aA s.Cells (aL s) s.Log n) (hep:Ep s.aA.aC (aL s)) {w:Int} (hw:0≤w∧w≤2) {j:bE} (hj:aL s w=j) (hb:j.eG=true) (hjk:kX j.Op∧cS j.H∧cS j.Old)
include hs h hep hw hj hb
theorem aIT{b':aA}(hl:b'.aP=s.aA.aP){j':bE}(h3:(aL s w).Pc≠3∨(aL s w).Op.Kind≠1){e H:Int}(sa:p5 s.aA s.Cells (aL s) e H):p5 b' s.Cells (LF (aL s) w j') e H:=by
  rcases sa with sa | ⟨v,hv,k1,p3,o⟩ | sa
  · exact .inl sa
  · have z:v≠w:=fun z=>by subst z;omega
    exact .inr (.inl ⟨v,hv,by rw [eD _ _ z];exact⟨k1,p3,o⟩⟩)
  · rw [←hl] at sa;exact .inr (.inr sa)
theorem aGT{j':bE}(hk:j'.Op.Kind≠4){v H:Int}(u:NY (aL s) v H):NY (LF (aL s) w j') v H:=fun a ha=>by
  by_cases z:a=w
  · subst z;rw [fT];exact NZ hk
  · rw [eD _ _ z];exact u a ha
include hjk
theorem aXH(k1:j.Op.Kind=1):Sv (WT s w j).b (WT s w j).c (LF (aL s) w (WT s w j).j) (s.Log++(WT s w j).l) n:=by
  have hB:(aL s w).eG=true:=by rw [hj];exact hb
  have hc:=hs.1.1.2.1
  have hm:=hs.1.1.1
  have own:=h.jv w hw
  have cell:=hjk.1.2.2.1
  have hcv:=h.cv j.Op.Cell cell
  have hval:0≤j.Op.dV∧j.Op.dV≤65535:=by have:=hjk.1.2.2.2;rw [if_pos k1] at this;exact this.2
  have sn:=h.se.2.1 w hw hB
  rw [hj] at own sn
  have rn:=own.n hb (by unfold Reads;omega)
  have i4:(w+2:Int) ≥ 0∧w+2≤4:=by omega
  unfold WT
  by_cases p0:j.Pc=0
  · rw [if_pos p0]
    obtain⟨sk,sd,sp⟩:=own.s0 k1 p0
    obtain⟨e1,e2,e3,e4⟩:=aUI hm hw sk sd sp
    have eb:(fX s.aA w j.Sub).1=⟨(fX s.aA w j.Sub).1.Mem,s.aA.aC,s.aA.aP,s.aA.nA⟩:=by rw [←e1,←e2,←e3]
    have n0:A3 (aL s w)=0:=by rw [hj];exact SW (by omega) (by omega) (by omega)
    have nk:(aL s w).Op.Kind≠1∨(aL s w).Pc≠3:=.inr (by rw [hj];omega)
    generalize hr:fX s.aA w j.Sub=r at e1 e2 e3 e4 eb
    rcases e4 with ⟨m0,m1⟩ | ⟨d,c0,hn,lv,tk⟩
    · rw [m0] at eb
      have eb':r.1=s.aA:=by rw [eb]
      have q:=fun(j':bE) (hk:j'.Op.Kind=j.Op.Kind) (hp:j'.Pc=0∨j'.Pc=9)=>Q5 (b:=s.aA) (J:=aL s) (w:=w) (j':=j') (by rw [n0,SW (by omega) (by omega) (by omega)]) nk (.inl (by omega))
      rcases m1 with ⟨d,c0⟩ | ⟨d,m1⟩
      · rw [if_pos d,if_pos c0,eb']
        refine h.quiet hs.1 hep hw (by exact q _ rfl (.inr rfl)) hB (by exact(congrArg bE.aK hj).symm) (.inl rfl) ?_
        rw [List.append_nil]
        exact Q3 hb k1 (fun q=>by simp [dN] at q) (fun q=>by simp [dN] at q) (fun q=>by simp [dN] at q) (fun q=>by simp [dN] at q) rn
      · rw [d,if_neg (by simp),eb']
        refine h.quiet hs.1 hep hw (by exact q _ rfl (.inl p0)) hB (by rw [hj]) (.inl rfl) ?_
        rw [List.append_nil]
        exact Q3 hb k1 (fun _=>⟨m1.1,d,m1.2⟩) (fun q=>by simp only at q;omega) (fun q=>by simp only at q;omega) (fun q=>by simp only at q;omega) rn
    · rw [if_pos d,if_neg (by omega),if_pos hn,List.append_nil]
      have h0:r.2.Out≠0:=by unfold jN at hn;omega
      have nj:A3 (dN {j with Sub:=r.2,H:=r.2.Out} 1 0)=r.2.Out:=aNU k1 (.inl rfl)
      have dat:∀H,g7 s.aA.Mem H→tQ r.1.Mem.aD (H % 32)=tQ s.aA.Mem.aD (H % 32):=fun H hl=>(tk.same _ hl.2.1).2
      refine h.make hs.1 hep hw ?_ (fun k hk=>?_) (fun v hv hn=>⟨by rw [e1];exact Int.le_refl _,by rw [e2],fun p=>by rw [e1] at p ⊢;exact⟨p,rfl⟩,by rw [e3],fun e H _ _ _ sa=>aIT hs h hep hw hj hb e2 nk.symm sa,fun _ u=>aGT hs h hep hw hj hb (by simp only [dN];omega) u,fun e H sa hH=>dat H (sa.live hs.1 h.ow hH),fun hH=>?_⟩) ?_ (fun _ _=>rfl) h.tr h.se.1 (Int.le_refl _) fun _=>⟨sn,.inl ⟨by rw [hj];rfl,hB⟩⟩
      · refine h.ow.a0I hs.1 e2 tk lv (i:=w+2) ⟨by omega,by omega⟩ (by rw [fA _ _ hw,n0]) (by rw [fA _ _ hw,fT,nj]) fun i hi q=>FU hw hi q fun _ _ _=>rfl
      · refine⟨(h.cv k hk).1,fun q=>?_⟩
        have l:=(h.ow.live k (by omega) (by rw [iZ _ _ hk];exact q)).1
        rw [iZ _ _ hk] at l
        rw [dat _ l];exact(h.cv k hk).2 q
      · have l:=(h.ow.live (v+2) (by omega) (by rw [fA _ _ hv];exact hH)).1
        rw [fA _ _ hv] at l
        exact dat _ l
      · exact Q3 hb k1 (fun q=>by simp [dN] at q) (fun _=>h0) (fun q=>by simp [dN] at q) (fun q=>by simp [dN] at q) rn
  rw [if_neg p0]
  by_cases p1:j.Pc=1
  · rw [if_pos p1]
    have nk:(aL s w).Op.Kind≠1∨(aL s w).Pc≠3:=.inr (by rw [hj];omega)
    have hH:=own.s1 k1 (.inl p1)
    have nw:A3 (aL s w)=j.H:=by rw [hj];exact aNU k1 (.inl p1)
    have lv:=(h.ow.live (w+2) (by omega) (by rw [fA _ _ hw,nw];exact hH)).1
    rw [fA _ _ hw,nw] at lv
    obtain⟨c0,st⟩:=aIQ hm lv hval
    rw [c0,if_pos rfl,List.append_nil]
    have nj:A3 (dN j 2 0)=j.H:=aNU (j:=dN j 2 0) k1 (.inr rfl)
    have dat:∀H,g7 s.aA.Mem H→H % 32≠j.H % 32→tQ (AJ s.aA.Mem j.H j.Op.dV).1.aD (H % 32)=tQ s.aA.Mem.aD (H % 32):=fun H hl q=>by rw [st.dat _ (g8 hl.2.1),if_neg q]
    have gen:∀H,g7 s.aA.Mem H→hY (AJ s.aA.Mem j.H j.Op.dV).1.aD (H % 32)=hY s.aA.Mem.aD (H % 32):=fun H hl=>st.gen _ (g8 hl.2.1)
    have ap:∀i,0≤i∧i≤4→i≠w+2→nm s.Cells (aL s) i≠0→nm s.Cells (aL s) i % 32≠j.H % 32:=fun i hi q hn e=>by
      have l:=(h.ow.live i hi hn).1
      have:=aCS l lv e
      exact q (h.ow.once i (w+2) hi (by omega) hn (by rw [fA _ _ hw,nw];exact this))
    refine h.make hs.1 hep hw ?_ (fun k hk=>?_) (fun v hv hn=>⟨Int.le_refl _,rfl,fun p=>⟨p,rfl⟩,rfl,fun e H _ _ _ sa=>aIT hs h hep hw hj hb rfl nk.symm sa,fun _ u=>aGT hs h hep hw hj hb (by simp only [dN];omega) u,fun e H sa hH'=>?_,fun hH'=>?_⟩) ?_ (fun _ _=>rfl) h.tr h.se.1 (Int.le_refl _) fun _=>⟨sn,.inl ⟨by rw [hj];rfl,hB⟩⟩
    · have he:∀i,0≤i∧i≤4→nm s.Cells (LF (aL s) w (dN j 2 0)) i=nm s.Cells (aL s) i:=fun i hi=>by
        by_cases z:i=w+2
        · subst z;rw [fA _ _ hw,fA _ _ hw,fT,nj,nw]
        · exact FU hw hi z fun _ _ _=>rfl
      refine⟨fun i hi hn=>?_,fun i k hi hk hn e=>?_,fun t ht hh=>?_⟩
      · rw [he i hi] at hn ⊢
        obtain⟨a,b⟩:=h.ow.live i hi hn
        exact⟨⟨a.1,by rw [st.state];exact a.2.1,by rw [gen _ a];exact a.2.2⟩,b⟩
      · rw [he i hi] at hn
        rw [he i hi,he k hk] at e
        exact h.ow.once i k hi hk hn e
      · rw [st.state] at ht
        obtain⟨i,a,b,c⟩:=h.ow.all t ht hh
        exact⟨i,a,by rw [he i a];exact b,by rw [he i a];exact c⟩
    · refine⟨(h.cv k hk).1,fun q=>?_⟩
      have hn:nm s.Cells (aL s) k≠0:=by rw [iZ _ _ hk];exact q
      have l:=(h.ow.live k (by omega) hn).1
      have a:=ap k (by omega) (by omega) hn
      rw [iZ _ _ hk] at l a
      show tQ (AJ s.aA.Mem j.H j.Op.dV).1.aD _=_
      rw [dat _ l a];exact(h.cv k hk).2 q
    · have l:=sa.live hs.1 h.ow hH'
      have a:=sa.apart hs.1 h.ow hH' hw (by rw [hj];exact k1) (by rw [hj];exact .inl p1) (by rw [hj];exact hH)
      rw [hj] at a
      exact dat _ l a
    · have hn':nm s.Cells (aL s) (v+2)≠0:=by rw [fA _ _ hv];exact hH'
      have l:=(h.ow.live (v+2) (by omega) hn').1
      have a:=ap (v+2) (by omega) (by omega) hn'
      rw [fA _ _ hv] at l a
      exact dat _ l a
    · refine Q3 hb k1 (fun q=>by simp [dN] at q) (fun _=>hH) (fun _=>?_) (fun q=>by simp [dN] at q) rn
      show tQ (AJ s.aA.Mem j.H j.Op.dV).1.aD (j.H % 32)=j.Op.dV
      rw [st.dat _ (g8 lv.2.1),if_pos rfl]
  rw [if_neg p1]
  by_cases p2:j.Pc=2
  · rw [if_pos p2]
    have hH:=own.s1 k1 (.inr p2)
    have nw:A3 (aL s w)=j.H:=by rw [hj];exact aNU k1 (.inr p2)
    have c2:=hs.2.1
    have cs:=fun i (hi:0≤i∧i≤1)=>aKM (c:=s.Cells) c2 cell hi j.H
    have je:∃j',(if cellAt s.Cells j.Op.Cell=0 then dN {j with Old:=0} 9 0 else dN {j with Sub:=O4 2 (cellAt s.Cells j.Op.Cell),Old:=cellAt s.Cells j.Op.Cell} 3 0)=j'∧A3 j'=cellAt s.Cells j.Op.Cell∧j'.Op=j.Op∧j'.aK=j.aK∧j'.eG=true∧(cellAt s.Cells j.Op.Cell≠0→j'.Pc=3∧j'.Old=cellAt s.Cells j.Op.Cell∧j'.Sub.Pc=0) ∧
        ((cellAt s.Cells j.Op.Cell=0∧j'.Pc=9)∨j'.Pc=3∧j'.Old≠0∧aXD s.aA j'.Old j'.Sub):=by
      by_cases c0:cellAt s.Cells j.Op.Cell=0
      · exact⟨dN {j with Old:=0} 9 0,by rw [if_pos c0],by rw [c0];exact SW (by simp [dN]) (by simp [dN]) (by simp [dN]),rfl,rfl,hb,fun z=>absurd c0 z,.inl ⟨c0,rfl⟩⟩
      · exact⟨dN {j with Sub:=O4 2 (cellAt s.Cells j.Op.Cell),Old:=cellAt s.Cells j.Op.Cell} 3 0,by rw [if_neg c0],nm3 k1 rfl,rfl,rfl,hb,fun _=>⟨rfl,rfl,rfl⟩,.inr ⟨rfl,c0,rfl,rfl,rfl,.inl rfl⟩⟩
    obtain⟨j',ej,nj,jo,jse,jb,j3,jc⟩:=je
    rw [ej]
    generalize hE:(⟨2,w,j.aK,j.Op.Cell,j.H,j.Op.dV,0⟩:Ev)=E
    have eK:E.Kind=2:=by rw [←hE]
    have eC:E.Cell=j.Op.Cell:=by rw [←hE]
    have eH:E.Handle=j.H:=by rw [←hE]
    have eV:E.dV=j.Op.dV:=by rw [←hE]
    have eS:E.aK=j.aK:=by rw [←hE]
    have sE:∀k,swp (s.Log ++ [E]) k=if k=j.Op.Cell then E else swp s.Log k:=fun k=>by
      rw [ZX,eK,eC]
      by_cases z:k=j.Op.Cell
      · rw [if_pos ⟨rfl,z.symm⟩,if_pos z]
      · rw [if_neg (fun q=>z q.2.symm),if_neg z]
    have rE:∀m,ZY (s.Log ++ [E]) m=ZY s.Log m:=fun m=>by rw [VH,if_neg (fun z=>by have:=z.1;omega)]
    have safe:∀e H,H≠0→p5 s.aA s.Cells (aL s) e H→p5 s.aA (s.Cells.set j.Op.Cell.toNat j.H) (LF (aL s) w j') e H:=fun e H h0 sa=>by
      rcases sa with ⟨k,hk,q⟩ | ⟨v,hv,v1,v2,v3⟩ | sa
      · by_cases z:k=j.Op.Cell
        · subst z
          obtain⟨a1,a2,a3⟩:=j3 (by rw [q];exact h0)
          exact .inr (.inl ⟨w,hw,by rw [fT,jo];exact⟨k1,a1,by rw [a2,q],.inl a3⟩⟩)
        · exact .inl ⟨k,hk,by rw [cs k hk,if_neg z];exact q⟩
      · have z:v≠w:=fun z=>by subst z;rw [hj] at v2;omega
        exact .inr (.inl ⟨v,hv,by rw [eD _ _ z];exact⟨v1,v2,v3⟩⟩)
      · exact .inr (.inr sa)
    show Sv s.aA (s.Cells.set j.Op.Cell.toNat j.H) (LF (aL s) w j') (s.Log ++ [E]) n
    refine h.make hs.1 hep hw ?_ (fun k hk=>?_) (fun v hv hn=>⟨Int.le_refl _,rfl,fun p=>⟨p,rfl⟩,rfl,fun e H h0 _ _ sa=>safe e H h0 sa,fun _ u=>aGT hs h hep hw hj hb (by rw [jo];omega) u,fun _ _ _ _=>rfl,fun _=>rfl⟩) ?_ (fun m _=>rE m) (h.tr.snoc fun z=>by omega) (fun e he=>?_) (Int.le_refl _) fun _=>⟨by rw [jse];exact sn,.inl ⟨by rw [hj];exact jse,hB⟩⟩
    · refine h.ow.perm rfl rfl (fun i=>if i=j.Op.Cell then w+2 else if i=w+2 then j.Op.Cell else i) (fun i hi=>?_) (fun i=>?_) (fun i hi=>?_)
      · (try simp only);split <;> (try split) <;> omega
      · by_cases a:i=j.Op.Cell
        · simp only [if_pos a,if_neg (show ¬w+2=j.Op.Cell by omega),if_true];omega
        · by_cases b:i=w+2
          · simp only [if_neg a,if_pos b,if_true];omega
          · simp only [if_neg a,if_neg b]
      · (try simp only)
        by_cases a:i=j.Op.Cell
        · rw [if_pos a,a,iZ _ _ cell,cs _ cell,if_pos rfl,fA _ _ hw,nw]
        · rw [if_neg a]
          by_cases b:i=w+2
          · rw [if_pos b,b,fA _ _ hw,fT,nj,iZ _ _ cell]
          · rw [if_neg b]
            exact FU hw hi b fun k hk e=>by rw [cs k hk,if_neg (by omega)]
    · rw [sE k,cs k hk]
      by_cases z:k=j.Op.Cell
      · simp only [if_pos z]
        exact⟨eH,fun _=>by rw [eV];exact own.s2 k1 p2⟩
      · simp only [if_neg z];exact h.cv k hk
    · rw [rE,jse]
      have p93:j'.Pc=9∨j'.Pc=3:=jc.imp And.right And.left
      refine Q3 jb (by rw [jo];exact k1) (fun q=>by omega) (fun q=>by omega) (fun q=>by omega) (fun q=>?_) rn
      rcases jc with ⟨_,z⟩ | ⟨_,z⟩
      · omega
      · exact z
    · rcases List.mem_append.1 he with z | z
      · exact h.se.1 e z
      · rw [List.mem_singleton.1 z,eS];exact sn
  rw [if_neg p2]
  by_cases p3:j.Pc=3
  · rw [if_pos p3]
    obtain⟨o0,sk,sd,sa,sp⟩:=own.s3 k1 p3
    have es:fX s.aA w j.Sub=NW s.aA w j.Sub:=by unfold fX;simp [sk,sd]
    have nw:A3 (aL s w)=j.Old:=by rw [hj];exact nm3 k1 p3
    have lo:=h.ow.live (w+2) (by omega) (by rw [fA _ _ hw,nw];exact o0)
    rw [fA _ _ hw,nw] at lo
    rw [es]
    unfold NW
    rcases sp with sp | ⟨sp,se0,se1⟩
    · simp only [if_pos sp,sd,aN,if_false]
      have q:Qt s.aA s.aA (aL s) w {j with Sub:={j.Sub with Pc:=1,E:=s.aA.aC.aI,cV:=false}}:=⟨rfl,rfl,Int.le_refl _,fun _ _ _ p=>⟨p,rfl⟩,fun _ _ _=>rfl,(by rw [nw];exact nm3 (j:={j with Sub:={j.Sub with Pc:=1,E:=s.aA.aC.aI,cV:=false}}) k1 p3),fun _ _=>⟨k1,p3,by rw [hj],.inr (.inr (Int.le_refl _))⟩,fun _ _ _ _ _=>NZ (by simp only;omega)⟩
      refine h.quiet hs.1 hep hw q hB (by rw [hj]) (.inl rfl) ?_
      rw [List.append_nil]
      exact Q3 hb k1 (fun q=>by simp only at q;omega) (fun q=>by simp only at q;omega) (fun q=>by simp only at q;omega) (fun _=>⟨o0,sk,rfl,sa,.inr ⟨rfl,hc.1.1,Int.le_refl _⟩⟩) rn
    · have hcond:g7 s.aA.Mem j.Sub.A∧¬DE s.aA.aP (j.Sub.A % 32):=by rw [sa];exact lo
      simp only [if_neg (show ¬j.Sub.Pc=0 by omega),if_pos sp,if_pos (show 0≤j.Sub.E∧j.Sub.E≤s.aA.aC.aI from ⟨se0,se1⟩),if_pos hcond,AI,if_true,List.append_nil]
      have hL:=hs.1.1.2.2.1
      have fa:=fun r=>aRX (l:=s.aA.aP) hL hw (x:=⟨j.Sub.A,j.Sub.E⟩) (r:=r)
      have n9:∀sub,A3 (dN {j with Sub:=sub} 9 0)=0:=fun sub=>SW (by simp [dN]) (by simp [dN]) (by simp [dN])
      have ro:=fun v (hv:0≤v∧v≤2) hn=>aCW hL.1 hw hv hn ⟨cY s.aA.aP w ++ [⟨j.Sub.A,j.Sub.E⟩]⟩
      generalize hN:s.aA.aP.set w.toNat ⟨cY s.aA.aP w ++ [⟨j.Sub.A,j.Sub.E⟩]⟩=NL at fa ro
      refine h.make hs.1 hep hw ?_ (fun k hk=>h.cv k hk) (fun v hv hn=>⟨Int.le_refl _,ro v hv hn,fun p=>⟨p,rfl⟩,rfl,fun e H h0 _ _ x=>?_,fun _ u=>aGT hs h hep hw hj hb (by simp only [dN];omega) u,fun _ _ _ _=>rfl,fun _=>rfl⟩) ?_ (fun _ _=>rfl) h.tr h.se.1 (Int.le_refl _) fun _=>⟨sn,.inl ⟨by rw [hj];rfl,hB⟩⟩
      · refine h.ow.retired rfl (i:=w+2) ⟨by omega,by omega⟩ (by rw [fA _ _ hw,nw];exact o0) (fun t=>?_) (by rw [fA _ _ hw,fT,n9]) fun i hi q=>FU hw hi q fun _ _ _=>rfl
        rw [fA _ _ hw,nw]
        unfold DE
        constructor
        · rintro⟨r,r1,r2,r3⟩
          rcases(fa r).1 r1 with z | z
          · exact .inl ⟨r,z,r2,r3⟩
          · right;rw [←r3,z,sa]
        · rintro(⟨r,r1,r2,r3⟩ | z)
          · exact⟨r,(fa r).2 (.inl r1),r2,r3⟩
          · exact⟨_,(fa _).2 (.inr rfl),by simp only;rw [sa];exact lo.1.1,by simp only;rw [sa,z]⟩
      · rcases x with x | ⟨u,hu,u1,u2,u3,u4⟩ | ⟨r,r1,r2⟩
        · exact .inl x
        · by_cases z:u=w
          · subst z
            rw [hj] at u3 u4
            exact .inr (.inr ⟨_,(fa _).2 (.inr rfl),by simp only;rw [sa];exact u3,by simp only;omega⟩)
          · exact .inr (.inl ⟨u,hu,by rw [eD _ _ z];exact⟨u1,u2,u3,u4⟩⟩)
        · exact .inr (.inr ⟨r,(fa r).2 (.inl r1),r2⟩)
      · exact Q3 hb k1 (fun q=>by simp [dN] at q) (fun q=>by simp [dN] at q) (fun q=>by simp [dN] at q) (fun q=>by simp [dN] at q) rn
  rw [if_neg p3]
  refine h.quiet hs.1 hep hw (Q5 (by rw [hj,SW p1 p2 p3,SW (by simp [dN]) (by simp [dN]) (by simp [dN])]) (.inr (by rw [hj];exact p3)) (.inl (by simp only [dN];omega))) hB (by exact(congrArg bE.aK hj).symm) (.inl rfl) ?_
  rw [List.append_nil]
  exact Q3 hb k1 (fun q=>by simp [dN] at q) (fun q=>by simp [dN] at q) (fun q=>by simp [dN] at q) (fun q=>by simp [dN] at q) rn
end
end Go.Gv
end
noncomputable section
namespace Go.Gv
structure a0L (b:aA) (w:Int) (NL:List bA) (r:cW):Prop where
  mem:r∈bH b.aP
  live:g7 b.Mem r.Handle
  rest:∀x∈bH b.aP,x.Handle≠r.Handle→x∈bH NL
  sub:∀x∈bH NL,x∈bH b.aP∧x.Handle≠r.Handle
  uni:∀x∈bH b.aP,x.Handle=r.Handle→x=r
  other:∀v,0≤v∧v≤2→v≠w→cY NL v=cY b.aP v
theorem aUM{b:aA}(hb:mO b){w:Int}(hw:0≤w∧w≤2){k:Int}(hk:0≤k∧k < (cY b.aP w).length):a0L b w (b.aP.set w.toNat ⟨(cY b.aP w).eraseIdx k.toNat⟩) (GI (cY b.aP w) k):=by
  have hL:=hb.1.2.2.1
  have h3:=hL.1
  have kx:w.toNat < b.aP.length:=by omega
  have hm:=aCL (l:=cY b.aP w) hk
  have hf:=QZ hL hw hm
  have hjl:k.toNat < (cY b.aP w).length:=by omega
  have er:GI (cY b.aP w) k=(cY b.aP w)[k.toNat]:=by
    have:=aIP (l:=cY b.aP w) hjl
    rw [show((k.toNat:Nat):Int)=k by omega] at this
    exact this
  have hrow:b.aP[w.toNat].Rows=cY b.aP w:=by
    have:=D2 hL hw
    rw [fP hw.1 (by omega)] at this
    injection this with this
    rw [this]
  have hperm:=aCF hjl
  have hset:bH (b.aP.set w.toNat ⟨(cY b.aP w).eraseIdx k.toNat⟩)=bH (b.aP.take w.toNat)++((cY b.aP w).eraseIdx k.toNat++bH (b.aP.drop (w.toNat+1))):=DZ kx _
  have hspl:bH b.aP=bH (b.aP.take w.toNat)++(cY b.aP w++bH (b.aP.drop (w.toNat+1))):=by rw [AX kx,hrow]
  have hp:(bH b.aP).Perm (GI (cY b.aP w) k :: bH (b.aP.set w.toNat ⟨(cY b.aP w).eraseIdx k.toNat⟩)):=by
    rw [hspl,hset,er]
    have e1:=(hperm.append_right (bH (b.aP.drop (w.toNat+1)))).append_left (bH (b.aP.take w.toNat))
    refine e1.trans ?_
    rw [List.cons_append]
    exact List.perm_middle
  have nd:=hL.2.2.2
  have nd2:=(hp.map kW).nodup_iff.1 nd
  rw [List.map_cons,List.nodup_cons] at nd2
  refine⟨hf,(hb.2 _ hf).1,fun x hx hn=>?_,fun x hx=>⟨hp.mem_iff.2 (List.mem_cons_of_mem _ hx),fun e=>?_⟩,fun x hx e=>?_,fun v hv hn=>aCW h3 hw hv hn _⟩
  · rcases List.mem_cons.1 (hp.mem_iff.1 hx) with z | z
    · exact absurd (by rw [z]) hn
    · exact z
  · exact nd2.1 (List.mem_map.2 ⟨x,hx,by unfold kW;rw [e]⟩)
  · exact map_inj nd x hx _ hf (by unfold kW;rw [e])
noncomputable section
variable {s:aG} (hs:C7 s) {n:Int} (h:Sv s.aA s.Cells (aL s) s.Log n) (hep:Ep s.aA.aC (aL s)) {w:Int} (hw:0≤w∧w≤2) {j:bE} (hj:aL s w=j) (hb:j.eG=true) (hjk:kX j.Op∧cS j.H∧cS j.Old)
include hs h hep hw hj hb
theorem aCX(k4:j.Op.Kind=4)(p1:j.Pc=1){j':bE}(jo:j'.Op=j.Op)(jse:j'.aK=j.aK)(jb:j'.eG=true)(jp:(nW s.aA w j.Sub).2.cV=true∧j'.Pc=9∨(nW s.aA w j.Sub).2.cV=false∧j'.Pc=1∧j'.Sub=(nW s.aA w j.Sub).2) :
    Sv (nW s.aA w j.Sub).1 s.Cells (LF (aL s) w j') (s.Log ++ []) n:=by
  have hB:(aL s w).eG=true:=by rw [hj];exact hb
  have hL:=hs.1.1.2.2.1
  have own:=h.jv w hw
  rw [hj] at own
  have rn:=own.n hb (by unfold Reads;omega)
  obtain⟨sk,sd,ck⟩:=own.k k4 p1
  have nk:(aL s w).Op.Kind≠1∨(aL s w).Pc≠3:=.inl (by rw [hj];omega)
  have n0:A3 (aL s w)=0:=rF (by rw [hj];omega)
  have nj:A3 j'=0:=rF (by rw [jo];omega)
  have quiet:(nW s.aA w j.Sub).1=s.aA→(∀v,0≤v∧v≤2→∀H,pX s.aA.nA v=H→UnJ j v H→j'.Pc=1→UnJ j' v H)→(j'.Pc=1→aXE s.aA.aC.aI (cY s.aA.aP w) j'.Sub)→Sv (nW s.aA w j.Sub).1 s.Cells (LF (aL s) w j') (s.Log ++ []) n:=fun eb hu hk=>by
    rw [eb]
    have q:Qt s.aA s.aA (aL s) w j':=⟨rfl,rfl,Int.le_refl _,fun _ _ _ p=>⟨p,rfl⟩,fun _ _ _=>rfl,by rw [nj,n0],fun k _=>by rw [hj] at k;omega,fun v hv H hz u=>by
      rw [hj] at u
      by_cases z:j'.Pc=1
      · exact hu v hv H hz u z
      · exact fun _ p=>absurd p z⟩
    refine h.quiet hs.1 hep hw q hB (by rw [hj];exact jse) (.inl rfl) ?_
    rw [List.append_nil,jse]
    exact Q4 jb (.inl (by rw [jo];exact k4)) (fun _ p=>hk p) rn
  have e0:=hep
  unfold nW at jp quiet ⊢
  rcases ck with q0 | ⟨eE,⟨q1,r0⟩ | ⟨q2,hB2,ha,hr⟩ | ⟨q3,ha,hr⟩⟩
  · simp only [if_pos q0] at jp quiet ⊢
    rcases jp with jp | ⟨jd,jp,js⟩
    · rw [sd] at jp;cases jp.1
    refine quiet trivial (fun v hv H hz u _ _ _ _=>?_) fun _=>?_
    · rw [js];exact⟨fun z=>by simp at z,by simp⟩
    · rw [js];exact⟨sk,sd,.inr ⟨Int.le_refl _,.inl ⟨rfl,by simp⟩⟩⟩
  · simp only [if_neg (show ¬j.Sub.Pc=0 by omega),if_pos q1] at jp quiet ⊢
    by_cases q:vF (cY s.aA.aP w) j.Sub.E j.Sub.Row.toNat < (cY s.aA.aP w).length
    · simp only [if_pos q] at jp quiet ⊢
      rcases jp with jp | ⟨jd,jp,js⟩
      · rw [sd] at jp;cases jp.1
      obtain⟨f1,f2⟩:=aKF q
      refine quiet trivial (fun v hv H hz u _ _ _ _=>?_) fun _=>?_
      · rw [js];exact⟨fun _=>hv.1,by simp⟩
      · rw [js]
        refine⟨sk,sd,.inr ⟨eE,.inr (.inl ⟨rfl,by simp,⟨by simp only;omega,by simp only;omega,rfl⟩,?_⟩)⟩⟩
        simp only
        rw [aIP q];exact f2
    · simp only [if_neg q] at jp quiet ⊢
      rcases jp with ⟨jd,jp⟩ | ⟨jd,jp,js⟩
      · exact quiet trivial (fun v hv H hz u p=>by omega) fun p=>by omega
      · cases jd
  · simp only [if_neg (show ¬j.Sub.Pc=0 by omega),if_neg (show ¬j.Sub.Pc=1 by omega),if_pos q2,if_pos (show(0≤j.Sub.B∧j.Sub.B≤2)∧FR (cY s.aA.aP w) j.Sub from ⟨hB2,ha⟩)] at jp quiet ⊢
    by_cases q:pX s.aA.nA j.Sub.B=j.Sub.H
    · simp only [if_pos q] at jp quiet ⊢
      rcases jp with jp | ⟨jd,jp,js⟩
      · rw [sd] at jp;cases jp.1
      refine quiet trivial (fun v hv H hz u _ _ _ _=>?_) fun _=>?_
      · rw [js];exact⟨fun z=>by simp at z,by simp⟩
      · rw [js];exact⟨sk,sd,.inr ⟨eE,.inl ⟨rfl,by have:=ha.1;simp only;omega⟩⟩⟩
    · simp only [if_neg q] at jp quiet ⊢
      rcases jp with jp | ⟨jd,jp,js⟩
      · rw [sd] at jp;cases jp.1
      refine quiet trivial (fun v hv H hz u _ _ _ hH=>?_) fun _=>?_
      · rw [js] at hH ⊢
        simp only at hH ⊢
        obtain⟨u1,u2⟩:=u k4 p1 hH
        have u1:=u1 q2
        have ne:j.Sub.B≠v:=fun z=>q (by rw [z,hz,hH])
        refine⟨fun _=>by omega,?_⟩
        rw [if_neg (by omega)];omega
      · rw [js]
        refine⟨sk,sd,.inr ⟨eE,.inr ?_⟩⟩
        by_cases z:j.Sub.B=2
        · exact .inr ⟨by simp only [if_pos z],ha,hr⟩
        · exact .inl ⟨by simp only [if_neg z],by simp only;omega,ha,hr⟩
  · simp only [if_neg (show ¬j.Sub.Pc=0 by omega),if_neg (show ¬j.Sub.Pc=1 by omega),if_neg (show ¬j.Sub.Pc=2 by omega),if_pos q3,if_pos (show FR (cY s.aA.aP w) j.Sub∧C9 (GI (cY s.aA.aP w) j.Sub.Row) j.Sub.E from ⟨ha,hr⟩)] at jp ⊢
    rcases jp with jp | ⟨jd,jp,js⟩
    · rw [sd] at jp;cases jp.1
    obtain⟨a0,a1,a2⟩:=ha
    obtain⟨o1,o2,o3,o4,o5,o6⟩:=aUM hs.1 hw (k:=j.Sub.Row) ⟨a0,a1⟩
    rw [a2] at o2 o3 o4 o5
    generalize s.aA.aP.set w.toNat ⟨(cY s.aA.aP w).eraseIdx j.Sub.Row.toNat⟩=NL at o3 o4 o6
    obtain⟨f1,f2,f3,f4⟩:=aCR hs.1.1.1 hw o2
    have fs:=fun{t:Int} (ht:t≠j.Sub.H % 32)=>aKI hs.1.1.1 hw o2 ht
    have dat:∀H,g7 s.aA.Mem H→tQ (DA s.aA.Mem w j.Sub.H).aD (H % 32)=tQ s.aA.Mem.aD (H % 32):=fun H hl=>aRT hs.1.1.1 o2 (g8 hl.2.1)
    have hheld:DE s.aA.aP (j.Sub.H % 32):=⟨_,o1,by rw [a2];exact o2.1,by rw [a2]⟩
    have hrl:=fun(H:Int)=>(h.ow.live H)
    have ripe:(GI (cY s.aA.aP w) j.Sub.Row).aI≤j.Sub.E - 2:=by
      have:=hr.2
      have ec:=hs.1.1.2.1.1
      rw [aO (by have:=hr.1;omega) (by omega)] at this
      exact this
    have hln:∀t,t≠j.Sub.H % 32→(DE NL t↔DE s.aA.aP t):=fun t ht=>by
      constructor
      · rintro⟨r,r1,r2,r3⟩
        exact⟨r,(o4 r r1).1,r2,r3⟩
      · rintro⟨r,r1,r2,r3⟩
        exact⟨r,o3 r r1 (fun z=>ht (by rw [←r3,z])),r2,r3⟩
    rw [List.append_nil]
    have un':∀v,0≤v∧v≤2→∀H,NY (aL s) v H→NY (LF (aL s) w j') v H:=fun v hv H u a ha'=>by
      by_cases z:a=w
      · subst z;rw [fT]
        intro _ _ _
        rw [js];exact⟨fun z=>by simp at z,by simp⟩
      · rw [eD _ _ z];exact u a ha'
    refine h.make hs.1 hep hw ?_ (fun k hk=>?_) (fun v hv hn=>⟨Int.le_refl _,o6 v hv hn,fun p=>⟨p,rfl⟩,rfl,fun e H h0 _ hbl sa=>?_,fun _ u=>un' v hv _ u,fun e H sa hH'=>dat H (sa.live hs.1 h.ow hH'),fun hH'=>?_⟩) ?_ (fun _ _=>rfl) h.tr h.se.1 (Int.le_refl _) fun _=>⟨by rw [jse,←hj];exact h.se.2.1 w hw hB,.inl ⟨by rw [hj];exact jse,hB⟩⟩
    · refine h.ow.aY9 (x:=j.Sub.H % 32) hheld f4 (fun t ht=>fs ht) (fun t ht h3=>by rw [f2 t (g8 h3),if_neg ht]) hln fun i hi=>?_
      by_cases z:i=w+2
      · subst z;rw [fA _ _ hw,fA _ _ hw,fT,nj,n0]
      · exact FU hw hi z fun _ _ _=>rfl
    · refine⟨(h.cv k hk).1,fun q=>?_⟩
      have l:=(h.ow.live k (by omega) (by rw [iZ _ _ hk];exact q)).1
      rw [iZ _ _ hk] at l
      show tQ (DA s.aA.Mem w j.Sub.H).aD _=_
      rw [dat _ l];exact(h.cv k hk).2 q
    · rcases sa with sa | ⟨u,hu,u1,u2,u3⟩ | ⟨r,r1,r2,r3⟩
      · exact .inl sa
      · have z:u≠w:=fun z=>by subst z;rw [hj] at u1;omega
        exact .inr (.inl ⟨u,hu,by rw [eD _ _ z];exact⟨u1,u2,u3⟩⟩)
      · refine .inr (.inr ⟨r,o3 r r1 fun z=>?_,r2,r3⟩)
        rcases hbl with hbl | ⟨u,hu,un⟩
        · have er:=o5 r r1 z
          rw [er] at r3
          omega
        · have:=un w hw
          rw [hj] at this
          exact(this k4 p1 (by rw [←z];exact r2)).2 q3
    · have l:=(h.ow.live (v+2) (by omega) (by rw [fA _ _ hv];exact hH')).1
      rw [fA _ _ hv] at l
      exact dat _ l
    · rw [jse]
      refine Q4 jb (.inl (by rw [jo];exact k4)) (fun _ _=>?_) rn
      rw [js]
      exact⟨sk,sd,.inr ⟨eE,.inl ⟨rfl,a0⟩⟩⟩
include hjk
theorem aRY(k:j.Op.Kind=4∨j.Op.Kind=5∨j.Op.Kind=6):Sv (NX s w j).b (NX s w j).c (LF (aL s) w (NX s w j).j) (s.Log++(NX s w j).l) n:=by
  have hB:(aL s w).eG=true:=by rw [hj];exact hb
  have hc:=hs.1.1.2.1
  have own:=h.jv w hw
  have nk:(aL s w).Op.Kind≠1∨(aL s w).Pc≠3:=.inl (by rw [hj];omega)
  have nm0:∀j':bE,j'.Op.Kind=j.Op.Kind→A3 j'=A3 (aL s w):=fun j' q=>by rw [rF (by omega),rF (by rw [hj];omega)]
  rw [hj] at own
  have rn:=own.n hb (by unfold Reads;omega)
  have bad:Sv s.aA s.Cells (LF (aL s) w (dN j 9 1)) (s.Log ++ []) n:=by
    refine h.quiet hs.1 hep hw (Q5 (j':=dN j 9 1) (nm0 _ rfl) nk (.inr (by simp [dN]))) hB (by exact(congrArg bE.aK hj).symm) (.inl rfl) ?_
    rw [List.append_nil]
    exact Q4 hb k (fun _ q=>by simp [dN] at q) rn
  unfold NX
  by_cases k6:j.Op.Kind=6
  · rw [if_pos k6]
    by_cases p0:j.Pc=0
    · rw [if_pos p0]
      obtain⟨u1,u2⟩:=aMI hc hw
      refine h.quiet hs.1 hep hw (Q6 (by omega) (fun v hv hn p=>VI (u2 v hv hn) p) (nm0 (dN j 9 _) rfl) nk (.inr (.inl (by simp [dN])))) hB (by exact(congrArg bE.aK hj).symm) (.inl rfl) ?_
      rw [List.append_nil]
      exact Q4 hb k (fun _ q=>by simp [dN] at q) rn
    · rw [if_neg p0];exact bad
  rw [if_neg k6]
  by_cases k5:j.Op.Kind=5
  · by_cases p0:j.Pc=0
    · rw [if_pos (.inl p0)]
      obtain⟨_,_,_,i4⟩:=hep.1 w hw hB
      rw [hj] at i4
      obtain⟨sk,sd,_⟩:=i4 ⟨hb,.inr k5,p0⟩
      have es:fX s.aA w j.Sub=VD s.aA w j.Sub:=by unfold fX;simp [sk,sd]
      rw [es]
      obtain⟨cl,e1,e2,e3⟩:=aRW hc hw j.Sub
      simp only [e1,if_pos k5]
      refine h.quiet hs.1 hep hw (Q6 (by omega) (fun v hv hn p=>VI (e3 v hv hn) p) (nm0 _ (by split <;> rfl)) nk (.inl (by split <;> (simp only [dN];omega)))) hB (by rw [hj];split <;> rfl) (.inl rfl) ?_
      rw [List.append_nil]
      split
      · exact Q4 hb k (fun _ q=>by simp [dN] at q) rn
      · exact Q4 hb k (fun _ q=>by simp only at q;omega) rn
    · rw [if_neg (fun q=>q.elim p0 fun q=>q.2 k5)];exact bad
  have k4:j.Op.Kind=4:=by omega
  by_cases p0:j.Pc=0
  · rw [if_pos (.inl p0)]
    obtain⟨_,_,i3,_⟩:=hep.1 w hw hB
    rw [hj] at i3
    obtain⟨sk,sd,_⟩:=i3 ⟨hb,k4,p0⟩
    have es:fX s.aA w j.Sub=sL s.aA j.Sub:=by unfold fX;simp [sk,sd]
    rw [es]
    obtain⟨cl,e1,e2,e3⟩:=aKL hc j.Sub
    simp only [e1,if_neg k5,if_pos p0]
    refine h.quiet hs.1 hep hw (Q6 e2 (fun v hv hn p=>e3 v hv p) (nm0 _ (by split <;> rfl)) nk ?_) hB (by rw [hj];split <;> rfl) (.inl rfl) ?_
    · split
      · exact .inr (.inr rfl)
      · exact .inr (.inl (by simp only;omega))
    rw [List.append_nil]
    split
    · exact Q4 hb k (fun _ _=>⟨rfl,rfl,.inl rfl⟩) rn
    · exact Q4 hb k (fun _ q=>by simp only at q;omega) rn
  by_cases p1:j.Pc=1
  · rw [if_pos (.inr ⟨p1,k5⟩)]
    obtain⟨sk,sd,_⟩:=own.k k4 p1
    have es:fX s.aA w j.Sub=nW s.aA w j.Sub:=by unfold fX;simp [sk,sd]
    rw [es]
    simp only [if_neg k5,if_neg p0]
    cases hd:(nW s.aA w j.Sub).2.cV with
    | true=>rw [if_pos rfl];exact aCX hs h hep hw hj hb k4 p1 rfl rfl hb (.inl ⟨hd,rfl⟩)
    | false=>rw [if_neg (by simp)];exact aCX hs h hep hw hj hb k4 p1 rfl rfl hb (.inr ⟨hd,p1,rfl⟩)
  · rw [if_neg (fun q=>q.elim p0 fun q=>p1 q.1)];exact bad
end
theorem aVK{b:aA}{c:List Int}{J:Int→bE}{o:Option (Ev×Ev)}{v:Int}:Jv b c J o v I9:=by
  have k:I9.Op.Kind=0:=rfl
  have bb:I9.eG=false:=rfl
  refine⟨fun _=>k,?_,?_,?_,?_,?_,?_,?_,?_,?_,?_,?_⟩
  · intro q;omega
  · intro q;omega
  · intro q;omega
  · intro q;omega
  · intro q;omega
  · intro q;rcases q with q | q <;> omega
  · intro q;omega
  · intro q;omega
  · intro q;omega
  · intro q;unfold Reads at q;omega
  · intro q;rw [bb] at q;cases q
theorem aUN{s:aG}(hs:C7 s){w:Int}(hw:0≤w∧w≤2)(hep:Ep s.aA.aC (aL s))(h:Sv s.aA s.Cells (aL s) s.Log s.aK):Sv (JD s w).aA (JD s w).Cells (aL (JD s w)) (JD s w).Log (JD s w).aK:=by
  have h3:=hs.2.2.1
  have hjk:ZV (aL s w):=by
    have h:=pZ hs hw
    rw [fP hw.1 (by omega)] at h
    injection h with h
    rw [←h];exact hs.2.2.2.2.2.2 _ (List.getElem_mem _)
  have close:∀{b:aA} {c:List Int} {j':bE} {t:List Queue} {L:List Ev} {m:Int},Sv b c (LF (aL s) w j') L m→Sv b c (aL ⟨b,c,s.aX.set w.toNat j',t,L,m⟩) L m:=fun{b c j' t L m} x=>by
    have e:∀v,0≤v∧v≤2→aL ⟨b,c,s.aX.set w.toNat j',t,L,m⟩ v=LF (aL s) w j' v:=fun v hv=>RO h3 hw hv b c j' t L m
    have es:∀{e H},p5 b c (LF (aL s) w j') e H→p5 b c (aL ⟨b,c,s.aX.set w.toNat j',t,L,m⟩) e H:=fun{e' H} q=>by
      rcases q with q | ⟨v,hv,q⟩ | q
      · exact .inl q
      · exact .inr (.inl ⟨v,hv,by rw [e v hv];exact q⟩)
      · exact .inr (.inr q)
    refine⟨x.ow.congr rfl rfl fun i hi=>?_,x.cv,fun v hv=>?_,x.tr,x.se.1,fun v hv=>by rw [e v hv];exact x.se.2.1 v hv,fun v u hv hu=>by rw [e v hv,e u hu];exact x.se.2.2 v u hv hu⟩
    · rcases aCU hi with hk | ⟨v,hv,rfl⟩
      · rw [iZ _ _ hk,iZ _ _ hk]
      · rw [fA _ _ hv,fA _ _ hv,e v hv]
    · rw [e v hv]
      obtain⟨a1,a2,a3,a4,a5,a6,a7,a8,a9,a10,a11,a12⟩:=x.jv v hv
      refine⟨a1,a2,a3,a4,a5,a6,fun g p=>?_,a8,a9,fun k p=>?_,a11,a12⟩
      · obtain⟨q,r⟩:=a7 g p
        exact⟨es q,r⟩
      · obtain⟨q,u,r⟩:=a10 k p
        exact⟨es q,fun a ha=>by rw [e a ha];exact u a ha,r⟩
  unfold JD
  by_cases hb:(aL s w).eG=false
  · rw [if_pos hb]
    unfold aCP
    cases ho:SR s.e9 w with
    | nil=>exact h
    | cons o r =>
      simp only
      by_cases hm:s.aK=1000000
      · rw [if_pos hm];exact h
      rw [if_neg hm]
      refine close ?_
      obtain⟨f1,f2,_,_⟩:=aRQ s.aA.aC w o (s.aK+1)
      have n0:A3 (aL s w)=0:=rF (by have:=(h.jv w hw).idle hb;omega)
      have k0:=(h.jv w hw).idle hb
      have st:(AK s.aA.aC w o (s.aK+1)).Op=o∧((AK s.aA.aC w o (s.aK+1)).Pc=0∨(AK s.aA.aC w o (s.aK+1)).Pc=9∧(AK s.aA.aC w o (s.aK+1)).Code=1)∧(o.Kind=1→(AK s.aA.aC w o (s.aK+1)).Sub=O4 1 o.gY):=by
        unfold AK
        split
        · exact⟨rfl,.inl rfl,fun _=>rfl⟩
        split
        · rename_i q1 q2
          split
          · exact⟨rfl,.inr ⟨rfl,rfl⟩,fun q=>absurd q q1⟩
          · exact⟨rfl,.inl rfl,fun q=>absurd q q1⟩
        split
        · rename_i q1 q2 q3
          exact⟨rfl,.inl rfl,fun q=>absurd q q1⟩
        · rename_i q1 q2 q3
          exact⟨rfl,.inl rfl,fun q=>absurd q q1⟩
      obtain⟨so,sp,ss⟩:=st
      generalize AK s.aA.aC w o (s.aK+1)=j at f1 f2 so sp ss
      generalize hE:(⟨1,w,s.aK+1,o.Cell,0,0,0⟩:Ev)=E
      have eK:E.Kind=1:=by rw [←hE]
      have eS:E.aK=s.aK+1:=by rw [←hE]
      have rE:∀m,ZY (s.Log ++ [E]) m=ZY s.Log m:=fun m=>by rw [VH,if_neg (fun z=>by have:=z.1;omega)]
      have sE:∀k,swp (s.Log ++ [E]) k=swp s.Log k:=fun k=>by rw [ZX,if_neg (fun z=>by have:=z.1;omega)]
      have nj:A3 j=0:=SW (by omega) (by omega) (by omega)
      have q:Qt s.aA s.aA (aL s) w j:=Q5 (by rw [n0,nj]) (.inl (by omega)) (.inr (by omega))
      refine h.make hs.1 hep hw ?_ (fun k hk=>by rw [sE];exact h.cv k hk) (fun v hv hn=>q.frm hw hv hn) ?_ (fun m _=>rE m) (h.tr.snoc fun z=>by omega) (fun e he=>?_) (by omega) fun _=>⟨by omega,.inr (by omega)⟩
      · refine h.ow.congr rfl rfl fun i hi=>?_
        by_cases z:i=w+2
        · subst z;rw [fA _ _ hw,fA _ _ hw,fT,nj,n0]
        · exact FU hw hi z fun _ _ _=>rfl
      · have rn:ZY (s.Log ++ [E]) j.aK=none:=by rw [rE];exact aUJ fun e he=>by have:=h.se.1 e he;omega
        refine⟨fun q=>(by rw [f1] at q;cases q),fun k p=>?_,fun k p=>by omega,fun k p=>by omega,fun k p=>by omega,fun k p=>by omega,fun g=>?_,fun k p=>by omega,fun k p=>by omega,fun k p=>by omega,fun k p=>?_,fun _ _=>rn⟩
        · rw [ss (by rw [←so];exact k)];exact⟨rfl,rfl,by simp [O4],by simp [O4]⟩
        · exact absurd g (HX (by omega))
        · exact Told.other (by omega) (by omega)
      · rcases List.mem_append.1 he with z | z
        · have:=h.se.1 e z;omega
        · rw [List.mem_singleton.1 z,eS];omega
  rw [if_neg hb]
  have hb':(aL s w).eG=true:=by simpa using hb
  by_cases h9:(aL s w).Pc=9
  · rw [if_pos h9]
    refine close ?_
    have own:=h.jv w hw
    have n0:A3 (aL s w)=0:=SW (by omega) (by omega) (by omega)
    have nj:A3 I9=0:=rF (by decide)
    generalize hE:aVA w (aL s w)=E
    have eK:E.Kind=4:=by rw [←hE];rfl
    have eS:E.aK=(aL s w).aK:=by rw [←hE];rfl
    have eC:E.Code=(aL s w).Code:=by rw [←hE];rfl
    have eV:E.dV=(aL s w).dV:=by rw [←hE];rfl
    have rE:∀m,ZY (s.Log ++ [E]) m=ZY s.Log m:=fun m=>by rw [VH,if_neg (fun z=>by have:=z.1;omega)]
    have sE:∀k,swp (s.Log ++ [E]) k=swp s.Log k:=fun k=>by rw [ZX,if_neg (fun z=>by have:=z.1;omega)]
    have q:Qt s.aA s.aA (aL s) w I9:=Q5 (by rw [n0,nj]) (.inr (by omega)) (.inl (by decide))
    refine h.make hs.1 hep hw ?_ (fun k hk=>by rw [sE];exact h.cv k hk) (fun v hv hn=>q.frm hw hv hn) aVK (fun m _=>rE m) (h.tr.snoc fun _ hr=>?_) (fun e he=>?_) (Int.le_refl _) fun q=>by cases q
    · refine h.ow.congr rfl rfl fun i hi=>?_
      by_cases z:i=w+2
      · subst z;rw [fA _ _ hw,fA _ _ hw,fT,nj,n0]
      · exact FU hw hi z fun _ _ _=>rfl
    · rw [eS] at hr ⊢
      rw [eC,eV]
      by_cases rr:Reads (aL s w)
      · exact own.t rr (.inl h9)
      · exact absurd (own.n hb' rr) hr
    · rcases List.mem_append.1 he with z | z
      · exact h.se.1 e z
      · rw [List.mem_singleton.1 z,eS];exact h.se.2.1 w hw hb'
  rw [if_neg h9]
  have hjo:=(yU hb').1 hjk
  have hk:=hjo.1.1
  unfold lM
  refine close ?_
  unfold aNM
  by_cases k1:(aL s w).Op.Kind=1
  · rw [if_pos k1];exact aXH hs h hep hw rfl hb' hjo k1
  rw [if_neg k1]
  by_cases k2:(aL s w).Op.Kind=2
  · rw [if_pos k2];exact aXF hs h hep hw rfl hb' hjo k2
  rw [if_neg k2]
  by_cases k3:(aL s w).Op.Kind=3
  · rw [if_pos k3];exact aXG hs h hep hw rfl hb' hjo k3
  rw [if_neg k3]
  by_cases k7:(aL s w).Op.Kind=7
  · rw [if_pos k7];exact aUL hs h hep hw rfl hb' hjo k7
  rw [if_neg k7]
  exact aRY hs h hep hw rfl hb' hjo (by omega)
end Go.Gv
end
noncomputable section
namespace Go.Gv
def lst(L:List Ev):Int:=L.foldl (fun a e=>if e.Kind=4∧e.Who=1∧e.Code=0 then e.dV else a) 0
def aZC(a:Int)(e:Ev):Prop:=e.Kind=4→e.Who=1→e.Code=6∨(e.Code=8∧a=0)∨(e.Code=0∧(100≤e.dV∧e.dV≤105)∧a≤e.dV)
def Good(L:List Ev):Prop:=∀M e N,L=M++e :: N→aZC (lst M) e
theorem Good.snoc{L:List Ev}(h:Good L){e:Ev}(he:aZC (lst L) e):Good (L ++ [e]):=by
  intro M x N hx
  rcases List.eq_nil_or_concat N with rfl | ⟨N',y,rfl⟩
  · obtain⟨rfl,q⟩:=List.append_inj' hx (by rfl)
    injection q with q
    subst q
    exact he
  · have e1:M++x :: (N'.concat y)=(M++x :: N') ++ [y]:=by simp
    rw [e1] at hx
    exact h M x N' (List.append_inj' hx (by rfl)).1
def w1N(L:List Ev):Nat:=L.countP fun e=>e.Kind == 4 && e.Who == 1
structure Rg (T:Int→List dT) (J:Int→bE) (L:List Ev) (on:Bool):Prop where
  q0:∀o∈T 0,o.Kind=1∧o.Cell=0∧100≤o.dV∧o.dV≤105
  p0:(T 0).Pairwise fun a b=>a.dV < b.dV
  j0:(J 0).eG=true→(J 0).Op.Kind=1∧(J 0).Op.Cell=0∧(100≤(J 0).Op.dV∧(J 0).Op.dV≤105)∧∀o∈T 0,(J 0).Op.dV < o.dV
  sw:∀e∈L,e.Kind=2→e.Cell=0∧(100≤e.dV∧e.dV≤105)∧(∀o∈T 0,e.dV < o.dV)∧((J 0).eG=true→(J 0).Pc=0∨(J 0).Pc=1∨(J 0).Pc=2→e.dV < (J 0).Op.dV)
  q1:∀o∈T 1,(o.Kind=2∨o.Kind=3)∧o.Cell=0
  j1:(J 1).eG=true→((J 1).Op.Kind=2∨(J 1).Op.Kind=3)∧(J 1).Op.Cell=0∧((J 1).Code=0∨(J 1).Code=6∨(J 1).Code=8)∧(0≤(J 1).Pc∧(J 1).Pc≤4∨(J 1).Pc=9)
  q2:∀o∈T 2,o.Kind=4
  j2:(J 2).eG=true→(J 2).Op.Kind=4
  pin:on=true→(J 1).eG=true∧(J 1).Op.Kind=2∧(J 1).Pc≠9
  cnt:w1N L+(if (J 1).eG=true then 1 else 0)+(T 1).length=6
  m1:lst L≤(swp L 0).dV∧(lst L≠0→(swp L 0).Handle≠0)
  m2:(J 1).eG=true→∀e x,ZY L (J 1).aK=some (e,x)→x.dV≤(swp L 0).dV∧lst L≤x.dV∧(x.Handle≠0→(swp L 0).Handle≠0∧100≤x.dV∧x.dV≤105)∧(x.Handle=0→lst L=0)
  a0P:Good L
noncomputable section
variable (s:aG) (w:Int) (j:bE)
end
structure a0Y (s:aG) (w:Int) (j:bE) (r:JR):Prop where
  ev:r.l=[]∨∃x,r.l=[FT w j x]
  code:r.j.Code=0∨r.j.Code=6∨r.j.Code=8
  pc:0≤r.j.Pc∧r.j.Pc≤4∨r.j.Pc=9
  on:(bU r.b.aC w).On=true→j.Op.Kind=2∧r.j.Pc≠9
noncomputable section
variable {T:Int→List dT} {J:Int→bE} {L:List Ev} {on:Bool} (h:Rg T J L on)
include h
theorem Rg.congr{T':Int→List dT}{J':Int→bE}{on':Bool}(t0:T' 0=T 0)(t1:T' 1=T 1)(j0:J' 0=J 0)(j1:J' 1=J 1)(t2:∀o∈T' 2,o.Kind=4)(j2:(J' 2).eG=true→(J' 2).Op.Kind=4)(o:on'=true→on=true):Rg T' J' L on':=by
  refine⟨by rw [t0];exact h.q0,by rw [t0];exact h.p0,by rw [t0,j0];exact h.j0,by rw [t0,j0];exact h.sw,by rw [t1];exact h.q1,by rw [j1];exact h.j1,t2,j2,by rw [j1];exact fun q=>h.pin (o q),by rw [t1,j1];exact h.cnt,h.m1,by rw [j1];exact h.m2,h.a0P⟩
end
noncomputable section
variable {s:aG} (hs:C7 s) (hv:Sv s.aA s.Cells (aL s) s.Log s.aK) (hep:Ep s.aA.aC (aL s)) (h:Rg (SR s.e9) (aL s) s.Log (bU s.aA.aC 1).On)
include hs hv hep h
end
end Go.Gv
end
noncomputable section
namespace Go.Gv
noncomputable section
variable {b:List UInt8} {i h:Int} (hc:Cu b i)
include hc
end
theorem aRZ:∀q:List dT,kq q≤q.length
  | []=>Nat.le_refl _
  | o :: r => by
    have:=aRZ r
    simp only [kq,List.map_cons,List.sum_cons,List.length_cons] at *
    split <;> omega
theorem aVL(k:Nat):∀q:List dT,qC k q≤16 * kq q+(q.length - kq q) * (15+5 * k)
  | []=>by simp [qC,kq]
  | o :: r => by
    have h1:=aVL k r
    have h2:=aRZ r
    by_cases k1:o.Kind=1
    · have e1:kq (o :: r)=kq r+1:=by simp [kq,k1];omega
      have e2:qC k (o :: r)=16+qC k r:=by simp [qC,opC,k1]
      rw [e1,e2,List.length_cons,show r.length+1 - (kq r+1)=r.length - kq r by omega]
      omega
    · have e1:kq (o :: r)=kq r:=by simp [kq,k1]
      have e2:qC k (o :: r)=opC k o+qC k r:=by simp [qC]
      have e3:opC k o≤15+5 * k:=by
        unfold opC
        rw [if_neg k1]
        repeat' split
        all_goals omega
      rw [e1,e2,List.length_cons,show r.length+1 - kq r=(r.length - kq r)+1 by omega,Nat.add_mul,Nat.one_mul]
      omega
theorem q8{q:List dT}(h:q.length≤8):qC (kq q) q≤204:=by
  have h1:=aVL (kq q) q
  have h2:=aRZ q
  have h3:(q.length - kq q) * (15+5 * kq q)≤(8 - kq q) * (15+5 * kq q):=Nat.mul_le_mul (by omega) (Nat.le_refl _)
  generalize kq q=k at h1 h2 h3 ⊢
  have hk:k=0∨k=1∨k=2∨k=3∨k=4∨k=5∨k=6∨k=7∨k=8:=by omega
  rcases hk with rfl | rfl | rfl | rfl | rfl | rfl | rfl | rfl | rfl <;> omega
end Go.Gv
end
noncomputable section
namespace Go.Gv
theorem sv0(t:List Queue):Sv (kM t).aA (kM t).Cells (aL (kM t)) (kM t).Log (kM t).aK:=by
  have e1:∀v:Int,0≤v∧v≤2→aL (kM t) v=I9:=fun v hv=>by
    have hc:v=0∨v=1∨v=2:=by omega
    rcases hc with rfl | rfl | rfl <;> rfl
  have c0:∀k:Int,0≤k∧k≤1→cellAt (kM t).Cells k=0:=fun k hk=>by
    have hc:k=0∨k=1:=by omega
    rcases hc with rfl | rfl <;> rfl
  have n0:∀i,0≤i∧i≤4→nm (kM t).Cells (aL (kM t)) i=0:=fun i hi=>by
    rcases aCU hi with hk | ⟨v,hv,rfl⟩
    · rw [iZ _ _ hk];exact c0 i hk
    · rw [fA _ _ hv,e1 v hv];exact rF (by decide)
  have un:∀t',eM aCM.Mem t'≠3:=fun t' h=>by
    have h1:=(gQ.1 h).1
    obtain⟨a,b,c⟩:=oZ h1
    have key:∀p:Nat,p < 6→bT aCM.Mem.aD p = -1:=by decide
    rw [key _ (by omega)] at c
    omega
  refine⟨⟨fun i hi hn=>absurd (n0 i hi) hn,fun i j hi _ hn=>absurd (n0 i hi) hn,fun t' ht=>absurd ht (un t')⟩,fun k hk=>⟨(c0 k hk).symm,fun q=>absurd (c0 k hk) q⟩,fun v hv=>by rw [e1 v hv];exact aVK,fun M e N hx=>by simp [kM] at hx,fun e he=>by simp [kM] at he,fun v hv hb=>(by rw [e1 v hv] at hb;cases hb),fun v u hv _ hb=>by rw [e1 v hv] at hb;cases hb⟩
end Go.Gv
end
