import Derived.Test.YtmaknhppafajdaaGreatXNF
set_option linter.unusedVariables false
set_option linter.unusedSimpArgs false
set_option linter.unusedSectionVars false
set_option linter.constructorNameAsVariable false
set_option linter.unnecessarySimpa false
noncomputable section
namespace Go.Gv
theorem JT{α:Type}{l:List α}{w:Int}(h0:0<=w)(h1:w < l.length)(x:α):idx (l.set w.toNat x) w=some x:=by
 unfold idx
 rw [if_pos h0,List.getElem?_set_self (by omega)]
theorem gO{a b:Int}(h:¬a=b):(a == b)=false:=by simpa using h
theorem OL{a b:Int}(h:¬a=b):(a != b)=true:=by simpa using h
theorem aKC{c:aB}(hc:IC c){w:Int}(hw:0<=w/\w<=2):∃r,EB c w=some r/\NW c w=some r/\IC r.1/\r.1.aG=c.aG:=by
 obtain⟨p,hp,hpk⟩:=XS hc hw
 unfold EB NW
 rw [mJ hc.small.1,zK hc.small.1,iX,sY hc.small.2,kX,b8,aZ hc,aZ hw]
 simp only [aK,dK,aN,if_false,hp,yV,yG]
 cases p.On with
 | true =>
  simp only [dK,aN,if_false]
  have h0:=hc.1
  exact⟨_,rfl,rfl,hc.aII ⟨by simp only;omega,by simp,fun _=>rfl⟩,rfl⟩
 | false=>simp only [iA,if_true];exact⟨_,rfl,rfl,hc,rfl⟩
theorem ID.set{z:List Int}(hz:ID z)(k:Nat){h:Int}(hh:cW h):ID (z.set k h):=⟨by simpa using hz.1,fun q hq=>(List.mem_or_eq_of_mem_set hq).elim (hz.2 q) (fun e=>e ▸ hh)⟩
theorem aMC{z:List Int}(hz:ID z){w:Int}(hw:0<=w/\w<=2)(h:Int):∃r,C1 z w h=some r/\HU z w h=some r/\ID r.1:=by
 have h3:=hz.1
 have hx:idx z w=some (z[w.toNat]'(by omega)):=fH hw.1 (by omega)
 unfold C1 HU
 rw [EF (by omega),oQ (by omega),zJ (by simp only [maxLen];omega),LU (by simp only [maxLen];omega),aZ hz,b8,kX,aZ hw,eJ,jD]
 simp only [aK,dK,aN,if_false,sV,sJ,hx]
 by_cases q:jH h
 ·simp only [aZ q,dK,aN,if_false];exact⟨_,rfl,rfl,hz.set _ (.inr q)⟩
 ·simp only [bI q,iA,if_true];exact⟨_,rfl,rfl,hz⟩
theorem aTK{z:List Int}(hz:ID z){w:Int}(hw:0<=w/\w<=2):∃r,I8 z w=some r/\NX z w=some r/\ID r.1:=by
 have h3:=hz.1
 have hx:idx z w=some (z[w.toNat]'(by omega)):=fH hw.1 (by omega)
 unfold I8 NX
 rw [EF (by omega),oQ (by omega),zJ (by simp only [maxLen];omega),LU (by simp only [maxLen];omega),aZ hz,b8,kX,aZ hw]
 simp only [aK,dK,aN,if_false,yW,yH,hx]
 by_cases q:(z[w.toNat]'(by omega))=0
 ·simp only [q,beq_self_eq_true,if_true];exact⟨_,rfl,rfl,hz⟩
 ·simp only [gO q,aN,if_false];exact⟨_,rfl,rfl,hz.set _ (.inl rfl)⟩
theorem lY.clock{b:aA}(hb:lY b){cl:aB}(h:IC cl)(e:b.aB.aG<=cl.aG):lY ⟨b.Mem,cl,b.aL,b.iS⟩:=⟨⟨hb.1.1,h,hb.1.2.2⟩,fun r hr=>⟨(hb.2 r hr).1,Int.le_trans (hb.2 r hr).2 e⟩⟩
theorem lY.haz{b:aA}(hb:lY b){z:List Int}(h:ID z):lY ⟨b.Mem,b.aB,b.aL,z⟩:=⟨⟨hb.1.1,hb.1.2.1,hb.1.2.2.1,h⟩,hb.2⟩
theorem lY.mem{b:aA}(hb:lY b){m:Mem}(h:xM b.Mem m (-1)):lY ⟨m,b.aB,b.aL,b.iS⟩:=⟨⟨h.1,hb.1.2⟩,fun r hr=>⟨h.live (hb.2 r hr).1 (by have:=(hb.2 r hr).1.1;unfold jH at this;omega),(hb.2 r hr).2⟩⟩
theorem mW.put{s:aD}(hs:mW s){w:Int}{b:aA}(hb:lY b){c:List Int}(hc:c.length=2/\∀h∈c,cW h){j:bA}(hj:JOk j)(l:List Ev):mW ⟨b,c,s.aU.set w.toNat j,s.bK,l,s.aI⟩:=
 ⟨hb,hc.1,by simpa using hs.2.2.1,hs.2.2.2.1,hs.2.2.2.2.1,hc.2,fun q hq=>(List.mem_or_eq_of_mem_set hq).elim (hs.2.2.2.2.2.2 q) (fun e=>e ▸ hj)⟩
theorem cY{j:bA}(h:j.cN=true)(h1:lH j.Op/\cW j.H/\cW j.Old):JOk j:=(v9 h).2 h1
noncomputable section
variable {s:aD} (hs:mW s) (hl:s.Log.length<=1000000000) {w:Int} (hw:0<=w/\w<=2) {j:bA} (hj:idx s.aU w=some j) (hb:j.cN=true) (hjo:lH j.Op/\cW j.H/\cW j.Old)
include hs hl hw hj hb hjo
theorem aZK(hk:j.Op.Kind=1):∃x,((F8 s w j).bind fun q=>cQ w q.1 q.2)=some x/\CF s w=some x/\mW x/\x.Log.length<=s.Log.length+1:=by
 have h3:=hs.2.2.1
 have hset:∀x,idx (s.aU.set w.toNat x) w=some x:=JT hw.1 (by omega)
 have hn:∀(e:Ev) {α:Type} (k:Option α),need (s.Log.length + [e].length<=1073741824) k=k:=fun e _ k=>aQ (by simp;omega) k
 have hcs:s.Cells.length=2/\∀h∈s.Cells,cW h:=⟨hs.2.1,hs.2.2.2.2.2.1⟩
 have hcell:idx s.Cells j.Op.Cell=some (s.Cells[j.Op.Cell.toNat]'(by have:=hjo.1.2.2.1;omega)):=fH hjo.1.2.2.1.1 (by have:=hjo.1.2.2.1;omega)
 have hcm:cW (s.Cells[j.Op.Cell.toNat]'(by have:=hjo.1.2.2.1;omega)):=hcs.2 _ (List.getElem_mem _)
 generalize (s.Cells[j.Op.Cell.toNat]'(by have:=hjo.1.2.2.1;omega))=cell at hcell hcm
 have hval:0<=j.Op.dV/\j.Op.dV<=65535:=by have:=hjo.1.2.2.2;rw [if_pos hk] at this;exact this.2
 unfold F8 CF
 rw [hj]
 simp only [aK,bD,bR,dM,cQ,g8,jX]
 by_cases p0:j.Pc=0
 ·obtain⟨x,y,e1,e2,hx⟩:=step_eq hs.1 hs.1.small hw j.Sub
  simp only [p0,beq_self_eq_true,if_true,e1,e2,aK]
  cases hd:y.cO with
  | false=>simp only [iA,if_true,aK,hj];exact⟨_,rfl,rfl,hs.put hx hcs (by exact cY hb hjo) _,Nat.le_succ _⟩
  | true =>
   simp only [dK,aN,if_false]
   by_cases c0:y.Code=0
   ·simp only [c0,bne_self_eq_false,aN,if_false,eJ,jD,aK]
    by_cases o0:jH y.Out
    ·simp only [aZ o0,dK,aN,if_false,aK,hj];exact⟨_,rfl,rfl,hs.put hx hcs (by exact cY hb ⟨hjo.1,.inr o0,hjo.2.2⟩) _,Nat.le_succ _⟩
    ·simp only [bI o0,iA,if_true,aK,hj];exact⟨_,rfl,rfl,hs.put hx hcs (by exact cY hb hjo) _,Nat.le_succ _⟩
   ·simp only [OL c0,if_true,aK,hj];exact⟨_,rfl,rfl,hs.put hx hcs (by exact cY hb hjo) _,Nat.le_succ _⟩
 simp only [gO p0,aN,if_false]
 by_cases p1:j.Pc=1
 ·obtain⟨x,c,e1,e2,h1,h2⟩:=aL9 hs.1.1.1 (h:=j.H) hval
  simp only [p1,beq_self_eq_true,if_true,e1,e2,aK,CC,hj,bR,dM]
  by_cases c0:c=0
  ·simp only [c0,bne_self_eq_false,aN,if_false,aK,hj];exact⟨_,rfl,rfl,hs.put (hs.1.mem h1) hcs (by exact cY hb hjo) _,Nat.le_succ _⟩
  ·have:=h2 c0
   subst this
   simp only [OL c0,if_true,aK,hj];exact⟨_,rfl,rfl,hs.put hs.1 hcs (by exact cY hb hjo) _,Nat.le_succ _⟩
 simp only [gO p1,aN,if_false]
 by_cases p2:j.Pc=2
 ·have hc2:(s.Cells.set j.Op.Cell.toNat j.H).length=2/\∀h∈s.Cells.set j.Op.Cell.toNat j.H,cW h:=⟨by simpa using hcs.1,fun q hq=>(List.mem_or_eq_of_mem_set hq).elim (hcs.2 q) (fun e=>e ▸ hjo.2.1)⟩
  simp only [p2,beq_self_eq_true,if_true,hcell,aK,hset,hn,CE,dD,dR,CD,bR,dM,jX]
  by_cases c0:cell=0
  ·simp only [c0,beq_self_eq_true,if_true,aK,hj,List.set_set];exact⟨_,rfl,rfl,hs.put hs.1 hc2 (by exact cY hb ⟨hjo.1,hjo.2.1,.inl rfl⟩) _,by simp⟩
  ·simp only [gO c0,aN,if_false,aK,hj,List.set_set];exact⟨_,rfl,rfl,hs.put hs.1 hc2 (by exact cY hb ⟨hjo.1,hjo.2.1,hcm⟩) _,by simp⟩
 simp only [gO p2,aN,if_false]
 by_cases p3:j.Pc=3
 ·obtain⟨x,y,e1,e2,hx⟩:=step_eq hs.1 hs.1.small hw j.Sub
  simp only [p3,beq_self_eq_true,if_true,e1,e2,aK]
  cases hd:y.cO with
  | false=>simp only [iA,if_true,aN,if_false,aK,hj];exact⟨_,rfl,rfl,hs.put hx hcs (by exact cY hb hjo) _,Nat.le_succ _⟩
  | true=>simp only [dK,if_true,aN,if_false,aK,hj];exact⟨_,rfl,rfl,hs.put hx hcs (by exact cY hb hjo) _,Nat.le_succ _⟩
 simp only [gO p3,aN,if_false,aK,hj]
 exact⟨_,rfl,rfl,hs.put hs.1 hcs (by exact cY hb hjo) _,Nat.le_succ _⟩
theorem get_eq(hk:j.Op.Kind=2):∃x,((F9 s w j).bind fun q=>cQ w q.1 q.2)=some x/\CG s w=some x/\mW x/\x.Log.length<=s.Log.length+1:=by
 have h3:=hs.2.2.1
 have hset:∀x,idx (s.aU.set w.toNat x) w=some x:=JT hw.1 (by omega)
 have hn:∀(e:Ev) {α:Type} (k:Option α),need (s.Log.length + [e].length<=1073741824) k=k:=fun e _ k=>aQ (by simp;omega) k
 have hcs:s.Cells.length=2/\∀h∈s.Cells,cW h:=⟨hs.2.1,hs.2.2.2.2.2.1⟩
 have hcell:idx s.Cells j.Op.Cell=some (s.Cells[j.Op.Cell.toNat]'(by have:=hjo.1.2.2.1;omega)):=fH hjo.1.2.2.1.1 (by have:=hjo.1.2.2.1;omega)
 have hcm:cW (s.Cells[j.Op.Cell.toNat]'(by have:=hjo.1.2.2.1;omega)):=hcs.2 _ (List.getElem_mem _)
 generalize (s.Cells[j.Op.Cell.toNat]'(by have:=hjo.1.2.2.1;omega))=cell at hcell hcm
 obtain⟨pn,hpn,_⟩:=XS hs.1.1.2.1 hw
 unfold F9 CG
 rw [hj]
 simp only [aK,bD,bR,dM,cQ]
 by_cases p0:j.Pc=0
 ·obtain⟨x,y,e1,e2,hx⟩:=step_eq hs.1 hs.1.small hw j.Sub
  simp only [p0,beq_self_eq_true,if_true,e1,e2,aK]
  cases hd:y.cO with
  | false=>simp only [iA,if_true,aN,if_false,aK,hj];exact⟨_,rfl,rfl,hs.put hx hcs (by exact cY hb hjo) _,Nat.le_succ _⟩
  | true=>simp only [dK,if_true,aN,if_false,aK,hj];exact⟨_,rfl,rfl,hs.put hx hcs (by exact cY hb hjo) _,Nat.le_succ _⟩
 simp only [gO p0,aN,if_false]
 by_cases p1:j.Pc=1
 ·simp only [p1,beq_self_eq_true,if_true,hcell,aK,jP,hn,uX,hj,dD,dR,hset]
  by_cases c0:cell=0
  ·simp only [c0,beq_self_eq_true,if_true,aK,hj,List.set_set];exact⟨_,rfl,rfl,hs.put hs.1 hcs (by exact cY hb ⟨hjo.1,.inl rfl,hjo.2.2⟩) _,by simp⟩
  ·simp only [gO c0,aN,if_false,aK,hj,List.set_set];exact⟨_,rfl,rfl,hs.put hs.1 hcs (by exact cY hb ⟨hjo.1,hcm,hjo.2.2⟩) _,by simp⟩
 simp only [gO p1,aN,if_false]
 by_cases p2:j.Pc=2
 ·obtain⟨r,e1,e2⟩:=aMA hs.1.1.1 j.H
  simp only [p2,beq_self_eq_true,if_true,oL,lQ,hj,e1,e2,aK,hset,List.set_set]
  exact⟨_,rfl,rfl,hs.put hs.1 hcs (by exact cY hb hjo) _,Nat.le_succ _⟩
 simp only [gO p2,aN,if_false]
 by_cases p3:j.Pc=3
 ·simp only [p3,beq_self_eq_true,if_true,tH,lW,hj,hpn,aK,dM,rL,j8,mP,bD]
  cases pn.On with
  | false=>simp only [aN,if_false,aK,iA,if_true,hj];exact⟨_,rfl,rfl,hs.put hs.1 hcs (by exact cY hb hjo) _,Nat.le_succ _⟩
  | true =>
   simp only [if_true,aK]
   cases pn.dC with
   | false=>simp only [aN,if_false,aK,iA,dK,if_true,hj];exact⟨_,rfl,rfl,hs.put hs.1 hcs (by exact cY hb hjo) _,Nat.le_succ _⟩
   | true=>simp only [aN,if_false,aK,iA,dK,if_true,hj];exact⟨_,rfl,rfl,hs.put hs.1 hcs (by exact cY hb hjo) _,Nat.le_succ _⟩
 simp only [gO p3,aN,if_false]
 by_cases p4:j.Pc=4
 ·obtain⟨r,e1,e2,h1,h2⟩:=aKC hs.1.1.2.1 hw
  simp only [p4,beq_self_eq_true,if_true,e1,e2,sI,aK,hj]
  exact⟨_,rfl,rfl,hs.put (hs.1.clock h1 (by rw [h2];exact Int.le_refl _)) hcs (by exact cY hb hjo) _,Nat.le_succ _⟩
 simp only [gO p4,aN,if_false,aK,hj]
 exact⟨_,rfl,rfl,hs.put hs.1 hcs (by exact cY hb hjo) _,Nat.le_succ _⟩
theorem aZL(hk:j.Op.Kind=3):∃x,((GA s w j).bind fun q=>cQ w q.1 q.2)=some x/\CJ s w=some x/\mW x/\x.Log.length<=s.Log.length+1:=by
 have h3:=hs.2.2.1
 have hset:∀x,idx (s.aU.set w.toNat x) w=some x:=JT hw.1 (by omega)
 have hn:∀(e:Ev) {α:Type} (k:Option α),need (s.Log.length + [e].length<=1073741824) k=k:=fun e _ k=>aQ (by simp;omega) k
 have hcs:s.Cells.length=2/\∀h∈s.Cells,cW h:=⟨hs.2.1,hs.2.2.2.2.2.1⟩
 have hcell:idx s.Cells j.Op.Cell=some (s.Cells[j.Op.Cell.toNat]'(by have:=hjo.1.2.2.1;omega)):=fH hjo.1.2.2.1.1 (by have:=hjo.1.2.2.1;omega)
 have hcm:cW (s.Cells[j.Op.Cell.toNat]'(by have:=hjo.1.2.2.1;omega)):=hcs.2 _ (List.getElem_mem _)
 generalize (s.Cells[j.Op.Cell.toNat]'(by have:=hjo.1.2.2.1;omega))=cell at hcell hcm
 unfold GA CJ
 rw [hj]
 simp only [aK,bD,bR,dM,cQ,CH,CI]
 by_cases p0:j.Pc=0
 ·simp only [p0,beq_self_eq_true,if_true,hcell,aK,jP,hn,hj,dD,dR,hset]
  by_cases c0:cell=0
  ·simp only [c0,beq_self_eq_true,if_true,aK,hj,List.set_set,hn];exact⟨_,rfl,rfl,hs.put hs.1 hcs (by exact cY hb ⟨hjo.1,.inl rfl,hjo.2.2⟩) _,by simp⟩
  ·simp only [gO c0,aN,if_false,aK,hj,List.set_set];exact⟨_,rfl,rfl,hs.put hs.1 hcs (by exact cY hb ⟨hjo.1,hcm,hjo.2.2⟩) _,Nat.le_succ _⟩
 simp only [gO p0,aN,if_false]
 by_cases p1:j.Pc=1
 ·obtain⟨r,e1,e2,h1⟩:=aMC hs.1.1.2.2.2 hw j.H
  simp only [p1,beq_self_eq_true,if_true,e1,e2,aK,hj]
  exact⟨_,rfl,rfl,hs.put (hs.1.haz h1) hcs (by exact cY hb hjo) _,Nat.le_succ _⟩
 simp only [gO p1,aN,if_false]
 by_cases p2:j.Pc=2
 ·simp only [p2,beq_self_eq_true,if_true,hcell,aK,jP,hn,hj,dD,dR]
  by_cases c0:cell=j.H
  ·simp only [c0,bne_self_eq_false,aN,if_false,aK,hj];exact⟨_,rfl,rfl,hs.put hs.1 hcs (by exact cY hb hjo) _,by simp⟩
  ·simp only [OL c0,if_true,aK,hj];exact⟨_,rfl,rfl,hs.put hs.1 hcs (by exact cY hb hjo) _,Nat.le_succ _⟩
 simp only [gO p2,aN,if_false]
 by_cases p3:j.Pc=3
 ·obtain⟨r,e1,e2⟩:=aMA hs.1.1.1 j.H
  simp only [p3,beq_self_eq_true,if_true,oL,lQ,hj,e1,e2,aK,hset,List.set_set]
  exact⟨_,rfl,rfl,hs.put hs.1 hcs (by exact cY hb hjo) _,Nat.le_succ _⟩
 simp only [gO p3,aN,if_false]
 by_cases p4:j.Pc=4
 ·obtain⟨r,e1,e2,h1⟩:=aTK hs.1.1.2.2.2 hw
  simp only [p4,beq_self_eq_true,if_true,e1,e2,aK,hj]
  exact⟨_,rfl,rfl,hs.put (hs.1.haz h1) hcs (by exact cY hb hjo) _,Nat.le_succ _⟩
 simp only [gO p4,aN,if_false,aK,hj]
 exact⟨_,rfl,rfl,hs.put hs.1 hcs (by exact cY hb hjo) _,Nat.le_succ _⟩
theorem aWP(hk:j.Op.Kind=7):∃x,((C8 s w j).bind fun q=>cQ w q.1 q.2)=some x/\z8 s w=some x/\mW x/\x.Log.length<=s.Log.length+1:=by
 have h3:=hs.2.2.1
 have hset:∀x,idx (s.aU.set w.toNat x) w=some x:=JT hw.1 (by omega)
 have hn:∀(e:Ev) {α:Type} (k:Option α),need (s.Log.length + [e].length<=1073741824) k=k:=fun e _ k=>aQ (by simp;omega) k
 have hcs:s.Cells.length=2/\∀h∈s.Cells,cW h:=⟨hs.2.1,hs.2.2.2.2.2.1⟩
 have hcell:idx s.Cells j.Op.Cell=some (s.Cells[j.Op.Cell.toNat]'(by have:=hjo.1.2.2.1;omega)):=fH hjo.1.2.2.1.1 (by have:=hjo.1.2.2.1;omega)
 have hcm:cW (s.Cells[j.Op.Cell.toNat]'(by have:=hjo.1.2.2.1;omega)):=hcs.2 _ (List.getElem_mem _)
 generalize (s.Cells[j.Op.Cell.toNat]'(by have:=hjo.1.2.2.1;omega))=cell at hcell hcm
 obtain⟨pn,hpn,_⟩:=XS hs.1.1.2.1 hw
 unfold C8 z8
 rw [hj,hpn]
 simp only [aK,bD,bR,dM,cQ,AU,rN,rM,hj]
 by_cases p0:j.Pc=0
 ·simp only [p0,beq_self_eq_true,if_true]
  cases pn.On with
  | false=>simp only [iA,if_true,aK,hj];exact⟨_,rfl,rfl,hs.put hs.1 hcs (by exact cY hb hjo) _,Nat.le_succ _⟩
  | true =>
   simp only [dK,aN,if_false]
   cases pn.dC with
   | true=>simp only [if_true,aK,hj];exact⟨_,rfl,rfl,hs.put hs.1 hcs (by exact cY hb hjo) _,Nat.le_succ _⟩
   | false =>
    simp only [aN,if_false,hcell,aK,jP,hn,uX,hj,dD,dR,hset]
    by_cases c0:cell=0
    ·simp only [c0,beq_self_eq_true,if_true,aK,hj,List.set_set];exact⟨_,rfl,rfl,hs.put hs.1 hcs (by exact cY hb ⟨hjo.1,.inl rfl,hjo.2.2⟩) _,by simp⟩
    ·simp only [gO c0,aN,if_false,aK,hj,List.set_set];exact⟨_,rfl,rfl,hs.put hs.1 hcs (by exact cY hb ⟨hjo.1,hcm,hjo.2.2⟩) _,by simp⟩
 simp only [gO p0,aN,if_false,hj,aK]
 by_cases p1:j.Pc=1
 ·obtain⟨r,e1,e2⟩:=aMA hs.1.1.1 j.H
  simp only [p1,beq_self_eq_true,if_true,oL,lQ,hj,e1,e2,aK,hset,List.set_set]
  exact⟨_,rfl,rfl,hs.put hs.1 hcs (by exact cY hb hjo) _,Nat.le_succ _⟩
 simp only [gO p1,aN,if_false]
 by_cases p2:j.Pc=2
 ·simp only [p2,beq_self_eq_true,if_true,tH,lW,hj,hpn,aK,dM,rL,j8,mP,bD]
  cases pn.On with
  | false=>simp only [aN,if_false,aK,iA,if_true,hj];exact⟨_,rfl,rfl,hs.put hs.1 hcs (by exact cY hb hjo) _,Nat.le_succ _⟩
  | true =>
   simp only [if_true,aK]
   cases pn.dC with
   | false=>simp only [aN,if_false,aK,iA,dK,if_true,hj];exact⟨_,rfl,rfl,hs.put hs.1 hcs (by exact cY hb hjo) _,Nat.le_succ _⟩
   | true=>simp only [aN,if_false,aK,iA,dK,if_true,hj];exact⟨_,rfl,rfl,hs.put hs.1 hcs (by exact cY hb hjo) _,Nat.le_succ _⟩
 simp only [gO p2,aN,if_false,aK,hj]
 exact⟨_,rfl,rfl,hs.put hs.1 hcs (by exact cY hb hjo) _,Nat.le_succ _⟩
theorem aTL(hk:j.Op.Kind=4\/j.Op.Kind=5\/j.Op.Kind=6):∃x,((zC s w j).bind fun q=>cQ w q.1 q.2)=some x/\wP s w=some x/\mW x/\x.Log.length<=s.Log.length+1:=by
 have h3:=hs.2.2.1
 have hset:∀x,idx (s.aU.set w.toNat x) w=some x:=JT hw.1 (by omega)
 have hcs:s.Cells.length=2/\∀h∈s.Cells,cW h:=⟨hs.2.1,hs.2.2.2.2.2.1⟩
 obtain⟨x,y,e1,e2,hx⟩:=step_eq hs.1 hs.1.small hw j.Sub
 unfold zC wP
 rw [hj]
 simp only [aK,bD,bR,dM,cQ,g8,jX,xF,iF,pP,pL,pO,pN,pM,hj,e1,e2]
 rcases hk with k4 | k5 | k6
 ·simp only [k4,show((4:Int) == 6)=false from rfl,show((4:Int) == 5)=false from rfl,show((4:Int) == 4)=true from rfl,aN,if_false,if_true]
  by_cases p0:j.Pc=0
  ·simp only [p0,bne_self_eq_false,beq_self_eq_true,aN,if_false,if_true]
   cases hd:y.cO with
   | false=>simp only [iA,if_true,aN,if_false,aK,hj];exact⟨_,rfl,rfl,hs.put hx hcs (by exact cY hb hjo) _,Nat.le_succ _⟩
   | true=>simp only [dK,if_true,aN,if_false,aK,hj];exact⟨_,rfl,rfl,hs.put hx hcs (by exact cY hb hjo) _,Nat.le_succ _⟩
  ·simp only [OL p0,gO p0,aN,if_false,if_true]
   by_cases p1:j.Pc=1
   ·simp only [p1,bne_self_eq_false,beq_self_eq_true,aN,if_false,if_true,show((1:Int) == 0)=false from rfl]
    cases hd:y.cO with
    | false=>simp only [iA,if_true,aN,if_false,aK,hj];exact⟨_,rfl,rfl,hs.put hx hcs (by exact cY hb hjo) _,Nat.le_succ _⟩
    | true=>simp only [dK,if_true,aN,if_false,aK,hj];exact⟨_,rfl,rfl,hs.put hx hcs (by exact cY hb hjo) _,Nat.le_succ _⟩
   ·simp only [OL p1,gO p1,aN,if_false,if_true,aK,hj]
    exact⟨_,rfl,rfl,hs.put hs.1 hcs (by exact cY hb hjo) _,Nat.le_succ _⟩
 ·simp only [k5,show((5:Int) == 6)=false from rfl,show((5:Int) == 5)=true from rfl,show((5:Int) == 4)=false from rfl,aN,if_false,if_true]
  by_cases p0:j.Pc=0
  ·simp only [p0,bne_self_eq_false,beq_self_eq_true,aN,if_false,if_true]
   cases hd:y.cO with
   | false=>simp only [iA,if_true,aN,if_false,aK,hj];exact⟨_,rfl,rfl,hs.put hx hcs (by exact cY hb hjo) _,Nat.le_succ _⟩
   | true=>simp only [dK,if_true,aN,if_false,aK,hj];exact⟨_,rfl,rfl,hs.put hx hcs (by exact cY hb hjo) _,Nat.le_succ _⟩
  ·simp only [OL p0,gO p0,aN,if_false,if_true]
   by_cases p1:j.Pc=1
   ·simp only [p1,bne_self_eq_false,aN,if_false,if_true,aK,hj]
    exact⟨_,rfl,rfl,hs.put hs.1 hcs (by exact cY hb hjo) _,Nat.le_succ _⟩
   ·simp only [OL p1,if_true,aK,hj]
    exact⟨_,rfl,rfl,hs.put hs.1 hcs (by exact cY hb hjo) _,Nat.le_succ _⟩
 ·simp only [k6,beq_self_eq_true,show((6:Int) == 5)=false from rfl,show((6:Int) == 4)=false from rfl,aN,if_false,if_true]
  by_cases p0:j.Pc=0
  ·obtain⟨r,f1,f2,h1,h2⟩:=aKC hs.1.1.2.1 hw
   simp only [p0,beq_self_eq_true,if_true,f1,f2,sI,aK]
   cases hr:r.2 with
   | false=>simp only [iA,if_true,aK,hj];exact⟨_,rfl,rfl,hs.put (hs.1.clock h1 (by rw [h2];exact Int.le_refl _)) hcs (by exact cY hb hjo) _,Nat.le_succ _⟩
   | true=>simp only [dK,aN,if_false,aK,hj];exact⟨_,rfl,rfl,hs.put (hs.1.clock h1 (by rw [h2];exact Int.le_refl _)) hcs (by exact cY hb hjo) _,Nat.le_succ _⟩
  ·simp only [gO p0,aN,if_false,aK,hj]
   exact⟨_,rfl,rfl,hs.put hs.1 hcs (by exact cY hb hjo) _,Nat.le_succ _⟩
end
theorem aMD{l:List dB}(h:0 < l.length)(hl:l.length<=1000):wI l 0 1=some (l.drop 1):=by
 have e:=del_eq (l:=l) (k:=0) h
 unfold wI
 rw [aQ (by omega),if_neg (by simp),aQ (by omega),aQ (by omega),aQ (by omega),aQ]
 ·simp only [Int.toNat_zero,Int.toNat_one] at e ⊢
  rw [Nat.zero_add] at e
  rw [Nat.zero_add,e,List.eraseIdx_zero,List.drop_one]
 ·rw [eW (by omega)]
  simp only [List.drop_zero,List.length_take,eW (show(0:Int).toNat<=l.length by simp)]
  omega
theorem aDQ{o:dB}(ho:lH o)(ser pc:Int)(sub:Sub)(code:Int):JOk ⟨true,o,ser,pc,sub,0,0,0,code⟩:=(v9 rfl).2 ⟨ho,.inl rfl,.inl rfl⟩
theorem aTM{s:aD}(hs:mW s)(hl:s.Log.length<=1000000000){w:Int}(hw:0<=w/\w<=2){j:bA}(hj:idx s.aU w=some j):∃x,zA s w=some x/\wJ s w=some x/\mW x/\x.Log.length<=s.Log.length+1:=by
 have h3:=hs.2.2.1
 have ht:=hs.2.2.2.1
 have hser:=hs.2.2.2.2.1
 have hset:∀x,idx (s.aU.set w.toNat x) w=some x:=JT hw.1 (by omega)
 have hn:∀(e:Ev) {α:Type} (k:Option α),need (s.Log.length + [e].length<=1073741824) k=k:=fun e _ k=>aQ (by simp;omega) k
 have hq:idx s.bK w=some (s.bK[w.toNat]'(by have:=ht.1;omega)):=fH hw.1 (by have:=ht.1;omega)
 have hqk:QOk (s.bK[w.toNat]'(by have:=ht.1;omega)):=ht.2 _ (List.getElem_mem _)
 generalize (s.bK[w.toNat]'(by have:=ht.1;omega))=q at hq hqk
 obtain⟨pn,hpn,_⟩:=XS hs.1.1.2.1 hw
 have ew:bG (s.aI+1)=s.aI+1:=aO (by omega) (by omega)
 unfold zA wJ
 rw [hq]
 simp only [aK,xE,pI]
 by_cases l0:q.iC.length=0
 ·simp only [show((q.iC.length:Int) == 0)=true by rw [l0];rfl,if_true]
  exact⟨_,rfl,rfl,hs,Nat.le_succ _⟩
 ·simp only [show((q.iC.length:Int) == 0)=false from gO (by omega),aN,if_false]
  by_cases s0:s.aI=1000000
  ·simp only [s0,beq_self_eq_true,if_true]
   exact⟨_,rfl,rfl,hs,Nat.le_succ _⟩
  ·simp only [gO s0,aN,if_false,hq,aK]
   have hx:idx q.iC 0=some (q.iC[0]'(by omega)):=by have:=aV (l:=q.iC) (k:=0) (by omega);simpa using this
   have ho:lH (q.iC[0]'(by omega)):=hqk.2 _ (List.getElem_mem _)
   have h12:=hqk.1
   have hdel:=aMD (l:=q.iC) (by omega) (by omega)
   generalize (q.iC[0]'(by omega))=o at hx ho
   have etk:(q.iC.take q.iC.length).drop (1:Int).toNat=q.iC.drop 1:=by rw [List.take_length];rfl
   have hT:JS (s.bK.set w.toNat ⟨q.iC.drop 1⟩):=⟨by simpa using ht.1,fun z hz=>(List.mem_or_eq_of_mem_set hz).elim (ht.2 z) (fun e=>by
    subst e
    exact⟨by simp only [List.length_drop];omega,fun a ha=>hqk.2 a (List.mem_of_mem_drop ha)⟩)⟩
   have fin:∀(jb:bA) (l:List Ev),JOk jb->mW ⟨s.aA,s.Cells,s.aU.set w.toNat jb,s.bK.set w.toNat ⟨q.iC.drop 1⟩,l,s.aI+1⟩:=fun jb l hjb=>
    ⟨hs.1,hs.2.1,by simpa using h3,hT,by simp only;omega,hs.2.2.2.2.2.1,fun z hz=>(List.mem_or_eq_of_mem_set hz).elim (hs.2.2.2.2.2.2 z) (fun e=>e ▸ hjb)⟩
   simp only [hx,hdel,aK,g8,jX,ew]
   rw [aQ (by omega)]
   by_cases k1:o.Kind=1
   ·simp only [k1,beq_self_eq_true,if_true,e9,d7,hj,dD,dR,aK,hset,hn,etk,ew]
    exact⟨_,rfl,rfl,fin _ _ (aDQ ho _ _ _ _),by simp⟩
   simp only [gO k1,aN,if_false]
   have pin:∀z,z=true->∃x,i9 s w q o z=some x/\jS s w o (q.iC.drop 1) z=some x/\mW x/\x.Log.length<=s.Log.length+1:=fun z hz=>by
    subst hz
    simp only [i9,jS,if_true,g8,jX,hpn,aK,bR]
    cases pn.On with
    | true =>
     simp only [if_true,e9,d7,hj,dD,dR,aK,hset,hn,etk,ew]
     exact⟨_,rfl,rfl,fin _ _ (aDQ ho _ _ _ _),by simp⟩
    | false =>
     simp only [aN,if_false,e9,d7,hj,dD,dR,aK,hset,hn,etk,ew]
     exact⟨_,rfl,rfl,fin _ _ (aDQ ho _ _ _ _),by simp⟩
   by_cases k2:o.Kind=2
   ·simp only [k2,beq_self_eq_true,if_true];exact pin true rfl
   simp only [gO k2,aN,if_false]
   by_cases k5:o.Kind=5
   ·simp only [k5,beq_self_eq_true];exact pin true rfl
   simp only [gO k5,i9,jS,aN,if_false,g8,jX,aK]
   by_cases k4:o.Kind=4
   ·simp only [k4,beq_self_eq_true,if_true,e9,d7,hj,dD,dR,aK,hset,hn,etk,ew]
    exact⟨_,rfl,rfl,fin _ _ (aDQ ho _ _ _ _),by simp⟩
   ·simp only [gO k4,aN,if_false,e9,d7,hj,dD,dR,aK,hset,hn,etk,ew]
    exact⟨_,rfl,rfl,fin _ _ (aDQ ho _ _ _ _),by simp⟩
theorem aIO{s:aD}(hs:mW s)(hl:s.Log.length<=1000000000){w:Int}(hw:0<=w/\w<=2):∃x,N6 s w=some x/\nG s w=some x/\mW x/\x.Log.length<=s.Log.length+1:=by
 have h3:=hs.2.2.1
 have hset:∀x,idx (s.aU.set w.toNat x) w=some x:=JT hw.1 (by omega)
 have hn:∀(e:Ev) {α:Type} (k:Option α),need (s.Log.length + [e].length<=1073741824) k=k:=fun e _ k=>aQ (by simp;omega) k
 have hj:idx s.aU w=some (s.aU[w.toNat]'(by omega)):=fH hw.1 (by omega)
 have hjk:JOk (s.aU[w.toNat]'(by omega)):=hs.2.2.2.2.2.2 _ (List.getElem_mem _)
 generalize (s.aU[w.toNat]'(by omega))=j at hj hjk
 unfold N6 nG
 rw [hj]
 simp only [aK]
 cases hb:j.cN with
 | false =>
  obtain⟨x,e1,e2,e3,e4⟩:=aTM hs hl hw hj
  simp only [iA,if_true,e1,e2,aK]
  exact⟨_,rfl,rfl,e3,e4⟩
 | true =>
  have hjo:=(v9 hb).1 hjk
  simp only [dK,aN,if_false]
  by_cases p9:j.Pc=9
  ·simp only [p9,beq_self_eq_true,if_true,hn,dD,dR,hj,aK]
   exact⟨_,rfl,rfl,hs.put hs.1 ⟨hs.2.1,hs.2.2.2.2.2.1⟩ ((RR rfl).2 rfl) _,by simp⟩
  simp only [gO p9,aN,if_false]
  have close:∀{A B:Option aD} {x:aD},A=some x->B=some x->mW x->x.Log.length<=s.Log.length+1->∃x,A=some x/\(B.bind fun z=>some z)=some x/\mW x/\x.Log.length<=s.Log.length+1:=fun h1 h2 h3 h4=>⟨_,h1,by rw [h2];rfl,h3,h4⟩
  by_cases k1:j.Op.Kind=1
  ·obtain⟨x,e1,e2,e3,e4⟩:=aZK hs hl hw hj hb hjo k1
   simp only [k1,beq_self_eq_true,if_true];exact close e1 e2 e3 e4
  simp only [gO k1,aN,if_false]
  by_cases k2:j.Op.Kind=2
  ·obtain⟨x,e1,e2,e3,e4⟩:=get_eq hs hl hw hj hb hjo k2
   simp only [k2,beq_self_eq_true,if_true];exact close e1 e2 e3 e4
  simp only [gO k2,aN,if_false]
  by_cases k3:j.Op.Kind=3
  ·obtain⟨x,e1,e2,e3,e4⟩:=aZL hs hl hw hj hb hjo k3
   simp only [k3,beq_self_eq_true,if_true];exact close e1 e2 e3 e4
  simp only [gO k3,aN,if_false]
  by_cases k7:j.Op.Kind=7
  ·obtain⟨x,e1,e2,e3,e4⟩:=aWP hs hl hw hj hb hjo k7
   simp only [k7,beq_self_eq_true,if_true];exact close e1 e2 e3 e4
  simp only [gO k7,aN,if_false]
  have hkr:=hjo.1.1
  obtain⟨x,e1,e2,e3,e4⟩:=aTL hs hl hw hj hb hjo (by omega)
  exact close e1 e2 e3 e4
end Go.Gv
end
noncomputable section
namespace Go.Gv
def o7(s:Sub)(code:Int):Sub:={s with Code:=code,cO:=true}
def xR(n:Int):Int:=if 1<=n/\n<=8 then 0 else if 1<=n/\n<=16 then 1 else if 1<=n/\n<=40 then 2 else -1
theorem aDR(n:Int):-1<=xR n/\xR n<=2:=by unfold xR;split <;> (try split) <;> (try split) <;> omega
theorem aPJ(n:Int):CV n=some (xR n):=by
 have s1:∀k,0<=k/\k<=2->fK n k=some (if 1<=n/\n<=gR k then .stop (Out.ret k) else .next (k+1)):=fun k hk=>by
  simp only [fK]
  rw [if_pos (by simp;omega),qR,aK,b8,aK,aO (by omega) (by omega)]
  by_cases q:1<=n/\n<=gR k
  ·rw [aZ q,if_pos rfl,if_pos q]
  ·rw [bI q,if_neg (by simp),if_neg q]
 have z0:gR 0=8:=rfl
 have z1:gR 1=16:=rfl
 have z2:gR 2=40:=rfl
 unfold CV xR
 by_cases q0:1<=n/\n<=8
 ·rw [bS (by rw [s1 0 (by omega),if_pos (by omega)]),if_pos q0];rfl
 ·rw [bW (by rw [s1 0 (by omega),if_neg (by omega)]),if_neg q0,show(0:Int)+1=1 from rfl]
  by_cases q1:1<=n/\n<=16
  ·rw [bS (by rw [s1 1 (by omega),if_pos (by omega)]),if_pos q1];rfl
  ·rw [bW (by rw [s1 1 (by omega),if_neg (by omega)]),if_neg q1,show(1:Int)+1=2 from rfl]
   by_cases q2:1<=n/\n<=40
   ·rw [bS (by rw [s1 2 (by omega),if_pos (by omega)]),if_pos q2];rfl
   ·rw [bW (by rw [s1 2 (by omega),if_neg (by omega)]),if_neg q2,show(2:Int)+1=3 from rfl,bS (body:=fK n) (r:=Out.brk ()) (by simp [fK])];rfl
def JU(l:List Int):List Int×Int:=(l.dropLast,l.getLastD (-1))
theorem aA1{s:aP}(h:s.aS.length<=1048576):rQ s=some (⟨(JU s.aS).1⟩,(JU s.aS).2):=by
 unfold rQ LC JU
 obtain⟨l⟩:=s
 rcases List.eq_nil_or_concat l with rfl | ⟨L,b,rfl⟩
 ·rfl
 ·simp only [List.concat_eq_append] at h ⊢
  have hl:(L ++ [b]).length=L.length+1:=by simp
  rw [hl,aO (by omega) (by omega),show((L.length+1:Nat):Int) - 1=(L.length:Int) by omega,if_neg (by simp;omega),aQ (by omega),aV (by rw [hl];omega)]
  simp
def DO(m:Mem)(w c:Int):Mem×Int:=(⟨m.aE,⟨m.aC.Global,m.aC.cL.set (w * 3+c).toNat ⟨(JU (dS m.aC.cL (w * 3+c).toNat)).1⟩⟩⟩,(JU (dS m.aC.cL (w * 3+c).toNat)).2)
def tK(m:Mem)(c:Int):Mem×Int:=(⟨m.aE,⟨m.aC.Global.set c.toNat ⟨(JU (dS m.aC.Global c.toNat)).1⟩,m.aC.cL⟩⟩,(JU (dS m.aC.Global c.toNat)).2)
def WB(h:aE):Nat:=h.Class.findIdx (fun x=>decide (x = -1))
def GY(m:Mem)(c:Int):Mem×Int:=if WB m.aE=6 then (m,-1) else
 (⟨⟨gB m.aE.Bytes (WB m.aE) c (bY c).toNat,m.aE.Class.set (WB m.aE) c⟩,⟨m.aC.Global.set c.toNat ⟨dS m.aC.Global c.toNat++(gS (WB m.aE) (bY c).toNat).drop 1⟩,m.aC.cL⟩⟩,(WB m.aE:Int) * 4)
theorem aTN{h:aE}(hs:fV h):WB h<=6:=by rw [<-hs.2.1];exact List.findIdx_le_length
theorem aTO{h:aE}(hs:fV h)(hq:WB h≠6):WB h < 6/\bV h (WB h) = -1:=by
 have h6:=hs.2.1
 have hlt:WB h < 6:=by have:=aTN hs;omega
 refine⟨hlt,?_⟩
 rw [<-SG hs hlt]
 have:=List.findIdx_getElem (xs:=h.Class) (p:=fun x=>decide (x = -1)) (w:=by show WB h < _;omega)
 exact of_decide_eq_true this
theorem aWQ{h:aE}(hs:fV h):∀j (hj:j < 6),j < WB h->bV h j≠-1:=fun j hj hlt=>by
 have:=List.not_of_lt_findIdx hlt
 rw [<-SG hs hj]
 simpa using this
theorem aZM{h:aE}(hh:TL h){c:Int}(hc:0<=c/\c<=2):rP h c=some (if WB h=6 then (h,[]) else (⟨gB h.Bytes (WB h) c (bY c).toNat,h.Class.set (WB h) c⟩,gS (WB h) (bY c).toNat)):=by
 have hs:=hh.1
 have h6:=hs.2.1
 have h384:=hs.1
 have hle:=aTN hs
 have s1:∀k (hk:k < WB h),eZ h c (k:Int)=some (.next ((k+1:Nat):Int)):=fun k hk=>by
  have n:(h.Class[k] != -1)=true:=by
   have:=aWQ hs k (by omega) hk
   rw [<-SG hs (by omega)] at this
   simpa using this
  simp only [eZ,GS]
  rw [if_pos (by simp;omega),aV (by omega),aK,n,if_pos rfl,aO (by omega) (by omega)];rfl
 unfold rP
 by_cases hq:WB h=6
 ·have a1:loop (eZ h c) 0=some (Out.brk ()):=jG (WB h) (fun k=>(k:Int)) _ s1 (by simp only [eZ];rw [if_neg (by simp;omega)])
  rw [a1,if_pos hq];rfl
 ·obtain⟨hlt,he⟩:=aTO hs hq
  rw [<-SG hs hlt] at he
  generalize hqq:WB h=q at *
  have a1:loop (eZ h c) 0=some (Out.ret (⟨gB h.Bytes q c (bY c).toNat,h.Class.set q c⟩,gS q (bY c).toNat)):=jG q (fun k=>(k:Int)) _ s1 (by
   have e0:bG ((q:Int) * 64)=((q * 64:Nat):Int):=by rw [aO (by omega) (by omega)];omega
   have e1:bG (((q * 64:Nat):Int)+1)=((q * 64+1:Nat):Int):=by rw [aO (by omega) (by omega)];omega
   have e2:bG (((q * 64:Nat):Int)+2)=((q * 64+2:Nat):Int):=by rw [aO (by omega) (by omega)];omega
   have n:(h.Class[q] != -1)=false:=by simpa using he
   simp only [eZ,e0,e1,e2,Int.toNat_natCast]
   rw [if_pos (by simp;omega),aV (by omega),aK,n,if_neg (by simp),aV (by omega),aK,aV (by simp;omega),aK,hY,aK,aV (by simp;omega),aK]
   have:=aDJ h384 hlt hc
   simp only [gB] at this
   rw [this];rfl)
  rw [a1,if_neg hq];rfl
theorem aPK{m:Mem}(hm:mI m){c:Int}(hc:0<=c/\c<=2):CX m c=some (GY m c):=by
 have h3:=hm.1.2.1
 have hpp:0 < bY c:=g9.2 hc
 have hp4:=mE c
 obtain⟨_,_,_,_,_,_,_,_,hsG,_⟩:=mI.facts hm
 unfold CX GY
 rw [aZM hm.1.1 hc]
 by_cases hq:WB m.aE=6
 ·simp only [if_pos hq,aK];rfl
 ·have hk:c.toNat < m.aC.Global.length:=by omega
  have hg0:=hsG _ (List.getElem_mem hk)
  have hx:idx m.aC.Global c=some m.aC.Global[c.toNat]:=fH hc.1 (by omega)
  have hz:idx (gS (WB m.aE) (bY c).toNat) 0=some ((WB m.aE:Int) * 4):=by
   have:=aV (l:=gS (WB m.aE) (bY c).toNat) (k:=0) (by rw [JO];omega)
   rw [show((0:Nat):Int)=0 from rfl] at this
   rw [this];simp [gS]
  have hn:(((bY c).toNat:Int) == 0)=false:=by simpa using (by omega:¬((bY c).toNat:Int)=0)
  have ht:(gS (WB m.aE) (bY c).toNat).take (bY c).toNat=gS (WB m.aE) (bY c).toNat:=List.take_of_length_le (by rw [JO];omega)
  have hd:((gS (WB m.aE) (bY c).toNat).drop 1).length<=4:=by rw [List.length_drop,JO];omega
  simp only [if_neg hq,aK,JO,hn,aN,if_false,hx,hz,GU,ht]
  rw [aQ (by omega),aQ (by simp only [List.length_drop,JO,Int.toNat_one];omega),dN hk];rfl
def aME(m:Mem)(s:Int):Int:=if 1<=iG m.aE s/\iG m.aE s<=6 then iG m.aE s * 32+s else 0
theorem aWR{m:Mem}(hs:fV m.aE){s:Int}(hc:0<=aW m.aE s):yR m s=some (aME m s):=by
 unfold yR LD wW aME
 rw [oY hs hc,aK,b8,b8]
 have h1:=(pR hc).1
 simp only [aZ h1,aK,dK,aN,if_false]
 by_cases q:1<=iG m.aE s/\iG m.aE s<=6
 ·simp only [aZ q,dK,aN,if_false,if_pos q]
  rw [aO (x:=iG m.aE s * 32) (by omega) (by omega),aO (by omega) (by omega)];rfl
 ·simp only [bI q,iA,if_true,if_neg q];rfl
def xS(b:aA)(s:Sub)(p:Mem×Int):aA×Sub:=
 if 0<=p.2 then ({b with Mem:=p.1},o7 {s with Out:=aME p.1 p.2} 0) else if s.Pc=3 then ({b with Mem:=p.1},o7 s 3) else ({b with Mem:=p.1},{s with Pc:=s.Pc+1})
def EJ(b:aA)(w:Int)(s:Sub):aA×Sub:=
 if xR s.A < 0 then (b,o7 s 2)
 else if s.Pc=0 then xS b s (DO b.Mem w (xR s.A))
 else if s.Pc=1\/s.Pc=3 then xS b s (tK b.Mem (xR s.A))
 else if s.Pc=2 then xS b s (GY b.Mem (xR s.A))
 else (b,o7 s 1)
theorem aPL{b:aA}(hm:mI b.Mem){w:Int}(hw:0<=w/\w<=2)(s:Sub):yT b w s=some (EJ b w s):=by
 obtain⟨hcnt,h3,h9,h1,h2,hsm,hcp,hlo,hsG,hsO⟩:=mI.facts hm
 have hs:=hm.1.1.1
 have hr:=aDR s.A
 unfold yT EJ
 rw [aPJ]
 simp only [aK]
 by_cases c0:xR s.A < 0
 ·simp only [aZ c0,if_true,bO,if_pos c0];rfl
 generalize xR s.A=c at *
 have hc:0<=c/\c<=2:=by omega
 simp only [bI c0,aN,if_false,if_neg c0]
 have fin:∀(p:Mem×Int),-1<=p.2->(0<=p.2->fV p.1.aE/\0<=aW p.1.aE p.2)->s.Pc<=3/\0<=s.Pc->i7 s p.2 ⟨p.1,b.aB,b.aL,b.iS⟩=some (xS b s p):=by
  intro p hp hx hpc
  unfold i7 xS
  simp only [wY,N0,bO]
  by_cases x0:0<=p.2
  ·rw [bI (show ¬p.2 < 0 by omega),aZ x0]
   simp only [aN,if_false,if_true,if_pos x0,aWR (hx x0).1 (hx x0).2,aK];rfl
  ·rw [aZ (show p.2 < 0 by omega),bI x0]
   by_cases p3:s.Pc=3
   ·have p3':(s.Pc == 3)=true:=by simpa using p3
    simp only [p3',if_true,if_neg x0,if_pos p3,aK];rfl
   ·have p3':(s.Pc == 3)=false:=by simpa using p3
    have e:bG (s.Pc+1)=s.Pc+1:=aO (by omega) (by omega)
    simp only [p3',if_true,aN,if_false,if_neg x0,if_neg p3,aK,e]
 have popL:∀l:List Int,-1<=(JU l).2\/(JU l).2∈l:=fun l=>by
  unfold JU
  rcases List.eq_nil_or_concat l with rfl | ⟨L,b,rfl⟩
  ·left;simp
  ·right;simp
 by_cases p0:s.Pc=0
 ·have hk:(w * 3+c).toNat < b.Mem.aC.cL.length:=by omega
  have hx:idx b.Mem.aC.cL (w * 3+c)=some b.Mem.aC.cL[(w * 3+c).toNat]:=fH (by omega) (by omega)
  obtain⟨l,t,x,e1,e2,e3,g1,g2,g3⟩:=aDN hm hw hc
  have hl:=hsO _ (List.getElem_mem hk)
  rw [hx] at e1;cases e1
  rw [aA1 (by omega)] at e2
  have ep:DO b.Mem w c=(⟨b.Mem.aE,⟨b.Mem.aC.Global,b.Mem.aC.cL.set (w * 3+c).toNat t⟩⟩,x):=by
   unfold DO
   rw [<-dN hk]
   injection e2 with e2;injection e2 with e4 e5
   rw [<-e4,<-e5]
  have hx0:-1<=x:=by
   injection e2 with e2;injection e2 with e4 e5
   rcases popL b.Mem.aC.cL[(w * 3+c).toNat].aS with h | h
   ·rw [<-e5];exact h
   ·rw [<-e5];have:=hm.1.2.2.2.2.1 _ (List.mem_append_right _ (List.mem_flatMap.2 ⟨_,List.getElem_mem hk,h⟩));omega
  have p0':(s.Pc == 0)=true:=by simpa using p0
  have:=fin (DO b.Mem w c) (by rw [ep];exact hx0) (by rw [ep];exact fun h=>⟨hs,g2 h⟩) (by omega)
  rw [ep] at this
  simp only [p0',if_true,if_pos p0,(NA hw hc).1,aK,hx]
  rw [aA1 (show b.Mem.aC.cL[(w * 3+c).toNat].aS.length<=1048576 by omega),e2,aK,ep]
  exact this
 ·have p0':(s.Pc == 0)=false:=by simpa using p0
  simp only [p0',aN,if_false,wZ,if_neg p0]
  have hk:c.toNat < b.Mem.aC.Global.length:=by omega
  have hx:idx b.Mem.aC.Global c=some b.Mem.aC.Global[c.toNat]:=fH (by omega) (by omega)
  obtain⟨l,t,x,e1,e2,e3,g1,g2,g3⟩:=TS hm hc
  have hl:=hsG _ (List.getElem_mem hk)
  rw [hx] at e1;cases e1
  rw [aA1 (by omega)] at e2
  have ep:tK b.Mem c=(⟨b.Mem.aE,⟨b.Mem.aC.Global.set c.toNat t,b.Mem.aC.cL⟩⟩,x):=by
   unfold tK
   rw [<-dN hk]
   injection e2 with e2;injection e2 with e4 e5
   rw [<-e4,<-e5]
  have hx0:-1<=x:=by
   injection e2 with e2;injection e2 with e4 e5
   rcases popL b.Mem.aC.Global[c.toNat].aS with h | h
   ·rw [<-e5];exact h
   ·rw [<-e5];have:=hm.1.2.2.2.2.1 _ (List.mem_append_left _ (List.mem_flatMap.2 ⟨_,List.getElem_mem hk,h⟩));omega
  have tg:0<=s.Pc/\s.Pc<=3->(idx b.Mem.aC.Global c).bind (fun x13=>(rQ x13).bind fun x14=>i7 s x14.2 ({b with Mem:=(⟨b.Mem.aE,(⟨b.Mem.aC.Global.set c.toNat x14.1,b.Mem.aC.cL⟩:aC)⟩:Mem)}:aA))=some (xS b s (tK b.Mem c)):=fun hpc=>by
   have:=fin (tK b.Mem c) (by rw [ep];exact hx0) (by rw [ep];exact fun h=>⟨hs,g2 h⟩) (by omega)
   rw [hx,aK,aA1 (by omega),e2,aK,<-this,ep]
  by_cases p1:s.Pc=1
  ·have p1':(s.Pc == 1)=true:=by simpa using p1
   simp only [p1',if_true]
   rw [tg (by omega),if_pos (.inl p1)]
  ·have p1':(s.Pc == 1)=false:=by simpa using p1
   simp only [p1',aN,if_false]
   by_cases p3:s.Pc=3
   ·have p3':(s.Pc == 3)=true:=by simpa using p3
    simp only [p3',if_true]
    rw [tg (by omega),if_pos (.inr p3)]
   ·have p3':(s.Pc == 3)=false:=by simpa using p3
    have n13:¬(s.Pc=1\/s.Pc=3):=by omega
    simp only [p3',aN,if_false,if_neg n13]
    by_cases p2:s.Pc=2
    ·obtain⟨m',y,f1,f2,k1,k2,k3⟩:=aJ8 hm hc
     have hg:=aPK hm hc
     rw [f1] at hg
     have hg':GY b.Mem c=(m',y):=by injection hg with hg;exact hg.symm
     have hy:-1<=(GY b.Mem c).2:=by unfold GY;split <;> simp only <;> omega
     have p2':(s.Pc == 2)=true:=by simpa using p2
     simp only [p2',if_true,if_pos p2,f1,aK]
     have:=fin (GY b.Mem c) hy (by rw [hg'];exact k2) (by omega)
     rw [hg'] at this ⊢
     exact this
    ·have p2':(s.Pc == 2)=false:=by simpa using p2
     simp only [p2',aN,if_false,bO,if_neg p2,aK];rfl
end Go.Gv
end
noncomputable section
namespace Go.Gv
def bQ(c:aB)(w:Int):oV:=c.cG.getD w.toNat ⟨false,0,false,0⟩
theorem EK{c:aB}(hc:IC c){w:Int}(hw:0<=w/\w<=2):idx c.cG w=some (bQ c w):=by
 have:=hc.2.1
 rw [fH hw.1 (by omega)]
 simp [bQ,List.getD_eq_getElem?_getD,List.getElem?_eq_getElem (show w.toNat < c.cG.length by omega)]
def lZ(c:aB)(w e:Int):aB×Bool:=
 if (bQ c w).On=false\/(bQ c w).dC=true\/(bQ c w).aG=e then (c,true)
 else if (bQ c w).Seen=2 then (⟨c.aG,c.cG.set w.toNat {bQ c w with dC:=true,Seen:=0}⟩,true)
 else (⟨c.aG,c.cG.set w.toNat {bQ c w with Seen:=(bQ c w).Seen+1}⟩,false)
theorem DP{c:aB}(hc:IC c){w:Int}(hw:0<=w/\w<=2):POk c.aG (bQ c w):=by
 have:=EK hc hw
 have h2:=hc.2.1
 rw [fH hw.1 (by omega)] at this
 injection this with this
 rw [<-this]
 exact hc.2.2 _ (List.getElem_mem _)
theorem aTP{c:aB}(hc:IC c){w:Int}(hw:0<=w/\w<=2)(e:Int):F6 c w e=some (lZ c w e):=by
 have hp:=DP hc hw
 have hx:=EK hc hw
 have hsm:=hc.small
 unfold F6 CZ lZ
 rw [mJ hsm.1,iX,aZ hc,b8,aZ hw,hx]
 simp only [aK,dK,aN,if_false,qL,hx]
 generalize bQ c w=p at *
 have ew:bG (p.Seen+1)=p.Seen+1:=aO (by have:=hp.2.1;omega) (by have:=hp.2.1;omega)
 cases h1:p.On
 ·simp
 ·cases h2:p.dC
  ·by_cases h3:p.aG=e
   ·simp [h3]
   ·have h3':(p.aG == e)=false:=by simpa using h3
    by_cases h4:p.Seen=2
    ·simp [h3,h3',h4]
    ·have h4':(p.Seen == 2)=false:=by simpa using h4
     simp [h3,h3',h4,h4',ew]
  ·simp
def G8(c:aB)(e:Int):aB×Bool:=if c.aG=e/\e≠100000 then (⟨e+1,c.cG⟩,true) else (c,false)
theorem aTQ{c:aB}(hc:IC c)(e:Int):MO c e=some (G8 c e):=by
 have hsm:=hc.small
 unfold MO C0 G8
 rw [mJ hsm.1,iX,aZ hc]
 simp only [aK,dK,aN,if_false]
 by_cases h1:c.aG=e
 ·have he:=hc.1
  have ew:bG (e+1)=e+1:=aO (by omega) (by omega)
  by_cases h2:e=100000
  ·simp [h1,h2]
  ·have h2':(e == 100000)=false:=by simpa using h2
   simp [h1,h2,h2',ew]
 ·simp [h1]
def GZ(c:aB)(w e:Int):aB×Bool:=if 0<=e/\e<=c.aG then (⟨c.aG,c.cG.set w.toNat ⟨true,e,false,0⟩⟩,true) else (c,false)
theorem aPM{c:aB}(hc:IC c){w:Int}(hw:0<=w/\w<=2)(e:Int):I7 c w e=some (GZ c w e):=by
 have hsm:=hc.small
 unfold I7 yU GZ
 rw [mJ hsm.1,iX,aZ hc,b8,aZ hw,b8]
 simp only [aK,dK,aN,if_false]
 by_cases h1:0<=e/\e<=c.aG
 ·simp [h1,EK hc hw]
 ·simp [h1]
def rY(c:aB)(w:Int):aB×Bool:=if (bQ c w).On then (⟨c.aG,c.cG.set w.toNat ⟨false,0,false,0⟩⟩,true) else (c,false)
theorem aGY{c:aB}(hc:IC c){w:Int}(hw:0<=w/\w<=2):EB c w=some (rY c w):=by
 have hsm:=hc.small
 have hx:=EK hc hw
 unfold EB yV rY
 rw [mJ hsm.1,iX,aZ hc,b8,aZ hw,hx]
 simp only [aK,dK,aN,if_false,hx]
 cases h1:(bQ c w).On <;> simp
def d9(b:aA)(s:Sub):aA×Sub:=
 if s.Pc=0 then (b,{s with Pc:=1,E:=b.aB.aG,B:=0})
 else if s.Pc=1 then
  if 0<=s.B/\s.B<=2 then
   if (lZ b.aB s.B s.E).2 then ({b with aB:=(lZ b.aB s.B s.E).1},{s with Pc:=if s.B=2 then 2 else 1,B:=s.B+1})
   else ({b with aB:=(lZ b.aB s.B s.E).1},o7 s 8)
  else (b,o7 s 1)
 else if s.Pc=2 then ({b with aB:=(G8 b.aB s.E).1},o7 {s with Out:=if (G8 b.aB s.E).2 then 1 else s.Out} 0)
 else (b,o7 s 1)
theorem aKD{b:aA}(hc:IC b.aB)(s:Sub):sT b s=some (d9 b s):=by
 unfold sT d9
 rw [aTQ hc,b8]
 simp only [bO,rR,rS,aK]
 by_cases p0:s.Pc=0
 ·have p0':(s.Pc == 0)=true:=by simpa using p0
  simp only [p0',if_true,if_pos p0]
 ·have p0':(s.Pc == 0)=false:=by simpa using p0
  simp only [p0',aN,if_false,if_neg p0]
  by_cases p1:s.Pc=1
  ·have p1':(s.Pc == 1)=true:=by simpa using p1
   simp only [p1',if_true,if_pos p1]
   by_cases hB:0<=s.B/\s.B<=2
   ·have ew:bG (s.B+1)=s.B+1:=aO (by omega) (by omega)
    simp only [aZ hB,dK,aN,if_false,if_pos hB,aTP hc hB,aK,ew]
    cases h:(lZ b.aB s.B s.E).2
    ·simp [o7]
    ·by_cases q:s.B=2
     ·have q':(s.B+1 == 3)=true:=by simp [q]
      simp [q',q]
     ·have q':(s.B+1 == 3)=false:=by simp;omega
      simp [q',q,p1]
   ·simp only [bI hB,iA,if_true,if_neg hB];rfl
  ·have p1':(s.Pc == 1)=false:=by simpa using p1
   simp only [p1',aN,if_false,if_neg p1]
   by_cases p2:s.Pc=2
   ·have p2':(s.Pc == 2)=true:=by simpa using p2
    simp only [p2',if_true,if_pos p2]
    cases h:(G8 b.aB s.E).2 <;> rfl
   ·have p2':(s.Pc == 2)=false:=by simpa using p2
    simp only [p2',aN,if_false,if_neg p2];rfl
def OM(b:aA)(w:Int)(s:Sub):aA×Sub:=
 if s.Pc=0 then (b,{s with Pc:=1,E:=b.aB.aG})
 else if s.Pc=1 then
  if (GZ b.aB w s.E).2 then ({b with aB:=(GZ b.aB w s.E).1},{s with Pc:=2}) else ({b with aB:=(GZ b.aB w s.E).1},o7 s 1)
 else if s.Pc=2 then if b.aB.aG=s.E then (b,o7 s 0) else (b,{s with Pc:=0})
 else (b,o7 s 1)
theorem aWS{b:aA}(hc:IC b.aB){w:Int}(hw:0<=w/\w<=2)(s:Sub):F7 b w s=some (OM b w s):=by
 unfold F7 OM
 rw [aPM hc hw]
 simp only [bO,aK]
 by_cases p0:s.Pc=0
 ·have p0':(s.Pc == 0)=true:=by simpa using p0
  simp only [p0',if_true,if_pos p0]
 ·have p0':(s.Pc == 0)=false:=by simpa using p0
  simp only [p0',aN,if_false,if_neg p0]
  by_cases p1:s.Pc=1
  ·have p1':(s.Pc == 1)=true:=by simpa using p1
   simp only [p1',if_true,if_pos p1]
   cases h:(GZ b.aB w s.E).2 <;> rfl
  ·have p1':(s.Pc == 1)=false:=by simpa using p1
   simp only [p1',aN,if_false,if_neg p1]
   by_cases p2:s.Pc=2
   ·have p2':(s.Pc == 2)=true:=by simpa using p2
    simp only [p2',if_true,if_pos p2]
    by_cases q:b.aB.aG=s.E
    ·have q':(b.aB.aG == s.E)=true:=by simpa using q
     simp only [q',if_true,if_pos q];rfl
    ·have q':(b.aB.aG == s.E)=false:=by simpa using q
     simp only [q',aN,if_false,if_neg q]
   ·have p2':(s.Pc == 2)=false:=by simpa using p2
    simp only [p2',aN,if_false,if_neg p2];rfl
def bE(l:List aY)(w:Int):List cZ:=(l.getD w.toNat ⟨[]⟩).Rows
theorem A1{l:List aY}(hl:oP l){w:Int}(hw:0<=w/\w<=2):idx l w=some ⟨bE l w⟩:=by
 have:=hl.1
 rw [fH hw.1 (by omega)]
 simp [bE,List.getD_eq_getElem?_getD,List.getElem?_eq_getElem (show w.toNat < l.length by omega)]
theorem XW{l:List aY}(hl:oP l){w:Int}(hw:0<=w/\w<=2):(bE l w).length<=24:=by
 have h:=A1 hl hw
 have h3:=hl.1
 rw [fH hw.1 (by omega)] at h
 injection h with h
 have:=hl.small.2.2.2 _ (List.getElem_mem (show w.toNat < l.length by omega))
 rw [h] at this;exact this
def AN(b:aA)(w:Int)(s:Sub):aA×Sub:=
 if s.Pc=0 then (b,{s with Pc:=1,E:=b.aB.aG})
 else if s.Pc=1 then
  if 0<=s.E/\s.E<=b.aB.aG then
   if hC b.Mem s.A/\¬BI b.aL (s.A % 32) then ({b with aL:=b.aL.set w.toNat ⟨bE b.aL w ++ [⟨s.A,s.E⟩]⟩},o7 s 0) else (b,o7 s 4)
  else (b,o7 s 1)
 else (b,o7 s 1)
theorem aMF{b:aA}(hb:lY b){w:Int}(hw:0<=w/\w<=2)(s:Sub):vP b w s=some (AN b w s):=by
 have hL:=hb.1.2.2.1
 have hm:=hb.1.1
 obtain⟨h1,h2,h3,_⟩:=mI.facts hm
 have hx:=A1 hL hw
 have hrow:=XW hL hw
 unfold vP AN
 rw [b8,nU hm.1.1.1 (by omega) (by simp only [maxLen];omega) (by simp only [maxLen];omega),cV]
 simp only [bO,aK,t7,CY]
 by_cases p0:s.Pc=0
 ·have p0':(s.Pc == 0)=true:=by simpa using p0
  simp only [p0',if_true,if_pos p0]
 ·have p0':(s.Pc == 0)=false:=by simpa using p0
  simp only [p0',aN,if_false,if_neg p0]
  by_cases p1:s.Pc=1
  ·have p1':(s.Pc == 1)=true:=by simpa using p1
   simp only [p1',if_true,if_pos p1]
   by_cases q1:0<=s.E/\s.E<=b.aB.aG
   ·simp only [aZ q1,dK,aN,if_false,if_pos q1]
    by_cases q2:hC b.Mem s.A
    ·have hh:=q2.1
     simp only [aZ q2,dK,aN,if_false,if_pos hh,AM hL,aK]
     by_cases q3:BI b.aL (s.A % 32)
     ·simp only [aZ q3,if_true,if_neg (show ¬(hC b.Mem s.A/\¬BI b.aL (s.A % 32)) from fun h=>h.2 q3)];rfl
     ·simp only [bI q3,aN,if_false,hx,aK,if_pos (show hC b.Mem s.A/\¬BI b.aL (s.A % 32) from ⟨q2,q3⟩)]
      rw [aQ (by simp;omega)];rfl
    ·simp only [bI q2,iA,if_true,if_neg (show ¬(hC b.Mem s.A/\¬BI b.aL (s.A % 32)) from fun h=>q2 h.1)];rfl
   ·simp only [bI q1,iA,if_true,if_neg q1];rfl
  ·have p1':(s.Pc == 1)=false:=by simpa using p1
   simp only [p1',aN,if_false,if_neg p1];rfl
def wA(r:cZ)(e:Int):Prop:=2<=e/\r.aG<=bG (e - 2)
instance (r:cZ) (e:Int):Decidable (wA r e):=by unfold wA;infer_instance
theorem aDS(r:cZ)(e:Int):IL r e=some (decide (wA r e)):=by
 unfold IL H8 wA
 by_cases h:2<=e
 ·rw [aZ h,if_pos rfl]
  simp [h]
 ·simp [h]
def rA(l:List cZ)(e:Int)(k:Nat):Nat:=k+(l.drop k).findIdx (fun r=>decide (wA r e))
theorem aTR{l:List cZ}(hl:l.length<=1000){from_ e:Int}:xB l from_ e=some (if rA l e from_.toNat < l.length then (rA l e from_.toNat:Int) else -1):=by
 have hst:(if 0 < from_ then from_ else 0)=(from_.toNat:Int):=by split <;> omega
 unfold xB
 rw [hst]
 have key:∀d k:Nat,l.length<=k+d->loop (eN l e) (k:Int)=some (if rA l e k < l.length then Out.ret (rA l e k:Int) else Out.brk ()):=by
  intro d
  induction d with
  | zero =>
   intro k hk
   rw [bS (r:=Out.brk ()) (by simp only [eN];rw [if_neg (by simp;omega)]),if_neg (by unfold rA;omega)]
  | succ d ih =>
   intro k hk
   by_cases hkl:k < l.length
   ·have hd:l.drop k=l[k] :: l.drop (k+1):=List.drop_eq_getElem_cons hkl
    by_cases hr:wA l[k] e
    ·have hs:rA l e k=k:=by unfold rA;rw [hd,List.findIdx_cons,aZ hr];rfl
     rw [bS (r:=Out.ret (k:Int)) (by simp only [eN];rw [if_pos (by simp;omega),aV hkl,aK,aDS _ e,aK,aZ hr,if_pos rfl]),hs,if_pos hkl]
    ·have hs:rA l e k=rA l e (k+1):=by unfold rA;rw [hd,List.findIdx_cons,bI hr];simp only [cond_false];omega
     rw [bW (s':=((k+1:Nat):Int)) (by simp only [eN];rw [if_pos (by simp;omega),aV hkl,aK,aDS _ e,aK,bI hr,if_neg (by simp),aO (by omega) (by omega)];rfl),ih (k+1) (by omega),hs]
   ·rw [bS (r:=Out.brk ()) (by simp only [eN];rw [if_neg (by simp;omega)]),if_neg (by unfold rA;omega)]
 rw [key l.length from_.toNat (by omega)]
 split <;> rfl
theorem aDT{l:List cZ}{e:Int}{k:Nat}(h:rA l e k < l.length):k<=rA l e k/\wA l[rA l e k] e:=by
 refine⟨by unfold rA;omega,?_⟩
 have h1:(l.drop k).findIdx (fun r=>decide (wA r e)) < (l.drop k).length:=by
  rw [List.length_drop];unfold rA at h;omega
 have:=List.findIdx_getElem (xs:=l.drop k) (p:=fun r=>decide (wA r e)) (w:=h1)
 rw [List.getElem_drop] at this
 exact of_decide_eq_true this
def DQ(m:Mem)(w h:Int):Mem:=
 if h / 32+1<=6 then
  if (dS m.aC.cL (w * 3+aW m.aE (h % 32)).toNat).length < 2 then ⟨⟨XT m.aE.Bytes (eG (h % 32) (aW m.aE (h % 32))).toNat (h / 32+1),m.aE.Class⟩,⟨m.aC.Global,m.aC.cL.set (w * 3+aW m.aE (h % 32)).toNat ⟨dS m.aC.cL (w * 3+aW m.aE (h % 32)).toNat ++ [h % 32]⟩⟩⟩
  else ⟨⟨XT m.aE.Bytes (eG (h % 32) (aW m.aE (h % 32))).toNat (h / 32+1),m.aE.Class⟩,⟨m.aC.Global.set (aW m.aE (h % 32)).toNat ⟨dS m.aC.Global (aW m.aE (h % 32)).toNat ++ [h % 32]⟩,m.aC.cL⟩⟩
 else ⟨⟨XT m.aE.Bytes (eG (h % 32) (aW m.aE (h % 32))).toNat (h / 32+1),m.aE.Class⟩,m.aC⟩
theorem aTS{m:Mem}(hm:mI m){w h:Int}(hw:0<=w/\w<=2)(hv:hC m h):F5 m w (h % 32)=some (DQ m w h):=by
 obtain⟨hcnt,h3,h9,h1,h2,hsm,hcp,hlo,hsG,hsO⟩:=mI.facts hm
 have hs:=hm.1.1.1
 have hh:=hv.1
 have hcl:=hJ hv.2.1
 have hgo:=FN hcl
 have hc2:0<=aW m.aE (h % 32)/\aW m.aE (h % 32)<=2:=by
  obtain⟨_,q,e⟩:=pR hcl
  rw [e];exact g9.1 (by omega)
 have hg6:1<=h / 32/\h / 32<=6:=by unfold jH at hh;omega
 have eo:eG (h % 32) (aW m.aE (h % 32))=(((eG (h % 32) (aW m.aE (h % 32))).toNat:Nat):Int):=by omega
 have ew:bG (h / 32+1)=h / 32+1:=aO (by omega) (by omega)
 unfold F5 DQ
 rw [iW hs,aK,oY hs hcl,hv.2.2,aK,tI,aK,ew]
 generalize hgn:(eG (h % 32) (aW m.aE (h % 32))).toNat=a at eo
 rw [eo,GX (by omega) (by omega) (by omega)]
 simp only [aK,I6,I5,ew]
 generalize aW m.aE (h % 32)=c at *
 by_cases q:h / 32+1<=6
 ·have hk:(w * 3+c).toNat < m.aC.cL.length:=by omega
  have hx:idx m.aC.cL (w * 3+c)=some m.aC.cL[(w * 3+c).toNat]:=fH (by omega) (by omega)
  have hk2:c.toNat < m.aC.Global.length:=by omega
  have hx2:idx m.aC.Global c=some m.aC.Global[c.toNat]:=fH (by omega) (by omega)
  have b1:=hsO _ (List.getElem_mem hk)
  have b2:=hsG _ (List.getElem_mem hk2)
  rw [aZ q,if_pos rfl,if_pos q]
  unfold QV
  rw [(NA hw hc2).1]
  simp only [aK,hx,hx2,I4,QT,QU,<-dN hk,<-dN hk2]
  by_cases q2:m.aC.cL[(w * 3+c).toNat].aS.length < 2
  ·have y1:(m.aC.cL[(w * 3+c).toNat].aS.length:Int) < 2:=by omega
   simp only [aZ y1,if_true,if_pos q2]
   rw [aQ (by simp;omega)];rfl
  ·have y1:¬(m.aC.cL[(w * 3+c).toNat].aS.length:Int) < 2:=by omega
   simp only [bI y1,aN,if_false,if_neg q2]
   rw [aQ (by simp;omega)];rfl
 ·rw [bI q,if_neg (by simp),if_neg q]
def iL(z:List Int)(w:Int):Int:=z.getD w.toNat 0
theorem NB{z:List Int}(hz:ID z){w:Int}(hw:0<=w/\w<=2):idx z w=some (iL z w):=by
 have:=hz.1
 rw [fH hw.1 (by omega)]
 simp [iL,List.getD_eq_getElem?_getD,List.getElem?_eq_getElem (show w.toNat < z.length by omega)]
def GD(l:List cZ)(k:Int):cZ:=l.getD k.toNat ⟨0,0⟩
theorem RS{l:List cZ}{k:Int}(h:0<=k/\k < l.length):idx l k=some (GD l k):=by
 rw [fH h.1 h.2]
 simp [GD,List.getD_eq_getElem?_getD,List.getElem?_eq_getElem (show k.toNat < l.length by omega)]
def DR(l:List cZ)(s:Sub):Prop:=0<=s.Row/\s.Row < l.length/\(GD l s.Row).Handle=s.H
instance (l:List cZ) (s:Sub):Decidable (DR l s):=by unfold DR;infer_instance
def dP(b:aA)(w:Int)(s:Sub):aA×Sub:=
 if s.Pc=0 then (b,{s with Pc:=1,E:=b.aB.aG,Row:=0})
 else if s.Pc=1 then
  if rA (bE b.aL w) s.E s.Row.toNat < (bE b.aL w).length then (b,{s with Pc:=2,Row:=(rA (bE b.aL w) s.E s.Row.toNat:Int),B:=0,H:=(GD (bE b.aL w) (rA (bE b.aL w) s.E s.Row.toNat:Int)).Handle})
  else (b,o7 s 0)
 else if s.Pc=2 then
  if (0<=s.B/\s.B<=2)/\DR (bE b.aL w) s then
   if iL b.iS s.B=s.H then (b,{s with Pc:=1,Row:=s.Row+1}) else (b,{s with Pc:=if s.B=2 then 3 else 2,B:=s.B+1})
  else (b,o7 s 1)
 else if s.Pc=3 then
  if DR (bE b.aL w) s/\wA (GD (bE b.aL w) s.Row) s.E then ({b with Mem:=DQ b.Mem w s.H,aL:=b.aL.set w.toNat ⟨(bE b.aL w).eraseIdx s.Row.toNat⟩},{s with Pc:=1,Out:=bG (s.Out+1)})
  else (b,o7 s 1)
 else (b,o7 s 1)
theorem GF{l:List aY}(hl:oP l){w:Int}(hw:0<=w/\w<=2){r:cZ}(hr:r∈bE l w):r∈bC l:=by
 have h:=A1 hl hw
 have h3:=hl.1
 rw [fH hw.1 (by omega)] at h
 injection h with h
 exact List.mem_flatMap.2 ⟨l[w.toNat],List.getElem_mem _,by rw [h];exact hr⟩
theorem WC{l:List cZ}{k:Int}(h:0<=k/\k < l.length):GD l k∈l:=by
 have:=RS h
 rw [fH h.1 h.2] at this
 injection this with this
 rw [<-this];exact List.getElem_mem _
theorem aKE{b:aA}(hb:lY b){w:Int}(hw:0<=w/\w<=2)(s:Sub):sU b w s=some (dP b w s):=by
 have hL:=hb.1.2.2.1
 have hm:=hb.1.1
 have hx:=A1 hL hw
 have hrow:=XW hL hw
 have hfl:=fun r hr=>GF hL hw (r:=r) hr
 unfold sU dP
 rw [hx]
 simp only [aK,bO]
 generalize bE b.aL w=l at *
 by_cases p0:s.Pc=0
 ·have p0':(s.Pc == 0)=true:=by simpa using p0
  simp only [p0',if_true,if_pos p0]
 have p0':(s.Pc == 0)=false:=by simpa using p0
 simp only [p0',aN,if_false,if_neg p0]
 by_cases p1:s.Pc=1
 ·have p1':(s.Pc == 1)=true:=by simpa using p1
  simp only [p1',if_true,if_pos p1,aTR (show l.length<=1000 by omega),aK]
  by_cases q:rA l s.E s.Row.toNat < l.length
  ·have n:¬(rA l s.E s.Row.toNat:Int) < 0:=by omega
   simp only [if_pos q,bI n,aN,if_false,RS (l:=l) (k:=(rA l s.E s.Row.toNat:Int)) (by omega),aK]
  ·simp only [if_neg q,aZ (show(-1:Int) < 0 by omega),if_true];rfl
 have p1':(s.Pc == 1)=false:=by simpa using p1
 simp only [p1',aN,if_false,if_neg p1]
 have el:bG ((l.length:Int) - 1)=(l.length:Int) - 1:=aO (by omega) (by omega)
 by_cases p2:s.Pc=2
 ·have p2':(s.Pc == 2)=true:=by simpa using p2
  simp only [p2',if_true,if_pos p2,b8,el,aK,fD,rT,bO]
  by_cases hB:0<=s.B/\s.B<=2
  ·simp only [aZ hB,dK,aN,if_false]
   by_cases hR:0<=s.Row/\s.Row<=(l.length:Int) - 1
   ·simp only [aZ hR,dK,aN,if_false,RS (l:=l) (k:=s.Row) (by omega),aK]
    by_cases hH:(GD l s.Row).Handle=s.H
    ·have hH':((GD l s.Row).Handle != s.H)=false:=by simpa using hH
     have ha:(0<=s.B/\s.B<=2)/\DR l s:=⟨hB,hR.1,by omega,hH⟩
     have e1:bG (s.B+1)=s.B+1:=aO (by omega) (by omega)
     have e2:bG (s.Row+1)=s.Row+1:=aO (by omega) (by omega)
     simp only [hH',aN,if_false,if_pos ha,NB hb.1.2.2.2 hB,aK,e1,e2]
     by_cases hz:iL b.iS s.B=s.H
     ·have hz':(iL b.iS s.B == s.H)=true:=by simpa using hz
      simp only [hz',if_true,if_pos hz]
     ·have hz':(iL b.iS s.B == s.H)=false:=by simpa using hz
      simp only [hz',aN,if_false,if_neg hz]
      by_cases q:s.B=2
      ·have q':(s.B+1 == 3)=true:=by simp [q]
       simp only [q',if_true,if_pos q]
      ·have q':(s.B+1 == 3)=false:=by simp;omega
       simp only [q',aN,if_false,if_neg q,p2]
    ·have hH':((GD l s.Row).Handle != s.H)=true:=by simpa using hH
     have ha:¬((0<=s.B/\s.B<=2)/\DR l s):=fun h=>hH h.2.2.2
     simp only [hH',if_true,if_neg ha,aK];rfl
   ·have ha:¬((0<=s.B/\s.B<=2)/\DR l s):=fun h=>hR ⟨h.2.1,by have:=h.2.2.1;omega⟩
    simp only [bI hR,iA,if_true,if_neg ha,aK];rfl
  ·have ha:¬((0<=s.B/\s.B<=2)/\DR l s):=fun h=>hB h.1
   simp only [bI hB,iA,if_true,if_neg ha,aK];rfl
 have p2':(s.Pc == 2)=false:=by simpa using p2
 simp only [p2',aN,if_false,if_neg p2]
 by_cases p3:s.Pc=3
 ·have p3':(s.Pc == 3)=true:=by simpa using p3
  simp only [p3',if_true,if_pos p3,b8,el,aK,fE,AW,bO]
  by_cases hR:0<=s.Row/\s.Row<=(l.length:Int) - 1
  ·simp only [aZ hR,dK,aN,if_false,RS (l:=l) (k:=s.Row) (by omega),aK]
   by_cases hH:(GD l s.Row).Handle=s.H
   ·have hH':((GD l s.Row).Handle != s.H)=false:=by simpa using hH
    simp only [hH',aN,if_false,aDS,aK]
    by_cases hr:wA (GD l s.Row) s.E
    ·have ha:DR l s/\wA (GD l s.Row) s.E:=⟨⟨hR.1,by omega,hH⟩,hr⟩
     have e2:bG (s.Row+1)=s.Row+1:=aO (by omega) (by omega)
     have hlive:=(hb.2 _ (hfl _ (WC (l:=l) (k:=s.Row) (by omega)))).1
     rw [hH] at hlive
     have et:(s.Row+1).toNat=s.Row.toNat+1:=by omega
     simp only [aZ hr,dK,aN,if_false,if_pos ha,e2,cV,if_pos hlive.1,aK,aTS hm hw hlive,et]
     rw [aQ (by omega),aQ (by omega),aQ (by omega),del_eq (by omega)]
    ·have ha:¬(DR l s/\wA (GD l s.Row) s.E):=fun h=>hr h.2
     simp only [bI hr,iA,if_true,if_neg ha,aK];rfl
   ·have hH':((GD l s.Row).Handle != s.H)=true:=by simpa using hH
    have ha:¬(DR l s/\wA (GD l s.Row) s.E):=fun h=>hH h.1.2.2
    simp only [hH',if_true,if_neg ha,aK];rfl
  ·have ha:¬(DR l s/\wA (GD l s.Row) s.E):=fun h=>hR ⟨h.1.1,by have:=h.1.2.1;omega⟩
   simp only [bI hR,iA,if_true,if_neg ha,aK];rfl
 ·have p3':(s.Pc == 3)=false:=by simpa using p3
  simp only [p3',aN,if_false,if_neg p3];rfl
def eF(b:aA)(w:Int)(s:Sub):aA×Sub:=
 if s.cO then (b,s) else if s.Kind=1 then EJ b w s else if s.Kind=2 then AN b w s else if s.Kind=3 then d9 b s else if s.Kind=4 then dP b w s else if s.Kind=5 then OM b w s else (b,o7 s 1)
theorem aIP{b:aA}(hb:lY b){w:Int}(hw:0<=w/\w<=2)(s:Sub):vQ b w s=some (eF b w s):=by
 unfold vQ eF
 rw [aPL hb.1.1 hw,aMF hb hw,aKD hb.1.2.1,aKE hb hw,aWS hb.1.2.1 hw]
 simp only [aK,bO]
 cases s.cO
 ·simp only [aN,if_false,beq_iff_eq]
  split <;> (try rfl)
  split <;> (try rfl)
  split <;> (try rfl)
  split <;> (try rfl)
  split <;> rfl
 ·rfl
end Go.Gv
end
noncomputable section
namespace Go.Gv
def aTT:aE:=⟨List.replicate 384 0,[-1,-1,-1,-1,-1,-1]⟩
def aZN:aC:=⟨List.replicate 3 ⟨[]⟩,List.replicate 9 ⟨[]⟩⟩
def aDU:aA:=⟨⟨aTT,aZN⟩,⟨0,List.replicate 3 ⟨false,0,false,0⟩⟩,List.replicate 3 ⟨[]⟩,List.replicate 3 0⟩
theorem aAE:H7=some aTT:=by
 unfold H7
 have key:loop sQ (0,[])=some (List.replicate 6 (-1)):=jG (f:=sQ) 6 (fun k=>((k:Int),List.replicate k (-1))) _ (fun k hk=>by
  simp only [sQ]
  rw [if_pos (by simp;omega),aQ (by simp;omega),aO (by omega) (by omega),List.replicate_succ'];rfl) (by simp [sQ])
 rw [aQ (by omega),key];rfl
theorem aZO:tZ [-1] 6=some [-1,-1,-1,-1,-1,-1]:=by
 unfold tZ
 rw [if_neg (by simp),show tF (IntKind.u64.wrap (([-1]:List Int).length:Int)) (IntKind.u64.wrap 6)=some (0,6) by kernel_rfl]
 simp only [aK]
 rw [if_neg (by simp),bI (by omega)]
 simp only [oF,aN,if_false]
 rw [show IntKind.i64.wrap 6=6 from wrap_i64 (by omega) (by omega),aQ (by omega),
  show(dI (List.replicate (Int.toNat 6) 0) 0 [-1],((min ([-1]:List Int).length ((List.replicate (Int.toNat 6) (0:Int)).length - 0):Nat):Int))=([-1,0,0,0,0,0],1) by kernel_rfl,
  bW (body:=kS) (s':=([-1,-1,0,0,0,0],2)) (by kernel_rfl),bW (body:=kS) (s':=([-1,-1,-1,-1,0,0],4)) (by kernel_rfl),
  bW (body:=kS) (s':=([-1,-1,-1,-1,-1,-1],6)) (by kernel_rfl),bS (body:=kS) (r:=[-1,-1,-1,-1,-1,-1]) (by kernel_rfl)]
 rfl
theorem aAF:HV=some aTT:=by
 unfold HV
 rw [aQ (by omega),aZO];rfl
theorem aDV:H9=some aDU/\HW=some aDU:=by
 unfold H9 HW QQ QH LB K7 LF K8 LG K9 QW QI
 rw [aAE,aAF,aQ (by omega),aQ (by omega),aQ (by omega),aQ (by omega),aQ (by omega)]
 exact⟨rfl,rfl⟩
theorem aTU:lY aDU:=of_decide_eq_true (by kernel_rfl)
def aN8:aD:=⟨⟨⟨⟨[],[]⟩,⟨[],[]⟩⟩,⟨0,[]⟩,[],[]⟩,[],[],[],[],0⟩
def fW(t:List Queue):aD:=⟨aDU,List.replicate 2 0,List.replicate 3 kY,t,[],0⟩
theorem aPN{t:List Queue}(h:JS t):mW (fW t):=
 ⟨aTU,rfl,rfl,h,by simp [fW],fun q hq=>by simp [fW] at hq;exact .inl hq,fun j hj=>by simp [fW] at hj;exact(RR (by rw [hj];rfl)).2 hj⟩
theorem XX{l:List Queue}(hl:l.length<=1048576)(hq:∀q∈l,q.iC.length<=1048576):C4 l=some l/\xX l=some l:=by
 constructor
 ·unfold C4
  rw [VZ l]
  ·rfl
  ·intro k hk
   have:=hq _ (List.getElem_mem hk)
   simp only [C3]
   rw [if_pos (by simp;omega),aV hk]
   simp only [aK]
   rw [aQ (by simp;omega),aQ (by simp;omega),aO (by omega) (by omega)];rfl
  ·simp [C3]
 ·unfold xX
  rw [VZ l]
  ·rfl
  ·intro k hk
   have:=hq _ (List.getElem_mem hk)
   simp only [D5]
   rw [if_pos (by simp;omega),aV hk]
   simp only [aK,GL]
   rw [aQ (by simp;omega),aK,aQ (by simp;omega),aO (by omega) (by omega)];rfl
  ·simp [D5]
theorem YM{t:List Queue}(hl:t.length<=1048576)(hq:∀q∈t,q.iC.length<=1048576):FD t=some (if JS t then fW t else aN8)/\E4 t=some (if JS t then fW t else aN8):=by
 have hm:t.length<=maxLen:=by simp only [maxLen];omega
 unfold FD E4
 rw [V9 hm,WA hm (fun q h=>by have:=hq q h;simp only [maxLen];omega)]
 simp only [aK]
 by_cases h:JS t
 ·simp only [aZ h,dK,aN,if_false,if_pos h,aDV.1,aDV.2,aK,(XX hl hq).1,(XX hl hq).2]
  rw [aQ (by omega),aQ (by omega),aQ (by omega),aQ (by omega)]
  exact⟨rfl,rfl⟩
 ·simp only [bI h,iA,if_true,if_neg h]
  exact⟨rfl,rfl⟩
end Go.Gv
end
noncomputable section
namespace Go.Gv
def ON(s:aD):Prop:=OH s.aA/\s.Cells.length<=1048576/\s.aU.length<=1048576/\s.bK.length<=1048576/\(∀q∈s.bK,q.iC.length<=1048576)/\s.Log.length<=1048576
theorem ON.fits{s:aD}(h:ON s):s.aA.Mem.aE.Bytes.length<=maxLen/\(c9 s.aA.Mem.aC).length<=1073741824/\s.aA.aB.cG.length<=maxLen/\s.aA.aL.length<=maxLen/\(bC s.aA.aL).length<=1073741824/\s.aA.iS.length<=maxLen:=by
 obtain⟨⟨⟨a1,a2,a3,a4,a5⟩,b1,b2,b3,b4⟩,_⟩:=h
 simp only [maxLen];omega
theorem aN9{s:aD}(h:ON s):wU s=some (decide (mW s)):=aAC h.fits (by have:=h.2.2.2.1;simp only [maxLen];omega)
theorem aOA{s:aD}(h:ON s):wH s=some (decide (mW s)):=
 have hM:∀{n:Nat},n<=1048576->n<=maxLen:=fun h=>by simp only [maxLen];omega
 aAD h.fits (hM h.2.2.2.1) (fun q hq=>hM (h.2.2.2.2.1 q hq)) (hM h.2.1) (hM h.2.2.1)
theorem TU{s:aD}(h:ON s):uK s=some s:=by
 obtain⟨hb,c1,c2,c3,c4,c5⟩:=h
 have n1:∀{β:Type} (k:Option β),need (([]:List bA).length+s.aU.length<=1073741824) k=k:=fun k=>aQ (by simp only [List.length_nil];omega) k
 have n2:∀{β:Type} (k:Option β),need (([]:List Ev).length+s.Log.length<=1073741824) k=k:=fun k=>aQ (by simp only [List.length_nil];omega) k
 unfold uK D6 GM
 simp only [aIH hb,oQ (show s.Cells.length<=1073741824 by omega),(XX c3 c4).2,aK,n1,n2,List.nil_append]
theorem KV{s:aD}(h:mW s)(hl:s.Log.length<=1000000):ON s:=by
 have ht:=h.2.2.2.1
 exact⟨h.1.small,by have:=h.2.1;omega,by have:=h.2.2.1;omega,by have:=ht.1;omega,fun q hq=>by have:=(ht.2 q hq).1;omega,by omega⟩
end Go.Gv
end
noncomputable section
namespace Go.Gv
def wB(m:Mem)(h n:Int):Mem×Int:=if hC m h then (⟨⟨EI m.aE.Bytes ((eG (h % 32) (aW m.aE (h % 32))).toNat+4) n,m.aE.Class⟩,m.aC⟩,0) else (m,4)
theorem aTV{h:aE}{s:Int}(hcl:0<=aW h s):(eG s (aW h s)).toNat+8<=384/\8<=gR (aW h s)/\gR (aW h s)<=40:=by
 have hc2:0<=aW h s/\aW h s<=2:=by
  obtain⟨_,q,e⟩:=pR hcl
  rw [e];exact g9.1 (by omega)
 have hz:8<=gR (aW h s)/\gR (aW h s)<=40:=by rcases fU hc2 with e | e | e <;> rw [e] <;> decide
 obtain⟨p,i,p6,hi,es,ec,eo,ep⟩:=sZ hcl
 refine⟨?_,hz⟩
 rw [eo]
 have hcl':0<=bV h p/\bV h p<=2:=by rw [<-ec];exact hc2
 generalize bV h p=c at hi hcl'
 rcases fU hcl' with rfl | rfl | rfl
 ·rw [show(bY 0).toNat=4 from rfl] at hi;rw [show(aT 0).toNat=12 from rfl];omega
 ·rw [show(bY 1).toNat=2 from rfl] at hi;rw [show(aT 1).toNat=20 from rfl];omega
 ·rw [show(bY 2).toNat=1 from rfl] at hi;rw [show(aT 2).toNat=44 from rfl];omega
theorem aPO{m:Mem}(hm:mI m){h n:Int}(hn:0<=n/\n<=65535):CU m h 0 4 n=some (wB m h n):=by
 obtain⟨hcnt,h3,h9,h1,h2,hsm,hcp,hlo,hsG,hsO⟩:=mI.facts hm
 have hs:=hm.1.1.1
 have hbl:m.aE.Bytes.length<=maxLen:=by rw [h1];simp [maxLen]
 have hall:(c9 m.aC).length<=1073741824:=by omega
 have hg:m.aC.Global.length<=maxLen:=by rw [h3];simp [maxLen]
 have ho:m.aC.cL.length<=maxLen:=by rw [h9];simp [maxLen]
 unfold CU QP wB
 rw [YJ hsm,LS hbl hall,aZ hm,b8]
 simp only [aK,dK,aN,if_false,CT,show(decide ((1:Int)<=4/\(4:Int)<=7))=true from rfl,nU hs hall hg ho]
 by_cases hv:hC m h
 ·have hh:=hv.1
  have hcl:=hJ hv.2.1
  have hgo:=FN hcl
  obtain⟨hroom,hz⟩:=aTV hcl
  simp only [aZ hv,dK,aN,if_false,if_pos hv,cV,if_pos hh,aK,iW hs,qR,b8]
  rw [aO (x:=gR (aW m.aE (h % 32)) - 1) (by omega) (by omega),aZ (show(0:Int)<=0/\(0:Int)<=gR (aW m.aE (h % 32)) - 1 by omega),aO (x:=gR (aW m.aE (h % 32)) - 0) (by omega) (by omega),bI (show ¬gR (aW m.aE (h % 32)) - 0 < 4 by omega)]
  simp only [dK,aN,if_false,CS,(start_eq hs hcl).1,aK]
  rw [aO (x:=eG (h % 32) (aW m.aE (h % 32))+4+0) (by omega) (by omega),Int.add_zero]
  have eo':eG (h % 32) (aW m.aE (h % 32))+4=(((eG (h % 32) (aW m.aE (h % 32))).toNat+4:Nat):Int):=by omega
  obtain⟨t,ht1,ht2⟩:=YL hn
  rw [eo']
  simp only [aK,aN,if_false,bne_self_eq_false,ht1,ht2]
  rw [XU (by omega) (by omega) ⟨hn.1,by omega⟩];rfl
 ·simp only [bI hv,iA,if_true,aK,show((4:Int) != 0)=true from rfl,if_neg hv]
def XY(h:aE)(x:Int):Int:=if jH x/\0<=aW h (x % 32) then ld h.Bytes ((eG (x % 32) (aW h (x % 32))).toNat+4) 4 else 0
theorem aIQ{s:aD}(hm:mI s.aA.Mem)(j:bA):oL s j=some (XY s.aA.Mem.aE j.H):=by
 have hs:=hm.1.1.1
 have h1:=hs.1
 unfold oL KR XY
 generalize j.H=h
 rw [eJ,b8]
 simp only [aK,C7,show(decide ((1:Int)<=4/\(4:Int)<=7))=true from rfl,dK,aN,if_false]
 by_cases hh:jH h
 ·simp only [aZ hh,dK,aN,if_false,cV,if_pos hh,aK,iW hs]
  by_cases hcl:aW s.aA.Mem.aE (h % 32) < 0
  ·simp only [aZ hcl,if_true,mT,aK,if_neg (show ¬(jH h/\0<=aW s.aA.Mem.aE (h % 32)) by omega)]
  ·have hcl':0<=aW s.aA.Mem.aE (h % 32):=by omega
   have hgo:=FN hcl'
   obtain⟨hroom,hz⟩:=aTV hcl'
   simp only [bI hcl,aN,if_false,qR,b8,aK,if_pos (show jH h/\0<=aW s.aA.Mem.aE (h % 32) from ⟨hh,hcl'⟩)]
   rw [aO (x:=gR (aW s.aA.Mem.aE (h % 32)) - 1) (by omega) (by omega),aZ (show(0:Int)<=0/\(0:Int)<=gR (aW s.aA.Mem.aE (h % 32)) - 1 by omega),aO (x:=gR (aW s.aA.Mem.aE (h % 32)) - 0) (by omega) (by omega),bI (show ¬gR (aW s.aA.Mem.aE (h % 32)) - 0 < 4 by omega)]
   simp only [dK,aN,if_false,mT,cV,if_pos hh,(start_eq hs hcl').1,aK]
   rw [aO (x:=eG (h % 32) (aW s.aA.Mem.aE (h % 32))+4+0) (by omega) (by omega),Int.add_zero]
   have eo':eG (h % 32) (aW s.aA.Mem.aE (h % 32))+4=(((eG (h % 32) (aW s.aA.Mem.aE (h % 32))).toNat+4:Nat):Int):=by omega
   rw [eo',show(4:Int)=((4:Nat):Int) from rfl,DF hs.2.2.1 (by omega) (by omega) (by omega)];rfl
 ·simp only [bI hh,iA,if_true,aK,if_neg (show ¬(jH h/\0<=aW s.aA.Mem.aE (h % 32)) from fun q=>hh q.1)]
def DS(z:List Int)(w h:Int):List Int:=if jH h then z.set w.toNat h else z
theorem aKF{z:List Int}(hz:ID z){w:Int}(hw:0<=w/\w<=2)(h:Int):∃t,C1 z w h=some (DS z w h,t):=by
 have h3:=hz.1
 unfold C1 sV DS
 rw [EF (by omega),zJ (by simp only [maxLen];omega),aZ hz,b8,aZ hw,eJ]
 by_cases q:jH h
 ·simp only [aZ q,NB hz hw,aK,dK,aN,if_false,if_pos q];exact⟨_,rfl⟩
 ·simp only [bI q,aK,dK,iA,aN,if_false,if_true,if_neg q];exact⟨_,rfl⟩
def RT(z:List Int)(w:Int):List Int:=if iL z w=0 then z else z.set w.toNat 0
theorem aPP{z:List Int}(hz:ID z){w:Int}(hw:0<=w/\w<=2):∃t,I8 z w=some (RT z w,t):=by
 have h3:=hz.1
 unfold I8 yW RT
 rw [EF (by omega),zJ (by simp only [maxLen];omega),aZ hz,b8,aZ hw,NB hz hw]
 by_cases q:iL z w=0
 ·have q':(iL z w == 0)=true:=by simpa using q
  simp only [q',aK,dK,aN,if_false,if_true,if_pos q,NB hz hw];exact⟨_,rfl⟩
 ·have q':(iL z w == 0)=false:=by simpa using q
  simp only [q',aK,dK,aN,if_false,if_neg q,NB hz hw];exact⟨_,rfl⟩
structure JR where
 b:aA
 c:List Int
 j:bA
 l:List Ev
def b9(j:bA)(pc code:Int):bA:={j with Pc:=pc,Code:=code}
def tA(kind a:Int):Sub:=⟨kind,a,0,0,0,0,0,0,0,false⟩
def cellAt(c:List Int)(k:Int):Int:=c.getD k.toNat 0
def jI(c:aB)(w:Int)(j:bA)(pc:Int):bA:=if (bQ c w).On=true/\(bQ c w).dC=false then b9 j pc 0 else b9 {j with dV:=0} pc 6
noncomputable section
variable (s:aD) (w:Int) (j:bA)
def DZ(h:Int):Ev:=⟨3,w,j.aI,j.Op.Cell,h,0,0⟩
def OO:JR:=
 if j.Pc=0 then
  if (eF s.aA w j.Sub).2.cO then
   if (eF s.aA w j.Sub).2.Code≠0 then ⟨(eF s.aA w j.Sub).1,s.Cells,b9 {j with Sub:=(eF s.aA w j.Sub).2} 9 (eF s.aA w j.Sub).2.Code,[]⟩
   else if jH (eF s.aA w j.Sub).2.Out then ⟨(eF s.aA w j.Sub).1,s.Cells,b9 {j with Sub:=(eF s.aA w j.Sub).2,H:=(eF s.aA w j.Sub).2.Out} 1 0,[]⟩
   else ⟨(eF s.aA w j.Sub).1,s.Cells,b9 {j with Sub:=(eF s.aA w j.Sub).2} 9 1,[]⟩
  else ⟨(eF s.aA w j.Sub).1,s.Cells,{j with Sub:=(eF s.aA w j.Sub).2},[]⟩
 else if j.Pc=1 then ⟨{s.aA with Mem:=(wB s.aA.Mem j.H j.Op.dV).1},s.Cells,if (wB s.aA.Mem j.H j.Op.dV).2=0 then b9 j 2 0 else b9 j 9 (wB s.aA.Mem j.H j.Op.dV).2,[]⟩
 else if j.Pc=2 then ⟨s.aA,s.Cells.set j.Op.Cell.toNat j.H,if cellAt s.Cells j.Op.Cell=0 then b9 {j with Old:=0} 9 0 else b9 {j with Sub:=tA 2 (cellAt s.Cells j.Op.Cell),Old:=cellAt s.Cells j.Op.Cell} 3 0,[⟨2,w,j.aI,j.Op.Cell,j.H,j.Op.dV,0⟩]⟩
 else if j.Pc=3 then ⟨(eF s.aA w j.Sub).1,s.Cells,if (eF s.aA w j.Sub).2.cO then b9 {j with Sub:=(eF s.aA w j.Sub).2} 9 (eF s.aA w j.Sub).2.Code else {j with Sub:=(eF s.aA w j.Sub).2},[]⟩
 else ⟨s.aA,s.Cells,b9 j 9 1,[]⟩
def NC:JR:=
 if j.Pc=0 then ⟨(eF s.aA w j.Sub).1,s.Cells,if (eF s.aA w j.Sub).2.cO then b9 {j with Sub:=(eF s.aA w j.Sub).2} 1 0 else {j with Sub:=(eF s.aA w j.Sub).2},[]⟩
 else if j.Pc=1 then ⟨s.aA,s.Cells,if cellAt s.Cells j.Op.Cell=0 then b9 {j with H:=0} 4 8 else b9 {j with H:=cellAt s.Cells j.Op.Cell} 2 0,[DZ w j (cellAt s.Cells j.Op.Cell)]⟩
 else if j.Pc=2 then ⟨s.aA,s.Cells,b9 {j with dV:=XY s.aA.Mem.aE j.H} 3 0,[]⟩
 else if j.Pc=3 then ⟨s.aA,s.Cells,jI s.aA.aB w j 4,[]⟩
 else if j.Pc=4 then ⟨{s.aA with aB:=(rY s.aA.aB w).1},s.Cells,b9 j 9 j.Code,[]⟩
 else ⟨s.aA,s.Cells,b9 j 9 1,[]⟩
def LX:JR:=
 if j.Pc=0 then if cellAt s.Cells j.Op.Cell=0 then ⟨s.aA,s.Cells,b9 {j with H:=0} 4 8,[DZ w j 0]⟩ else ⟨s.aA,s.Cells,b9 {j with H:=cellAt s.Cells j.Op.Cell} 1 0,[]⟩
 else if j.Pc=1 then ⟨{s.aA with iS:=DS s.aA.iS w j.H},s.Cells,b9 j 2 0,[]⟩
 else if j.Pc=2 then if cellAt s.Cells j.Op.Cell=j.H then ⟨s.aA,s.Cells,b9 j 3 0,[DZ w j j.H]⟩ else ⟨s.aA,s.Cells,b9 j 0 0,[]⟩
 else if j.Pc=3 then ⟨s.aA,s.Cells,b9 {j with dV:=XY s.aA.Mem.aE j.H} 4 0,[]⟩
 else if j.Pc=4 then ⟨{s.aA with iS:=RT s.aA.iS w},s.Cells,b9 j 9 j.Code,[]⟩
 else ⟨s.aA,s.Cells,b9 j 9 1,[]⟩
def GG:JR:=
 if j.Pc=0 then
  if (bQ s.aA.aB w).On=false then ⟨s.aA,s.Cells,b9 j 9 5,[]⟩
  else if (bQ s.aA.aB w).dC=true then ⟨s.aA,s.Cells,b9 j 9 6,[]⟩
  else ⟨s.aA,s.Cells,if cellAt s.Cells j.Op.Cell=0 then b9 {j with H:=0} 9 8 else b9 {j with H:=cellAt s.Cells j.Op.Cell} 1 0,[DZ w j (cellAt s.Cells j.Op.Cell)]⟩
 else if j.Pc=1 then ⟨s.aA,s.Cells,b9 {j with dV:=XY s.aA.Mem.aE j.H} 2 0,[]⟩
 else if j.Pc=2 then ⟨s.aA,s.Cells,jI s.aA.aB w j 9,[]⟩
 else ⟨s.aA,s.Cells,b9 j 9 1,[]⟩
def o8:JR:=
 if j.Op.Kind=6 then
  if j.Pc=0 then ⟨{s.aA with aB:=(rY s.aA.aB w).1},s.Cells,b9 j 9 (if (rY s.aA.aB w).2 then 0 else 5),[]⟩
  else ⟨s.aA,s.Cells,b9 j 9 1,[]⟩
 else if j.Pc=0\/j.Pc=1/\j.Op.Kind≠5 then
  ⟨(eF s.aA w j.Sub).1, s.Cells, if (eF s.aA w j.Sub).2.cO then
   if j.Op.Kind=5 then b9 {j with Sub:=(eF s.aA w j.Sub).2} 9 (eF s.aA w j.Sub).2.Code
   else if j.Pc=0 then b9 {j with Sub:=tA 4 0} 1 0
   else b9 {j with Sub:=(eF s.aA w j.Sub).2,dV:=(eF s.aA w j.Sub).2.Out} 9 (eF s.aA w j.Sub).2.Code
   else {j with Sub:=(eF s.aA w j.Sub).2},[]⟩
 else ⟨s.aA,s.Cells,b9 j 9 1,[]⟩
def zL:JR:=if j.Op.Kind=1 then OO s w j else if j.Op.Kind=2 then NC s w j else if j.Op.Kind=3 then LX s w j else if j.Op.Kind=7 then GG s w j else o8 s w j
end
def jV(s:aD)(w:Int)(r:JR):aD:=⟨r.b,r.c,s.aU.set w.toNat r.j,s.bK,s.Log++r.l,s.aI⟩
def eA(t:List Queue)(w:Int):List dB:=(t.getD w.toNat ⟨[]⟩).iC
def aJ(s:aD)(w:Int):bA:=s.aU.getD w.toNat kY
def j4(c:aB)(w:Int)(o:dB)(ser:Int):bA:=
 if o.Kind=1 then ⟨true,o,ser,0,tA 1 o.gX,0,0,0,0⟩
 else if o.Kind=2\/o.Kind=5 then if (bQ c w).On then ⟨true,o,ser,9,tA 5 0,0,0,0,1⟩ else ⟨true,o,ser,0,tA 5 0,0,0,0,0⟩
 else if o.Kind=4 then ⟨true,o,ser,0,tA 3 0,0,0,0,0⟩
 else ⟨true,o,ser,0,⟨0,0,0,0,0,0,0,0,0,false⟩,0,0,0,0⟩
def G0(s:aD)(w:Int):aD:=match eA s.bK w with
 | []=>s
 | o :: r => if s.aI = 1000000 then s else
  ⟨s.aA,s.Cells,s.aU.set w.toNat (j4 s.aA.aB w o (s.aI+1)),s.bK.set w.toNat ⟨r⟩,s.Log ++ [⟨1,w,s.aI+1,o.Cell,0,0,0⟩],s.aI+1⟩
def ND(w:Int)(j:bA):Ev:=⟨4,w,j.aI,j.Op.Cell,j.H,j.dV,j.Code⟩
def fJ(s:aD)(w:Int):aD:=
 if (aJ s w).cN=false then G0 s w
 else if (aJ s w).Pc=9 then ⟨s.aA,s.Cells,s.aU.set w.toNat kY,s.bK,s.Log ++ [ND w (aJ s w)],s.aI⟩
 else jV s w (zL s w (aJ s w))
noncomputable section
variable {s:aD} (hs:mW s) (hl:s.Log.length<=1000000000) {w:Int} (hw:0<=w/\w<=2) {j:bA} (hjo:lH j.Op/\cW j.H/\cW j.Old)
include hs
theorem BE(hw:0<=w/\w<=2):idx s.aU w=some (aJ s w):=by
 have:=hs.2.2.1
 rw [fH hw.1 (by omega)]
 simp [aJ,List.getD_eq_getElem?_getD,List.getElem?_eq_getElem (show w.toNat < s.aU.length by omega)]
theorem EL{k:Int}(hk:0<=k/\k<=1):idx s.Cells k=some (cellAt s.Cells k):=by
 have:=hs.2.1
 rw [fH hk.1 (by omega)]
 simp [cellAt,List.getD_eq_getElem?_getD,List.getElem?_eq_getElem (show k.toNat < s.Cells.length by omega)]
include hw
theorem aKG(x:aD)(hx:x.aU=s.aU)(j:bA):cQ w x j=some {x with aU:=x.aU.set w.toNat j}:=by
 unfold cQ
 rw [hx,BE hs hw,aK]
include hl hjo
theorem aWT(hk:j.Op.Kind=1):((F8 s w j).bind fun q=>cQ w q.1 q.2)=some (jV s w (OO s w j)):=by
 have hn:∀(e:Ev) {α:Type} (k:Option α),need (s.Log.length + [e].length<=1073741824) k=k:=fun e _ k=>aQ (by simp;omega) k
 have hcell:=EL hs hjo.1.2.2.1
 have hval:0<=j.Op.dV/\j.Op.dV<=65535:=by have:=hjo.1.2.2.2;rw [if_pos hk] at this;exact this.2
 have hj:=fun x hx j=>aKG hs hw x hx j
 unfold F8 OO
 simp only [aIP hs.1 hw,aPO hs.1.1.1 hval,hcell,aK,bD,g8,hn]
 by_cases p0:j.Pc=0
 ·have p0':(j.Pc == 0)=true:=by simpa using p0
  simp only [p0',if_true,if_pos p0]
  cases hd:(eF s.aA w j.Sub).2.cO with
  | false=>simp only [iA,if_true,aN,if_false,aK];refine(hj _ ?_ _).trans ?_;rfl;simp [jV]
  | true =>
   simp only [dK,aN,if_false,if_true]
   by_cases c0:(eF s.aA w j.Sub).2.Code=0
   ·have c0':((eF s.aA w j.Sub).2.Code != 0)=false:=by simpa using c0
    simp only [c0',aN,if_false,if_neg (show ¬(eF s.aA w j.Sub).2.Code≠0 from fun h=>h c0),eJ,aK]
    by_cases o0:jH (eF s.aA w j.Sub).2.Out
    ·simp only [aZ o0,dK,aN,if_false,if_pos o0,aK];refine(hj _ ?_ _).trans ?_;rfl;simp [jV,b9]
    ·simp only [bI o0,iA,if_true,if_neg o0,aK];refine(hj _ ?_ _).trans ?_;rfl;simp [jV,b9]
   ·have c0':((eF s.aA w j.Sub).2.Code != 0)=true:=by simpa using c0
    simp only [c0',if_true,if_pos (show(eF s.aA w j.Sub).2.Code≠0 from c0),aK];refine(hj _ ?_ _).trans ?_;rfl;simp [jV,b9]
 have p0':(j.Pc == 0)=false:=by simpa using p0
 simp only [p0',aN,if_false,if_neg p0]
 by_cases p1:j.Pc=1
 ·have p1':(j.Pc == 1)=true:=by simpa using p1
  simp only [p1',if_true,if_pos p1]
  by_cases c0:(wB s.aA.Mem j.H j.Op.dV).2=0
  ·have c0':((wB s.aA.Mem j.H j.Op.dV).2 != 0)=false:=by simpa using c0
   simp only [c0',aN,if_false,if_pos c0,aK];refine(hj _ ?_ _).trans ?_;rfl;simp [jV,b9]
  ·have c0':((wB s.aA.Mem j.H j.Op.dV).2 != 0)=true:=by simpa using c0
   simp only [c0',if_true,if_neg c0,aK];refine(hj _ ?_ _).trans ?_;rfl;simp [jV,b9]
 have p1':(j.Pc == 1)=false:=by simpa using p1
 simp only [p1',aN,if_false,if_neg p1]
 by_cases p2:j.Pc=2
 ·have p2':(j.Pc == 2)=true:=by simpa using p2
  simp only [p2',if_true,if_pos p2]
  by_cases c0:cellAt s.Cells j.Op.Cell=0
  ·have c0':(cellAt s.Cells j.Op.Cell == 0)=true:=by simpa using c0
   simp only [c0',if_true,if_pos c0,aK];refine(hj _ ?_ _).trans ?_;rfl;simp [jV,b9,c0]
  ·have c0':(cellAt s.Cells j.Op.Cell == 0)=false:=by simpa using c0
   simp only [c0',aN,if_false,if_neg c0,aK];refine(hj _ ?_ _).trans ?_;rfl;simp [jV,b9,tA]
 have p2':(j.Pc == 2)=false:=by simpa using p2
 simp only [p2',aN,if_false,if_neg p2]
 by_cases p3:j.Pc=3
 ·have p3':(j.Pc == 3)=true:=by simpa using p3
  simp only [p3',if_true,if_pos p3]
  cases hd:(eF s.aA w j.Sub).2.cO with
  | false=>simp only [iA,if_true,aN,if_false,aK];refine(hj _ ?_ _).trans ?_;rfl;simp [jV]
  | true=>simp only [dK,aN,if_false,if_true,aK];refine(hj _ ?_ _).trans ?_;rfl;simp [jV,b9]
 have p3':(j.Pc == 3)=false:=by simpa using p3
 simp only [p3',aN,if_false,if_neg p3,aK];refine(hj _ ?_ _).trans ?_;rfl;simp [jV,b9]
theorem aWU:((F9 s w j).bind fun q=>cQ w q.1 q.2)=some (jV s w (NC s w j)):=by
 have hn:∀(e:Ev) {α:Type} (k:Option α),need (s.Log.length + [e].length<=1073741824) k=k:=fun e _ k=>aQ (by simp;omega) k
 have hcell:=EL hs hjo.1.2.2.1
 have hj:=fun x hx j=>aKG hs hw x hx j
 unfold F9 NC
 simp only [aIP hs.1 hw,hcell,aK,bD,jP,hn,aIQ hs.1.1.1,aGY hs.1.1.2.1 hw,tH,EK hs.1.1.2.1 hw]
 by_cases p0:j.Pc=0
 ·have p0':(j.Pc == 0)=true:=by simpa using p0
  simp only [p0',if_true,if_pos p0]
  cases hd:(eF s.aA w j.Sub).2.cO with
  | false=>simp only [iA,if_true,aN,if_false,aK];refine(hj _ ?_ _).trans ?_;rfl;simp [jV]
  | true=>simp only [dK,aN,if_false,if_true,aK];refine(hj _ ?_ _).trans ?_;rfl;simp [jV,b9]
 have p0':(j.Pc == 0)=false:=by simpa using p0
 simp only [p0',aN,if_false,if_neg p0]
 by_cases p1:j.Pc=1
 ·have p1':(j.Pc == 1)=true:=by simpa using p1
  simp only [p1',if_true,if_pos p1]
  by_cases c0:cellAt s.Cells j.Op.Cell=0
  ·have c0':(cellAt s.Cells j.Op.Cell == 0)=true:=by simpa using c0
   simp only [c0',if_true,if_pos c0,aK];refine(hj _ ?_ _).trans ?_;rfl;simp [jV,b9,DZ,c0]
  ·have c0':(cellAt s.Cells j.Op.Cell == 0)=false:=by simpa using c0
   simp only [c0',aN,if_false,if_neg c0,aK];refine(hj _ ?_ _).trans ?_;rfl;simp [jV,b9,DZ]
 have p1':(j.Pc == 1)=false:=by simpa using p1
 simp only [p1',aN,if_false,if_neg p1]
 by_cases p2:j.Pc=2
 ·have p2':(j.Pc == 2)=true:=by simpa using p2
  simp only [p2',if_true,if_pos p2,aK];refine(hj _ ?_ _).trans ?_;rfl;simp [jV,b9]
 have p2':(j.Pc == 2)=false:=by simpa using p2
 simp only [p2',aN,if_false,if_neg p2]
 by_cases p3:j.Pc=3
 ·have p3':(j.Pc == 3)=true:=by simpa using p3
  simp only [p3',if_true,if_pos p3,aK,mP,bD,jI]
  cases h1:(bQ s.aA.aB w).On <;> cases h2:(bQ s.aA.aB w).dC <;> simp only [iA,dK,aN,if_false,if_true,aK,and_false,and_true,false_and,true_and,reduceCtorEq] <;> (refine(hj _ ?_ _).trans ?_;rfl;simp [jV,b9])
 have p3':(j.Pc == 3)=false:=by simpa using p3
 simp only [p3',aN,if_false,if_neg p3]
 by_cases p4:j.Pc=4
 ·have p4':(j.Pc == 4)=true:=by simpa using p4
  simp only [p4',if_true,if_pos p4,aK];refine(hj _ ?_ _).trans ?_;rfl;simp [jV,b9]
 have p4':(j.Pc == 4)=false:=by simpa using p4
 simp only [p4',aN,if_false,if_neg p4,aK];refine(hj _ ?_ _).trans ?_;rfl;simp [jV,b9]
theorem aWV:((GA s w j).bind fun q=>cQ w q.1 q.2)=some (jV s w (LX s w j)):=by
 have hn:∀(e:Ev) {α:Type} (k:Option α),need (s.Log.length + [e].length<=1073741824) k=k:=fun e _ k=>aQ (by simp;omega) k
 have hcell:=EL hs hjo.1.2.2.1
 have hj:=fun x hx j=>aKG hs hw x hx j
 obtain⟨t1,e1⟩:=aKF hs.1.1.2.2.2 hw j.H
 obtain⟨t2,e2⟩:=aPP hs.1.1.2.2.2 hw
 unfold GA LX
 simp only [hcell,aK,bD,jP,hn,aIQ hs.1.1.1,e1,e2]
 by_cases p0:j.Pc=0
 ·have p0':(j.Pc == 0)=true:=by simpa using p0
  simp only [p0',if_true,if_pos p0]
  by_cases c0:cellAt s.Cells j.Op.Cell=0
  ·have c0':(cellAt s.Cells j.Op.Cell == 0)=true:=by simpa using c0
   simp only [c0',if_true,if_pos c0,aK];refine(hj _ ?_ _).trans ?_;rfl;simp [jV,b9,DZ,c0]
  ·have c0':(cellAt s.Cells j.Op.Cell == 0)=false:=by simpa using c0
   simp only [c0',aN,if_false,if_neg c0,aK];refine(hj _ ?_ _).trans ?_;rfl;simp [jV,b9]
 have p0':(j.Pc == 0)=false:=by simpa using p0
 simp only [p0',aN,if_false,if_neg p0]
 by_cases p1:j.Pc=1
 ·have p1':(j.Pc == 1)=true:=by simpa using p1
  simp only [p1',if_true,if_pos p1,aK];refine(hj _ ?_ _).trans ?_;rfl;simp [jV,b9]
 have p1':(j.Pc == 1)=false:=by simpa using p1
 simp only [p1',aN,if_false,if_neg p1]
 by_cases p2:j.Pc=2
 ·have p2':(j.Pc == 2)=true:=by simpa using p2
  simp only [p2',if_true,if_pos p2]
  by_cases c0:cellAt s.Cells j.Op.Cell=j.H
  ·have c0':(cellAt s.Cells j.Op.Cell != j.H)=false:=by simpa using c0
   simp only [c0',aN,if_false,if_pos c0,aK];refine(hj _ ?_ _).trans ?_;rfl;simp [jV,b9,DZ]
  ·have c0':(cellAt s.Cells j.Op.Cell != j.H)=true:=by simpa using c0
   simp only [c0',if_true,if_neg c0,aK];refine(hj _ ?_ _).trans ?_;rfl;simp [jV,b9]
 have p2':(j.Pc == 2)=false:=by simpa using p2
 simp only [p2',aN,if_false,if_neg p2]
 by_cases p3:j.Pc=3
 ·have p3':(j.Pc == 3)=true:=by simpa using p3
  simp only [p3',if_true,if_pos p3,aK];refine(hj _ ?_ _).trans ?_;rfl;simp [jV,b9]
 have p3':(j.Pc == 3)=false:=by simpa using p3
 simp only [p3',aN,if_false,if_neg p3]
 by_cases p4:j.Pc=4
 ·have p4':(j.Pc == 4)=true:=by simpa using p4
  simp only [p4',if_true,if_pos p4,aK];refine(hj _ ?_ _).trans ?_;rfl;simp [jV,b9]
 have p4':(j.Pc == 4)=false:=by simpa using p4
 simp only [p4',aN,if_false,if_neg p4,aK];refine(hj _ ?_ _).trans ?_;rfl;simp [jV,b9]
theorem aTW:((C8 s w j).bind fun q=>cQ w q.1 q.2)=some (jV s w (GG s w j)):=by
 have hn:∀(e:Ev) {α:Type} (k:Option α),need (s.Log.length + [e].length<=1073741824) k=k:=fun e _ k=>aQ (by simp;omega) k
 have hcell:=EL hs hjo.1.2.2.1
 have hj:=fun x hx j=>aKG hs hw x hx j
 unfold C8 GG
 simp only [hcell,aK,bD,jP,hn,aIQ hs.1.1.1,tH,EK hs.1.1.2.1 hw]
 by_cases p0:j.Pc=0
 ·have p0':(j.Pc == 0)=true:=by simpa using p0
  simp only [p0',if_true,if_pos p0]
  cases h1:(bQ s.aA.aB w).On with
  | false=>simp only [iA,if_true,aK];refine(hj _ ?_ _).trans ?_;rfl;simp [jV,b9]
  | true =>
   cases h2:(bQ s.aA.aB w).dC with
   | true=>simp only [dK,aN,if_false,if_true,aK,reduceCtorEq];refine(hj _ ?_ _).trans ?_;rfl;simp [jV,b9]
   | false =>
    simp only [dK,aN,if_false,reduceCtorEq]
    by_cases c0:cellAt s.Cells j.Op.Cell=0
    ·have c0':(cellAt s.Cells j.Op.Cell == 0)=true:=by simpa using c0
     simp only [c0',if_true,if_pos c0,aK];refine(hj _ ?_ _).trans ?_;rfl;simp [jV,b9,DZ,c0]
    ·have c0':(cellAt s.Cells j.Op.Cell == 0)=false:=by simpa using c0
     simp only [c0',aN,if_false,if_neg c0,aK];refine(hj _ ?_ _).trans ?_;rfl;simp [jV,b9,DZ]
 have p0':(j.Pc == 0)=false:=by simpa using p0
 simp only [p0',aN,if_false,if_neg p0]
 by_cases p1:j.Pc=1
 ·have p1':(j.Pc == 1)=true:=by simpa using p1
  simp only [p1',if_true,if_pos p1,aK];refine(hj _ ?_ _).trans ?_;rfl;simp [jV,b9]
 have p1':(j.Pc == 1)=false:=by simpa using p1
 simp only [p1',aN,if_false,if_neg p1]
 by_cases p2:j.Pc=2
 ·have p2':(j.Pc == 2)=true:=by simpa using p2
  simp only [p2',if_true,if_pos p2,aK,mP,bD,jI]
  cases h1:(bQ s.aA.aB w).On <;> cases h2:(bQ s.aA.aB w).dC <;> simp only [iA,dK,aN,if_false,if_true,aK,and_false,and_true,false_and,true_and,reduceCtorEq] <;> (refine(hj _ ?_ _).trans ?_;rfl;simp [jV,b9])
 have p2':(j.Pc == 2)=false:=by simpa using p2
 simp only [p2',aN,if_false,if_neg p2,aK];refine(hj _ ?_ _).trans ?_;rfl;simp [jV,b9]
theorem aPQ:((zC s w j).bind fun q=>cQ w q.1 q.2)=some (jV s w (o8 s w j)):=by
 have hj:=fun x hx j=>aKG hs hw x hx j
 unfold zC o8 xF
 simp only [aGY hs.1.1.2.1 hw,aK,bD]
 have step:j.Op.Kind≠6->(j.Pc=0\/j.Pc=1/\j.Op.Kind≠5)->((iF s w j false).bind fun q=>cQ w q.1 q.2)=some (jV s w ⟨(eF s.aA w j.Sub).1,s.Cells,if (eF s.aA w j.Sub).2.cO then if j.Op.Kind=5 then b9 {j with Sub:=(eF s.aA w j.Sub).2} 9 (eF s.aA w j.Sub).2.Code else if j.Pc=0 then b9 {j with Sub:=tA 4 0} 1 0 else b9 {j with Sub:=(eF s.aA w j.Sub).2,dV:=(eF s.aA w j.Sub).2.Out} 9 (eF s.aA w j.Sub).2.Code else {j with Sub:=(eF s.aA w j.Sub).2},[]⟩):=fun k6 kp=>by
  unfold iF
  simp only [aN,if_false,aIP hs.1 hw,aK,bD,g8]
  cases hd:(eF s.aA w j.Sub).2.cO with
  | false=>simp only [iA,if_true,aN,if_false,aK];refine(hj _ ?_ _).trans ?_;rfl;simp [jV]
  | true =>
   simp only [dK,aN,if_false,if_true]
   by_cases k5:j.Op.Kind=5
   ·have k5':(j.Op.Kind == 5)=true:=by simpa using k5
    simp only [k5',if_true,if_pos k5,aK];refine(hj _ ?_ _).trans ?_;rfl;simp [jV,b9]
   ·have k5':(j.Op.Kind == 5)=false:=by simpa using k5
    simp only [k5',aN,if_false,if_neg k5]
    by_cases p0:j.Pc=0
    ·have p0':(j.Pc == 0)=true:=by simpa using p0
     simp only [p0',if_true,if_pos p0,aK];refine(hj _ ?_ _).trans ?_;rfl;simp [jV,b9,tA]
    ·have p0':(j.Pc == 0)=false:=by simpa using p0
     simp only [p0',aN,if_false,if_neg p0,aK];refine(hj _ ?_ _).trans ?_;rfl;simp [jV,b9]
 have bad:((iF s w j true).bind fun q=>cQ w q.1 q.2)=some (jV s w ⟨s.aA,s.Cells,b9 j 9 1,[]⟩):=by
  unfold iF
  simp only [if_true,bD,aK];refine(hj _ ?_ _).trans ?_;rfl;simp [jV,b9]
 by_cases k6:j.Op.Kind=6
 ·have k6':(j.Op.Kind == 6)=true:=by simpa using k6
  simp only [k6',if_true,if_pos k6]
  by_cases p0:j.Pc=0
  ·have p0':(j.Pc == 0)=true:=by simpa using p0
   simp only [p0',if_true,if_pos p0]
   cases h1:(rY s.aA.aB w).2 with
   | true=>simp only [dK,aN,if_false,if_true,aK];refine(hj _ ?_ _).trans ?_;rfl;simp [jV,b9]
   | false=>simp only [iA,aN,if_false,if_true,aK];refine(hj _ ?_ _).trans ?_;rfl;simp [jV,b9]
  ·have p0':(j.Pc == 0)=false:=by simpa using p0
   simp only [p0',aN,if_false,if_neg p0]
   exact bad
 have k6':(j.Op.Kind == 6)=false:=by simpa using k6
 simp only [k6',aN,if_false,if_neg k6]
 by_cases p0:j.Pc=0
 ·have p0':(j.Pc != 0)=false:=by simpa using p0
  have hc:j.Pc=0\/j.Pc=1/\j.Op.Kind≠5:=.inl p0
  simp only [p0',aN,if_false,if_pos hc]
  exact step k6 hc
 have p0':(j.Pc != 0)=true:=by simpa using p0
 simp only [p0',if_true]
 by_cases p1:j.Pc=1
 ·have p1':(j.Pc != 1)=false:=by simpa using p1
  simp only [p1',aN,if_false]
  by_cases k5:j.Op.Kind=5
  ·have k5':(j.Op.Kind == 5)=true:=by simpa using k5
   simp only [k5',if_neg (show ¬(j.Pc=0\/j.Pc=1/\j.Op.Kind≠5) from fun h=>h.elim p0 fun h=>h.2 k5)]
   exact bad
  ·have k5':(j.Op.Kind == 5)=false:=by simpa using k5
   have hc:j.Pc=0\/j.Pc=1/\j.Op.Kind≠5:=.inr ⟨p1,k5⟩
   simp only [k5',if_pos hc]
   exact step k6 hc
 ·have p1':(j.Pc != 1)=true:=by simpa using p1
  simp only [p1',if_true,if_neg (show ¬(j.Pc=0\/j.Pc=1/\j.Op.Kind≠5) from fun h=>h.elim p0 fun h=>p1 h.1)]
  exact bad
omit hjo
theorem aPR:zA s w=some (G0 s w):=by
 have ht:=hs.2.2.2.1
 have hser:=hs.2.2.2.2.1
 have hn:∀(e:Ev) {α:Type} (k:Option α),need (s.Log.length + [e].length<=1073741824) k=k:=fun e _ k=>aQ (by simp;omega) k
 have hq:idx s.bK w=some ⟨eA s.bK w⟩:=by
  have:=ht.1
  rw [fH hw.1 (by omega)]
  simp [eA,List.getD_eq_getElem?_getD,List.getElem?_eq_getElem (show w.toNat < s.bK.length by omega)]
 have ew:bG (s.aI+1)=s.aI+1:=aO (by omega) (by omega)
 have h12:(eA s.bK w).length<=12:=by
  have h3:=ht.1
  rw [fH hw.1 (by omega)] at hq
  injection hq with hq
  have:=(ht.2 _ (List.getElem_mem (show w.toNat < s.bK.length by omega))).1
  rw [hq] at this;exact this
 unfold zA G0
 rw [hq,aK]
 simp only [xE,hq,aK]
 cases ho:eA s.bK w with
 | nil=>simp
 | cons o r =>
  rw [ho] at h12
  simp only [List.length_cons] at h12
  have l0:(((o :: r).length:Int) == 0)=false:=by simp;omega
  simp only [l0,aN,if_false]
  by_cases s0:s.aI=1000000
  ·have s0':(s.aI == 1000000)=true:=by simpa using s0
   simp only [s0',if_true,if_pos s0]
  have s0':(s.aI == 1000000)=false:=by simpa using s0
  have hx:idx (o :: r) 0=some o:=rfl
  have etk:((o :: r).take (o :: r).length).drop (1:Int).toNat=r:=by rw [List.take_length];rfl
  simp only [s0',aN,if_false,if_neg s0,hx,aK,g8,ew]
  rw [aQ (by simp only [List.length_cons];omega)]
  have fin:∀jb:bA,e9 s w ⟨o :: r⟩ o jb=some ⟨s.aA,s.Cells,s.aU.set w.toNat jb,s.bK.set w.toNat ⟨r⟩,s.Log ++ [⟨1,w,s.aI+1,o.Cell,0,0,0⟩],s.aI+1⟩:=fun jb=>by
   simp only [e9,BE hs hw,aK,hn,etk,ew]
  unfold j4
  by_cases k1:o.Kind=1
  ·have k1':(o.Kind == 1)=true:=by simpa using k1
   simp only [k1',if_true,if_pos k1,fin];rfl
  have k1':(o.Kind == 1)=false:=by simpa using k1
  simp only [k1',aN,if_false,if_neg k1]
  have pin:∀z,z=true->i9 s w ⟨o :: r⟩ o z=some ⟨s.aA,s.Cells,s.aU.set w.toNat (if (bQ s.aA.aB w).On then ⟨true,o,s.aI+1,9,tA 5 0,0,0,0,1⟩ else ⟨true,o,s.aI+1,0,tA 5 0,0,0,0,0⟩),s.bK.set w.toNat ⟨r⟩,s.Log ++ [⟨1,w,s.aI+1,o.Cell,0,0,0⟩],s.aI+1⟩:=fun z hz=>by
   subst hz
   simp only [i9,if_true,g8,EK hs.1.1.2.1 hw,aK,ew,fin]
   cases (bQ s.aA.aB w).On <;> rfl
  by_cases k2:o.Kind=2
  ·have k2':(o.Kind == 2)=true:=by simpa using k2
   simp only [k2',if_true,if_pos (show o.Kind=2\/o.Kind=5 from .inl k2)]
   exact pin true rfl
  have k2':(o.Kind == 2)=false:=by simpa using k2
  simp only [k2',aN,if_false]
  by_cases k5:o.Kind=5
  ·have k5':(o.Kind == 5)=true:=by simpa using k5
   simp only [k5',if_pos (show o.Kind=2\/o.Kind=5 from .inr k5)]
   exact pin true rfl
  have k5':(o.Kind == 5)=false:=by simpa using k5
  simp only [k5',i9,aN,if_false,if_neg (show ¬(o.Kind=2\/o.Kind=5) from fun h=>h.elim k2 k5),g8,aK,ew,fin]
  by_cases k4:o.Kind=4
  ·have k4':(o.Kind == 4)=true:=by simpa using k4
   simp only [k4',if_true,if_pos k4];rfl
  ·have k4':(o.Kind == 4)=false:=by simpa using k4
   simp only [k4',aN,if_false,if_neg k4]
theorem aTX:N6 s w=some (fJ s w):=by
 have hn:∀(e:Ev) {α:Type} (k:Option α),need (s.Log.length + [e].length<=1073741824) k=k:=fun e _ k=>aQ (by simp;omega) k
 have hjk:JOk (aJ s w):=by
  have h:=BE hs hw
  have h3:=hs.2.2.1
  rw [fH hw.1 (by omega)] at h
  injection h with h
  rw [<-h];exact hs.2.2.2.2.2.2 _ (List.getElem_mem _)
 unfold N6 fJ
 rw [BE hs hw,aK]
 cases hb:(aJ s w).cN with
 | false=>simp only [iA,if_true,aPR hs hl hw,aK]
 | true =>
  have hjo:=(v9 hb).1 hjk
  simp only [dK,aN,if_false,reduceCtorEq]
  by_cases p9:(aJ s w).Pc=9
  ·have p9':((aJ s w).Pc == 9)=true:=by simpa using p9
   simp only [p9',if_true,if_pos p9,hn];rfl
  have p9':((aJ s w).Pc == 9)=false:=by simpa using p9
  simp only [p9',aN,if_false,if_neg p9]
  unfold zL
  by_cases k1:(aJ s w).Op.Kind=1
  ·have k1':((aJ s w).Op.Kind == 1)=true:=by simpa using k1
   simp only [k1',if_true,if_pos k1];exact aWT hs hl hw hjo k1
  have k1':((aJ s w).Op.Kind == 1)=false:=by simpa using k1
  simp only [k1',aN,if_false,if_neg k1]
  by_cases k2:(aJ s w).Op.Kind=2
  ·have k2':((aJ s w).Op.Kind == 2)=true:=by simpa using k2
   simp only [k2',if_true,if_pos k2];exact aWU hs hl hw hjo
  have k2':((aJ s w).Op.Kind == 2)=false:=by simpa using k2
  simp only [k2',aN,if_false,if_neg k2]
  by_cases k3:(aJ s w).Op.Kind=3
  ·have k3':((aJ s w).Op.Kind == 3)=true:=by simpa using k3
   simp only [k3',if_true,if_pos k3];exact aWV hs hl hw hjo
  have k3':((aJ s w).Op.Kind == 3)=false:=by simpa using k3
  simp only [k3',aN,if_false,if_neg k3]
  by_cases k7:(aJ s w).Op.Kind=7
  ·have k7':((aJ s w).Op.Kind == 7)=true:=by simpa using k7
   simp only [k7',if_true,if_pos k7];exact aTW hs hl hw hjo
  have k7':((aJ s w).Op.Kind == 7)=false:=by simpa using k7
  simp only [k7',aN,if_false,if_neg k7];exact aPQ hs hl hw hjo
theorem WD:nG s w=some (fJ s w)/\mW (fJ s w)/\(fJ s w).Log.length<=s.Log.length+1:=by
 obtain⟨x,e1,e2,h1,h2⟩:=aIO hs hl hw
 rw [aTX hs hl hw] at e1
 injection e1 with e1
 rw [e1];exact⟨e2,h1,h2⟩
end
end Go.Gv
end
noncomputable section
namespace Go.Gv
def rZ(b:aA)(s:Int):Int:=if dW b.Mem s=3 then (if BI b.aL s then 3 else 4) else dW b.Mem s
theorem aDW(m:Mem)(s:Int):0<=dW m s/\dW m s<=3:=by unfold dW;split <;> (try split) <;> (try split) <;> omega
theorem aDX(b:aA)(s:Int):0<=rZ b s/\rZ b s<=4:=by
 have:=aDW b.Mem s
 unfold rZ;split <;> (try split) <;> omega
def mX(b:aA):Nat->List Int
 | 0=>List.replicate 5 0
 | k+1=>(mX b k).set (rZ b k).toNat ((mX b k).getD (rZ b k).toNat 0+1)
theorem UJ(b:aA)(k:Nat):(mX b k).length=5:=by induction k with | zero=>rfl | succ k ih=>simp [mX,ih]
theorem aMG(b:aA)(k:Nat):∀j,0<=(mX b k).getD j 0/\(mX b k).getD j 0<=k:=by
 induction k with
 | zero=>intro j;simp only [mX,List.getD_eq_getElem?_getD,List.getElem?_replicate];split <;> simp
 | succ k ih =>
  intro j
  have h1:=ih j
  have h2:=ih (rZ b k).toNat
  simp only [mX,List.getD_eq_getElem?_getD,List.getElem?_set] at h1 h2 ⊢
  split
  ·split
   ·simp only [Option.getD_some];omega
   ·simp;omega
  ·omega
noncomputable section
variable {b:aA} (hb:lY b)
include hb
theorem aKH(s:Int):FF b s=some (rZ b s):=by
 have hm:=hb.1.1
 obtain⟨h1,h2,h3,_⟩:=mI.facts hm
 unfold FF rZ
 rw [PK hm.1.1.1 (by omega) (by simp only [maxLen];omega) (by simp only [maxLen];omega),aK,AM hb.1.2.2.1]
 by_cases q:dW b.Mem s=3
 ·by_cases r:BI b.aL s <;> simp [q,r,qN]
 ·simp [q,qN]
theorem aPS(k:Nat):idx (mX b k) (rZ b k)=some ((mX b k).getD (rZ b k).toNat 0):=by
 have:=aDX b k
 have hl:=UJ b k
 rw [fH this.1 (by omega)]
 simp [List.getD_eq_getElem?_getD,List.getElem?_eq_getElem (show(rZ b k).toNat < (mX b k).length by omega)]
theorem lY.fits:b.Mem.aE.Bytes.length<=maxLen/\(c9 b.Mem.aC).length<=1073741824/\b.aB.cG.length<=maxLen/\b.aL.length<=maxLen/\(bC b.aL).length<=1073741824/\b.iS.length<=maxLen:=by
 obtain⟨h1,h2,h3,h4,_⟩:=mI.facts hb.1.1
 have a:=hb.1.2.1.2.1;have c:=hb.1.2.2.1.1;have d:=hb.1.2.2.1.2.1;have e:=hb.1.2.2.2.1
 simp only [maxLen];omega
theorem aDY:JA b=some (mX b 24):=by
 unfold JA
 rw [aQ (by omega),RM (lY.fits hb),aZ hb,aK]
 have:=jG (f:=yZ b true) 24 (fun k=>(mX b k,(k:Int))) (mX b 24) (fun k hk=>by
  have hr:=aMG b k (rZ b k).toNat
  simp only [yZ,yY]
  rw [if_pos (by simp;omega),if_pos trivial,aKH hb,aK,aPS hb,aK,aO (x:=(k:Int)+1) (by omega) (by omega),aO (by omega) (by omega)];rfl) (by simp [yZ,yY])
 rw [show(List.replicate ((5:Int).toNat) (0:Int))=mX b 0 from rfl]
 have this':loop (yZ b true) (mX b 0,0)=_:=this
 rw [this'];rfl
end
end Go.Gv
end
noncomputable section
namespace Go.Gv
def zN{α:Type}(o:Option α)(Q:α->Prop):Prop:=∃x,o=some x/\Q x
abbrev aX2{σ ρ:Type}(I:σ->Prop)(Q:ρ->Prop):Step σ ρ->Prop
 | .next s=>I s
 | .stop r=>Q r
namespace zN
variable {α β σ ρ:Type} {Q:α->Prop}
theorem ret{x:α}(h:Q x):zN (some x) Q:=⟨x,rfl,h⟩
theorem bind{P:β->Prop}{o:Option β}{f:β->Option α}(h:zN o P)(hf:∀x,P x->zN (f x) Q):zN (o.bind f) Q:=by
 obtain⟨x,e,hx⟩:=h
 rw [e];exact hf x hx
theorem need{p:Prop}[Decidable p]{k:Option α}(h:p)(hk:zN k Q):zN (Gv.need p k) Q:=by rw [aQ h];exact hk
theorem ite{c:Prop}[Decidable c]{a b:Option α}(h1:c->zN a Q)(h2:¬c->zN b Q):zN (if c then a else b) Q:=by
 by_cases h:c
 ·rw [if_pos h];exact h1 h
 ·rw [if_neg h];exact h2 h
theorem mono{P:α->Prop}{o:Option α}(h:zN o P)(hf:∀x,P x->Q x):zN o Q:=by obtain⟨x,e,hx⟩:=h;exact⟨x,e,hf x hx⟩
theorem idx{l:List β}{i:Int}(h:0<=i/\i < l.length):zN (Gv.idx l i) (fun x=>x∈l):=⟨_,fH h.1 h.2,List.getElem_mem _⟩
theorem loop{Q:ρ->Prop}{f:σ->Option (Step σ ρ)}{s:σ}(μ:σ->Nat)(Inv:σ->Prop)(h0:Inv s)(hb:∀s,Inv s->zN (f s) (aX2 (fun s'=>Inv s'/\μ s' < μ s) (fun r=>Q r))):zN (Gv.loop f s) Q:=by
 have key:∀n s,μ s < n->Inv s->zN (Gv.loop f s) Q:=by
  intro n
  induction n with
  | zero=>intro s h;omega
  | succ n ih =>
   intro s h hs
   obtain⟨q,e,hq⟩:=hb s hs
   cases q with
   | next s'=>rw [bW e];exact ih s' (by have:=hq.2;omega) hq.1
   | stop r=>rw [bS e];exact⟨r,rfl,hq⟩
 exact key _ s (Nat.lt_succ_self _) h0
theorem of{o:Option α}{x:α}(h:o=some x):zN o (fun y=>y=x):=⟨x,h,rfl⟩
end zN
def Cu(b:List UInt8)(i:Int):Prop:=(0<=i/\i<=b.length)/\b.length<=1048576
theorem aTY(x:Int):0<=gY .and .i64 x 255/\gY .and .i64 x 255<=255:=by
 have e:gY .and .i64 x 255=IntKind.i64.wrap ((BitVec.ofInt 64 x &&& BitVec.ofInt 64 255).toNat:Int):=rfl
 have h:(BitVec.ofInt 64 x &&& BitVec.ofInt 64 255).toNat<=255:=by
  rw [BitVec.toNat_and];exact Nat.le_trans Nat.and_le_right (by decide)
 rw [e,wrap_i64 (by omega) (by omega)];omega
noncomputable section
variable {b:List UInt8} {i h:Int} (hc:Cu b i)
include hc
theorem aKI:zN (qZ ⟨b,i,h⟩) (fun x=>(0<=x.1/\x.1<=255)/\Cu b x.2.1):=by
 unfold qZ CR
 obtain⟨⟨a1,a2⟩,a3⟩:=hc
 refine .ite (fun q=>?_) (fun q=>?_)
 ·have q':=of_decide_eq_true q
  simp only at q'
  refine .bind (.idx ⟨a1,q'⟩) fun x _=>.ret ⟨aTY _,?_⟩
  show Cu b (bG (i+1))
  rw [aO (by omega) (by omega)]
  exact⟨by omega,a3⟩
 ·exact .ret ⟨aTY _,⟨a1,a2⟩,a3⟩
theorem below{n:Int}(hn:n<=1000000):zN (gC ⟨b,i,h⟩ n) (fun x=>(0<=x.1/\(x.1 < n\/n<=0/\x.1=0))/\Cu b x.2.1):=by
 unfold gC
 refine .ite (fun q=>?_) (fun q=>?_)
 ·have q':=of_decide_eq_true q
  exact .ret ⟨by simp;omega,hc⟩
 ·have q0:0 < n:=by simpa using q
  refine .ite (fun q=>?_) (fun q=>?_)
  ·refine .bind (aKI hc) fun x ⟨hx,h1⟩=>.need (by omega) (.ret ⟨?_,h1⟩)
   simp only [v5 hx.1]
   exact⟨Int.emod_nonneg _ (by omega),.inl (Int.emod_lt_of_pos _ q0)⟩
  ·refine .bind (aKI hc) fun x ⟨hx,h1⟩=>.bind (aKI h1) fun y ⟨hy,h2⟩=>.bind (aKI h2) fun z ⟨hz,h3⟩=>.bind (aKI h3) fun w ⟨hw,h4⟩=>.need (by omega) (.ret ⟨?_,h4⟩)
   have e:bG (bG (bG (bG (x.1 * 16777216)+bG (y.1 * 65536))+bG (z.1 * 256))+w.1)=x.1 * 16777216+y.1 * 65536+z.1 * 256+w.1:=by
    rw [aO (x:=x.1 * 16777216) (by omega) (by omega),aO (x:=y.1 * 65536) (by omega) (by omega),aO (x:=z.1 * 256) (by omega) (by omega),aO (x:=x.1 * 16777216+y.1 * 65536) (by omega) (by omega),aO (x:=x.1 * 16777216+y.1 * 65536+z.1 * 256) (by omega) (by omega),aO (by omega) (by omega)]
   simp only [e]
   rw [v5 (by omega)]
   exact⟨Int.emod_nonneg _ (by omega),.inl (Int.emod_lt_of_pos _ q0)⟩
theorem a1S{n:Int}(hn:n<=1000000):zN (QL ⟨b,i,h⟩ n) (fun x=>Cu b x.2.1):=
 .bind (below hc hn) fun _ ⟨_,h1⟩=>.ret h1
theorem aOB{l:List Int}(hl:0 < l.length)(hl2:l.length<=1000):zN (qK ⟨b,i,h⟩ l) (fun x=>x.1∈l/\Cu b x.2.1):=
 .bind (below hc (by omega)) fun x ⟨hx,h1⟩=>.bind (.idx (by omega)) fun y hy=>.ret ⟨hy,h1⟩
end
theorem a26{code:List UInt8}(hl:code.length<=1048576):zN (N2 code) (fun x=>Cu code x.1):=by
 unfold N2
 refine .bind (P:=fun _=>True) (.loop (fun s=>code.length - s.2.toNat) (fun s=>0<=s.2/\s.2<=code.length) ⟨by simp,by simp⟩ ?_) fun x _=>.ret ⟨⟨by simp,by simp⟩,hl⟩
 rintro⟨a,k⟩ ⟨h1,h2⟩
 simp only [S7,E9]
 simp only at h1 h2
 have nx:k < code.length->zN ((idx code k).bind fun x7=>some (Step.next (gY .and .i64 (bG ((bG ((bG (a * 131))+(x7.toNat:Int)))+7)) 1073741823,bG (k+1)))) (aX2 (ρ:=Int) (fun s'=>(0<=s'.2/\s'.2<=code.length)/\code.length - s'.2.toNat < code.length - k.toNat) (fun r=>True)):=fun hk=>by
  refine .bind (.idx ⟨h1,hk⟩) fun x _=>.ret ?_
  rw [aO (x:=k+1) (by omega) (by omega)]
  refine⟨⟨?_,?_⟩,?_⟩ <;> (try simp only) <;> omega
 refine .ite (fun q=>?_) (fun q=>?_)
 ·have q':=of_decide_eq_true q
  exact .ite (fun _=>nx q') (fun _=>.ret trivial)
 ·rw [if_neg (by simp)];exact .ret trivial
end Go.Gv
end
noncomputable section
namespace Go.Gv
noncomputable section
variable {b:List UInt8} {i h:Int} (hc:Cu b i)
include hc
theorem opD:zN (N3 ⟨b,i,h⟩) (fun x=>lH x.1/\Cu b x.2.1):=by
 unfold N3
 refine .bind (aOB hc (by decide) (by decide)) fun x1 ⟨hk,h1⟩=>?_
 have hk7:1<=x1.1/\x1.1<=7:=by simp at hk;omega
 rw [aGX,aK]
 have key:∀(i' h' cell:Int),Cu b i'->(DN x1.1\/cell=0)->(0<=cell/\cell<=1)->zN (yX ⟨b,i,h⟩ x1 i' h' cell) (fun x=>lH x.1/\Cu b x.2.1):=by
  intro i' h' cell hc' h2 h3
  unfold yX FB FA
  refine .ite (fun q=>?_) (fun q=>?_)
  ·have q1:x1.1=1:=by simpa using q
   have fin:∀(i h size:Int),Cu b i->(0<=size/\size<=100)->zN ((gC ⟨b,i,h⟩ 60000).bind fun x13=>some ((⟨x1.1,cell,size,x13.1⟩:dB),(x13.2.1,x13.2.2))) (fun x=>lH x.1/\Cu b x.2.1):=fun i h size hi hs=>
    .bind (below hi (by omega)) fun v ⟨hv,h4⟩=>.ret ⟨⟨hk7,h2,h3,by rw [if_pos q1];exact⟨hs,by (try simp only);omega⟩⟩,h4⟩
   refine .bind (below hc' (by omega)) fun s ⟨hs,h4⟩=>.bind (a1S h4 (by omega)) fun o h5=>.ite (fun _=>.bind (aOB h5 (by decide) (by decide)) fun p ⟨hp,h6⟩=>fin _ _ _ h6 (by simp at hp;omega)) (fun _=>fin _ _ _ h5 (by rw [aO (by omega) (by omega)];omega))
  ·have q1:¬x1.1=1:=by simpa using q
   exact .ret ⟨⟨hk7,h2,h3,by rw [if_neg q1];exact⟨rfl,rfl⟩⟩,hc'⟩
 refine .ite (fun q=>?_) (fun q=>?_)
 ·refine .bind (aOB h1 (by decide) (by decide)) fun x ⟨hx,h2⟩=>key _ _ _ h2 (.inl (of_decide_eq_true q)) (by simp at hx;omega)
 ·exact key _ _ _ h1 (.inr rfl) (by omega)
theorem aOC{m:Int}(hm:0<=m/\m<=12):zN (vR ⟨b,i,h⟩ m) (fun x=>(x.1.length=3/\∀q∈x.1,q.iC.length<=m/\∀o∈q.iC,lH o)/\Cu b x.2.1):=by
 unfold vR
 refine .bind (P:=fun x=>(x.1.length=3/\∀q∈x.1,q.iC.length<=m/\∀o∈q.iC,lH o)/\Cu b x.2.1) (.loop (fun s=>3 - s.2.1.toNat) (fun s=>((s.1.length:Int)=s.2.1/\s.2.1<=3/\∀q∈s.1,q.iC.length<=m/\∀o∈q.iC,lH o)/\Cu b s.2.2.1) ⟨⟨rfl,by simp,by simp⟩,hc⟩ ?_) fun x hx=>.ret hx
 rintro⟨l,k,i',h'⟩ ⟨⟨e,k3,hq⟩,hi⟩
 simp only at e k3 hq hi
 simp only [KL]
 refine .ite (fun q=>?_) (fun q=>?_)
 ·have q':=of_decide_eq_true q
  rw [aO (x:=m+1) (by omega) (by omega)]
  refine .bind (below hi (by omega)) fun n ⟨hn,h1⟩=>?_
  refine .bind (P:=fun x=>((x.2.2.length:Int)<=m/\∀o∈x.2.2,lH o)/\Cu b x.1) (.loop (fun s=>s.1.toNat) (fun s=>(0<=s.1/\s.1+s.2.2.2.length<=m/\∀o∈s.2.2.2,lH o)/\Cu b s.2.1) ⟨⟨hn.1,by simp;omega,by simp⟩,h1⟩ ?_) ?_
  ·rintro⟨n,i1,h1,ops⟩ ⟨⟨n0,n1,ho⟩,hi1⟩
   simp only at n0 n1 ho hi1
   simp only [KJ,C2]
   refine .ite (fun q=>?_) (fun q=>?_)
   ·have q1:=of_decide_eq_true q
    refine .bind (opD hi1) fun o ⟨h2,h3⟩=>.need (by simp;omega) (.ret ?_)
    rw [aO (by omega) (by omega)]
    refine⟨⟨⟨by (try simp only);omega,by simp;omega,?_⟩,h3⟩,by (try simp only);omega⟩
    intro x hx
    rcases List.mem_append.1 hx with hx | hx
    ·exact ho x hx
    ·rw [List.mem_singleton.1 hx];exact h2
   ·have q1:¬0 < n:=by simpa using q
    exact .ret ⟨⟨by (try simp only);omega,ho⟩,hi1⟩
  ·rintro⟨i1,h1,ops⟩ ⟨⟨o1,o2⟩,hi1⟩
   simp only [KK,KI]
   refine .need (by simp;omega) (.ret ?_)
   rw [aO (by omega) (by omega)]
   refine⟨⟨⟨by simp;omega,by (try simp only);omega,?_⟩,hi1⟩,by (try simp only);omega⟩
   intro x hx
   rcases List.mem_append.1 hx with hx | hx
   ·exact hq x hx
   ·rw [List.mem_singleton.1 hx];exact⟨o1,o2⟩
 ·have q':¬k < 3:=by simpa using q
  exact .ret ⟨⟨by (try simp only);omega,hq⟩,hi⟩
def WE(l:List Queue):Prop:=l.length<=3/\∀q∈l,q.iC.length<=1000
omit hc in
theorem aGZ{l:List Queue}(hl:WE l)(k:Nat){q:Queue}(hq:q.iC.length<=1000):WE (l.set k q):=⟨by simpa using hl.1,fun x hx=>(List.mem_or_eq_of_mem_set hx).elim (hl.2 x) (fun e=>e ▸ hq)⟩
theorem aZP{m:Int}(hm:m<=1000):zN (FC ⟨b,i,h⟩ m) (fun x=>x.1.length<=4000/\Cu b x.2.1):=by
 unfold FC
 refine .bind (below hc (by omega)) fun x1 ⟨hx1,h1⟩=>?_
 refine .bind (P:=fun x=>x.1.length<=4000/\Cu b x.2.1) (.loop (fun s=>s.2.1.toNat) (fun s=>(0<=s.2.1/\s.1.length+4 * s.2.1<=4000)/\Cu b s.2.2.1) ⟨⟨hx1.1,by simp;omega⟩,h1⟩ ?_) fun x hx=>.ret hx
 rintro⟨l,n,i1,h1⟩ ⟨⟨n0,n1⟩,hi1⟩
 simp only at n0 n1 hi1
 simp only [MS]
 refine .ite (fun q=>?_) (fun q=>?_)
 ·have q':=of_decide_eq_true q
  refine .bind (below hi1 (by omega)) fun x13 ⟨_,h13⟩=>.bind (below h13 (by omega)) fun x14 ⟨hx14,h14⟩=>?_
  rw [aO (by omega) (by omega)]
  refine .bind (P:=fun x=>(x.length:Int)<=l.length+4) (.loop (fun s=>s.2.toNat) (fun s=>0<=s.2/\(s.1.length:Int)+s.2<=l.length+4) ⟨by (try simp only);omega,by (try simp only);omega⟩ ?_) ?_
  ·rintro⟨r,k⟩ ⟨k0,k1⟩
   simp only at k0 k1
   simp only [MQ]
   refine .ite (fun q=>?_) (fun q=>?_)
   ·have q2:=of_decide_eq_true q
    refine .need (by simp;omega) (.ret ?_)
    rw [aO (by omega) (by omega)]
    have e:(r ++ [x13.1]).length=r.length+1:=by simp
    exact⟨⟨by (try simp only);omega,by (try simp only);omega⟩,by (try simp only);omega⟩
   ·exact .ret (by (try simp only);omega)
  ·intro r hr
   simp only [MR,MP]
   refine .ret ?_
   rw [aO (by omega) (by omega)]
   exact⟨⟨⟨by (try simp only);omega,by (try simp only);omega⟩,h14⟩,by (try simp only);omega⟩
 ·exact .ret ⟨by (try simp only);omega,hi1⟩
end
theorem a1T{x:GK}(hx:WE x.bK)(hp:x.uC.length<=5000)(P:aD->Prop)(h0:∀t,JS t->t=x.bK->P (fW t))(hs:∀s w,mW s->(0<=w/\w<=2)->P s->P (fJ s w))(ht:JS x.bK) :
  zN (C5 x) (fun s=>mW s/\P s/\s.Log.length<=400):=by
 unfold C5
 rw [(YM (t:=x.bK) (by have:=hx.1;omega) (fun q hq=>by have:=hx.2 q hq;omega)).2,aK,if_pos ht]
 have hj:(((fW x.bK).aU.length:Int) == 0)=false:=rfl
 rw [hj,if_neg (by simp)]
 refine .need (by split <;> omega) ?_
 have hN:((x.uC.take ((if 400 < (x.uC.length:Int) then (400:Int) else (x.uC.length:Int)).toNat)).drop 0).length<=400:=by
  rw [List.drop_zero,List.length_take];split <;> omega
 refine .bind (P:=fun s=>mW s/\P s/\s.Log.length<=400) (.loop (fun s=>1000 - s.1.toNat) (fun s=>(0<=s.1/\s.1<=400)/\mW s.2/\P s.2/\(s.2.Log.length:Int)<=s.1) ⟨⟨by simp,by simp⟩,aPN ht,h0 _ ht rfl,by simp [fW]⟩ ?_) fun s h=>.ret h
 rintro⟨k,s⟩ ⟨⟨k0,k1⟩,h1,h2,h3⟩
 simp only at k0 k1 h1 h2 h3
 simp only [KM,t9]
 refine .ite (fun q=>?_) (fun q=>.ret ⟨h1,h2,by (try simp only);omega⟩)
 have q':=of_decide_eq_true q
 refine .bind (.idx ⟨k0,q'⟩) fun w _=>?_
 rw [kX,aK]
 refine .ite (fun hw=>?_) (fun hw=>?_)
 ·have hw':=of_decide_eq_true hw
  obtain⟨e,o1,o2⟩:=WD h1 (by omega) hw'
  rw [e,aK]
  refine .ret ?_
  rw [aO (by omega) (by omega)]
  exact⟨⟨⟨by (try simp only);omega,by (try simp only);omega⟩,o1,hs s w h1 hw' h2,by (try simp only);omega⟩,by (try simp only);omega⟩
 ·refine .ret ?_
  rw [aO (by omega) (by omega)]
  exact⟨⟨⟨by (try simp only);omega,by (try simp only);omega⟩,h1,h2,by (try simp only);omega⟩,by (try simp only);omega⟩
theorem aTZ{x:GK}(hx:WE x.bK):N4 x=some (decide (JS x.bK)):=by
 unfold N4
 rw [(YM (t:=x.bK) (by have:=hx.1;omega) (fun q hq=>by have:=hx.2 q hq;omega)).1,aK]
 by_cases h:JS x.bK
 ·rw [if_pos h,aZ h];rfl
 ·rw [if_neg h,bI h];rfl
end Go.Gv
end
noncomputable section
namespace Go.Gv
theorem aG0(b:aA)(w:Int)(s:Sub):(eF b w s).2.Kind=s.Kind:=by
 unfold eF EJ xS AN d9 dP OM o7
 simp only [apply_ite Prod.snd,apply_ite Sub.Kind,ite_self]
theorem aDZ{b:aA}{w:Int}{s:Sub}(h:s.Kind=1\/s.Kind=2\/s.Kind=4):(eF b w s).1.aB=b.aB:=by
 unfold eF
 rcases h with k | k | k
 ·simp only [k,if_true]
  unfold EJ xS
  simp only [apply_ite Prod.fst,apply_ite aA.aB,ite_self]
 ·simp only [k]
  unfold AN
  simp [apply_ite Prod.fst,apply_ite aA.aB]
 ·simp only [k]
  unfold dP
  simp [apply_ite Prod.fst,apply_ite aA.aB]
theorem nV{c:aB}(hc:IC c){w v:Int}(hw:0<=w/\w<=2)(hv:0<=v/\v<=2)(e:Int)(x:oV):bQ ⟨e,c.cG.set w.toNat x⟩ v=if v=w then x else bQ c v:=by
 have h3:=hc.2.1
 unfold bQ
 simp only [List.getD_eq_getElem?_getD,List.getElem?_set]
 by_cases q:v=w
 ·subst q;simp [show v.toNat < c.cG.length by omega]
 ·rw [if_neg q,if_neg (by omega)]
def mF(j:bA):Prop:=j.cN=true/\(j.Op.Kind=2\/j.Op.Kind=5)/\j.Pc=0
def Adv(j:bA):Prop:=j.cN=true/\j.Op.Kind=4/\j.Pc=0
def JI(e:Int)(p:oV)(j:bA):Prop:=j.cN=true ->
 (j.Op.Kind=1->j.Sub.Kind=1\/j.Sub.Kind=2)/\(j.Op.Kind=4->j.Pc=1->j.Sub.Kind=4) /\
 (Adv j->j.Sub.Kind=3/\j.Sub.cO=false/\(j.Sub.Pc=0\/j.Sub.E<=e/\(j.Sub.Pc=1/\(0<=j.Sub.B/\j.Sub.B<=2)\/j.Sub.Pc=2/\j.Sub.B=3))) /\
 (mF j->j.Sub.Kind=5/\j.Sub.cO=false/\(j.Sub.Pc=0\/j.Sub.Pc=1/\(0<=j.Sub.E/\j.Sub.E<=e)\/j.Sub.Pc=2/\p.aG=j.Sub.E))
def Calm(j:bA):Prop:=¬mF j/\¬Adv j/\(j.Op.Kind=1->j.Sub.Kind=1\/j.Sub.Kind=2)/\(j.Op.Kind=4->j.Pc=1->j.Sub.Kind=4)
theorem Calm.ji{j:bA}(h:Calm j)(e:Int)(p:oV):JI e p j:=fun _=>⟨h.2.2.1,h.2.2.2,fun q=>absurd q h.2.1,fun q=>absurd q h.1⟩
theorem jT{j:bA}(h1:j.Op.Kind≠1)(h2:j.Op.Kind≠2/\j.Op.Kind≠5\/j.Pc≠0)(h4:j.Op.Kind≠4\/j.Pc≠0/\(j.Pc=1->j.Sub.Kind=4)):Calm j:=
 ⟨fun q=>by have:=q.2;omega,fun q=>by have:=q.2;omega,fun q=>absurd q h1,fun q p=>by rcases h4 with h | h;exact absurd q h;exact h.2 p⟩
theorem aKJ{j:bA}(h1:j.Op.Kind=1)(h2:j.Sub.Kind=1\/j.Sub.Kind=2):Calm j:=⟨fun q=>by have:=q.2.1;omega,fun q=>by have:=q.2.1;omega,fun _=>h2,fun q=>by omega⟩
def Ep(c:aB)(J:Int->bA):Prop:=(∀w,0<=w/\w<=2->JI c.aG (bQ c w) (J w))/\∀p,0<=p/\p<=2->¬mF (J p)->(bQ c p).On=true->(bQ c p).dC=false->c.aG<=(bQ c p).aG+1/\(c.aG=(bQ c p).aG+1->∀a,0<=a/\a<=2->Adv (J a)->(J a).Sub.Pc≠0->(J a).Sub.E=c.aG->(J a).Sub.B<=p)
def KW(J:Int->bA)(w:Int)(j:bA):Int->bA:=fun v=>if v=w then j else J v
theorem dE(J:Int->bA)(w:Int)(j:bA):KW J w j w=j:=if_pos rfl
theorem eM(J:Int->bA){w v:Int}(j:bA)(h:v≠w):KW J w j v=J v:=if_neg h
noncomputable section
variable {c:aB} {J:Int->bA} (h:Ep c J)
include h
theorem Ep.congr{J':Int->bA}(e:∀v,0<=v/\v<=2->J' v=J v):Ep c J':=by
 refine⟨fun w hw=>by rw [e w hw];exact h.1 w hw,fun p hp hn h1 h2=>?_⟩
 rw [e p hp] at hn
 obtain⟨a1,a2⟩:=h.2 p hp hn h1 h2
 exact⟨a1,fun q a ha=>by rw [e a ha];exact a2 q a ha⟩
variable {w:Int} (hw:0<=w/\w<=2) {j:bA}
include hw
theorem Ep.step{c':aB}(he:c'.aG=c.aG)(hp:∀v,0<=v/\v<=2->v≠w->bQ c' v=bQ c v)(hj:JI c.aG (bQ c' w) j)
  (h2:¬mF j->(bQ c' w).On=true->(bQ c' w).dC=false->c.aG<=(bQ c' w).aG+1/\(c.aG=(bQ c' w).aG+1->∀a,0<=a/\a<=2->a≠w->Adv (J a)->(J a).Sub.Pc≠0->(J a).Sub.E=c.aG->(J a).Sub.B<=w))
  (ha:Adv j->j.Sub.Pc=0\/j.Sub.B=0):Ep c' (KW J w j):=by
 constructor
 ·intro v hv
  rw [he]
  by_cases q:v=w
  ·subst q;rw [dE];exact hj
  ·rw [eM _ _ q,hp v hv q];exact h.1 v hv
 ·intro p hpr hn o1 o2
  rw [he]
  have hadv:∀a,0<=a/\a<=2->(∀q:a≠w,Adv (J a)->(J a).Sub.Pc≠0->(J a).Sub.E=c.aG->(J a).Sub.B<=p)->Adv (KW J w j a)->(KW J w j a).Sub.Pc≠0->(KW J w j a).Sub.E=c.aG->(KW J w j a).Sub.B<=p:=by
   intro a har hk
   by_cases q:a=w
   ·subst q
    rw [dE]
    intro x1 x2 _
    rcases ha x1 with y | y
    ·exact absurd y x2
    ·omega
   ·rw [eM _ _ q];exact hk q
  by_cases q:p=w
  ·subst q
   rw [dE] at hn
   obtain⟨a1,a2⟩:=h2 hn o1 o2
   exact⟨a1,fun e a har=>hadv a har (fun q=>a2 e a har q)⟩
  ·rw [eM _ _ q] at hn
   rw [hp p hpr q] at o1 o2 ⊢
   obtain⟨a1,a2⟩:=h.2 p hpr hn o1 o2
   exact⟨a1,fun e a har=>hadv a har (fun _=>a2 e a har)⟩
theorem Ep.still(hn:¬mF (J w))(hj:Calm j):Ep c (KW J w j):=
 h.step hw rfl (fun _ _ _=>rfl) (hj.ji _ _) (fun _ o1 o2=>by
  obtain⟨a1,a2⟩:=h.2 w hw hn o1 o2
  exact⟨a1,fun e a har _=>a2 e a har⟩) (fun q=>absurd q hj.2.1)
theorem Ep.aX3(hc:IC c)(hn:¬mF (J w))(hj:Calm j):Ep (rY c w).1 (KW J w j):=by
 unfold rY
 by_cases q:(bQ c w).On
 ·rw [if_pos q]
  refine h.step hw rfl (fun v hv hvw=>by rw [nV hc hw hv,if_neg hvw]) (hj.ji _ _) (fun _ o1=>?_) (fun q=>absurd q hj.2.1)
  rw [nV hc hw hw,if_pos rfl] at o1
  cases o1
 ·rw [if_neg q];exact h.still hw hn hj
theorem Ep.pin{b:aA}(hb:b.aB=c)(hc:IC c)(hj:J w=j)(hP:mF j){fin:bA}(hf:Calm fin) :
  Ep (OM b w j.Sub).1.aB (KW J w (if (OM b w j.Sub).2.cO then fin else {j with Sub:=(OM b w j.Sub).2})):=by
 have hji:=h.1 w hw
 rw [hj] at hji
 have hk5:=hP.2.1
 obtain⟨k,d,hpc⟩:=(hji hP.1).2.2.2 hP
 have noadv:∀s:Sub,¬Adv {j with Sub:=s}:=fun s q=>by have:=q.2.1;simp only at this;omega
 have hP':∀s:Sub,mF {j with Sub:=s}:=fun s=>hP
 have mk:∀(s:Sub) (p:oV),(s.Kind=5/\s.cO=false/\(s.Pc=0\/s.Pc=1/\(0<=s.E/\s.E<=c.aG)\/s.Pc=2/\p.aG=s.E))->JI c.aG p {j with Sub:=s}:=fun s p hs _=>⟨fun q=>by simp only at q;omega,fun q=>by simp only at q;omega,fun q=>absurd q (noadv s),fun _=>hs⟩
 unfold OM
 rw [hb]
 rcases hpc with p0 | ⟨p1,e0,e1⟩ | ⟨p2,pe⟩
 ·simp only [if_pos p0,d,aN,if_false,hb]
  exact h.step hw rfl (fun _ _ _=>rfl) (mk _ _ ⟨k,rfl,.inr (.inl ⟨rfl,hc.1.1,Int.le_refl _⟩)⟩) (fun q=>absurd (hP' _) q) (fun q=>absurd q (noadv _))
 ·have hpt:GZ c w j.Sub.E=(⟨c.aG,c.cG.set w.toNat ⟨true,j.Sub.E,false,0⟩⟩,true):=by unfold GZ;rw [if_pos ⟨e0,e1⟩]
  simp only [if_neg (show ¬j.Sub.Pc=0 by omega),if_pos p1,hpt,if_true,d,aN,if_false]
  exact h.step hw rfl (fun v hv hvw=>by rw [nV hc hw hv,if_neg hvw]) (mk _ _ ⟨k,rfl,.inr (.inr ⟨rfl,by rw [nV hc hw hw,if_pos rfl]⟩)⟩) (fun q=>absurd (hP' _) q) (fun q=>absurd q (noadv _))
 ·simp only [if_neg (show ¬j.Sub.Pc=0 by omega),if_neg (show ¬j.Sub.Pc=1 by omega),if_pos p2]
  by_cases q:c.aG=j.Sub.E
  ·simp only [if_pos q,o7,if_true,hb]
   exact h.step hw rfl (fun _ _ _=>rfl) (hf.ji _ _) (fun _ _ _=>⟨by omega,fun e=>by omega⟩) (fun q=>absurd q hf.2.1)
  ·simp only [if_neg q,d,aN,if_false,hb]
   exact h.step hw rfl (fun _ _ _=>rfl) (mk _ _ ⟨k,rfl,.inl rfl⟩) (fun q=>absurd (hP' _) q) (fun q=>absurd q (noadv _))
omit h hw in
theorem aKK(hc:IC c){q:Int}(hq:0<=q/\q<=2)(e:Int):(lZ c q e).1.aG=c.aG/\(∀v,0<=v/\v<=2->(bQ (lZ c q e).1 v).On=(bQ c v).On/\(bQ (lZ c q e).1 v).aG=(bQ c v).aG/\((bQ (lZ c q e).1 v).dC=false->(bQ c v).dC=false)) /\
  ((lZ c q e).2=true->(bQ (lZ c q e).1 q).On=true->(bQ (lZ c q e).1 q).dC=false->(bQ c q).aG=e):=by
 unfold lZ
 by_cases k1:(bQ c q).On=false\/(bQ c q).dC=true\/(bQ c q).aG=e
 ·rw [if_pos k1]
  refine⟨rfl,fun v hv=>⟨rfl,rfl,id⟩,fun _ o1 o2=>?_⟩
  rcases k1 with k | k | k
  ·rw [k] at o1;cases o1
  ·rw [k] at o2;cases o2
  ·exact k
 ·rw [if_neg k1]
  by_cases k2:(bQ c q).Seen=2
  ·rw [if_pos k2]
   refine⟨rfl,fun v hv=>?_,fun _ _ o2=>?_⟩
   ·rw [nV hc hq hv]
    by_cases z:v=q
    ·subst z;rw [if_pos rfl];exact⟨rfl,rfl,fun x=>by cases x⟩
    ·rw [if_neg z];exact⟨rfl,rfl,id⟩
   ·rw [nV hc hq hq,if_pos rfl] at o2;cases o2
  ·rw [if_neg k2]
   refine⟨rfl,fun v hv=>?_,fun x=>by cases x⟩
   rw [nV hc hq hv]
   by_cases z:v=q
   ·subst z;rw [if_pos rfl];exact⟨rfl,rfl,id⟩
   ·rw [if_neg z];exact⟨rfl,rfl,id⟩
theorem Ep.advance{b:aA}(hb:b.aB=c)(hc:IC c)(hj:J w=j)(hA:Adv j){fin:bA}(hf:Calm fin) :
  Ep (d9 b j.Sub).1.aB (KW J w (if (d9 b j.Sub).2.cO then fin else {j with Sub:=(d9 b j.Sub).2})):=by
 have hji:=h.1 w hw
 rw [hj] at hji
 have hk4:=hA.2.1
 obtain⟨k,d,hpc⟩:=(hji hA.1).2.2.1 hA
 have nopin:∀s:Sub,¬mF {j with Sub:=s}:=fun s q=>by have:=q.2.1;simp only at this;omega
 have nopw:¬mF (J w):=by rw [hj];exact nopin j.Sub
 have mk:∀(s:Sub) (p:oV) (e:Int),(s.Kind=3/\s.cO=false/\(s.Pc=0\/s.E<=e/\(s.Pc=1/\(0<=s.B/\s.B<=2)\/s.Pc=2/\s.B=3)))->JI e p {j with Sub:=s}:=fun s p e hs _=>⟨fun q=>by simp only at q;omega,fun _ q=>by simp only at q;have:=hA.2.2;omega,fun _=>hs,fun q=>absurd q (nopin s)⟩
 unfold d9
 rw [hb]
 rcases hpc with p0 | ⟨el,⟨p1,B0,B2⟩ | ⟨p2,B3⟩⟩
 ·simp only [if_pos p0,d,aN,if_false,hb]
  refine h.step hw rfl (fun _ _ _=>rfl) (mk _ _ _ ⟨k,rfl,.inr ⟨Int.le_refl _,.inl ⟨rfl,by simp,by simp⟩⟩⟩) (fun _ o1 o2=>?_) (fun _=>.inr rfl)
  obtain⟨a1,a2⟩:=h.2 w hw nopw o1 o2
  exact⟨a1,fun e a har _=>a2 e a har⟩
 ·obtain ⟨le, lv, lq⟩ := aKK hc (q := j.Sub.B) ⟨B0, B2⟩ j.Sub.E
  simp only [if_neg (show ¬j.Sub.Pc=0 by omega),if_pos p1,if_pos (show 0<=j.Sub.B/\j.Sub.B<=2 from ⟨B0,B2⟩)]
  have others:∀v,0<=v/\v<=2->JI (lZ c j.Sub.B j.Sub.E).1.aG (bQ (lZ c j.Sub.B j.Sub.E).1 v) (J v):=fun v hv=>by
   have:=h.1 v hv
   rw [le]
   intro hbv
   obtain⟨x1,x2,x3,x4⟩:=this hbv
   exact⟨x1,x2,x3,fun q=>by rw [(lv v hv).2.1];exact x4 q⟩
  cases hl:(lZ c j.Sub.B j.Sub.E).2
  ·simp only [aN,if_false,o7,if_true]
   refine⟨fun v hv=>?_,fun p hp hn o1 o2=>?_⟩
   ·by_cases q:v=w
    ·subst q;rw [dE];exact hf.ji _ _
    ·rw [eM _ _ q];exact others v hv
   ·have hn':¬mF (J p):=by
     by_cases q:p=w
     ·rw [q];exact nopw
     ·rw [eM _ _ q] at hn;exact hn
    obtain⟨y1,y2,y3⟩:=lv p hp
    rw [y1] at o1
    obtain⟨a1,a2⟩:=h.2 p hp hn' o1 (y3 o2)
    rw [le,y2]
    refine⟨a1,fun e a har=>?_⟩
    by_cases q:a=w
    ·subst q;rw [dE];exact fun q=>absurd q hf.2.1
    ·rw [eM _ _ q];exact a2 e a har
  ·simp only [if_true,d,aN,if_false]
   refine⟨fun v hv=>?_,fun p hp hn o1 o2=>?_⟩
   ·by_cases q:v=w
    ·subst q
     rw [dE,le]
     refine mk _ _ _ ⟨k,rfl,.inr ⟨el,?_⟩⟩
     by_cases z:j.Sub.B=2
     ·exact .inr ⟨by simp only [if_pos z],by simp only;omega⟩
     ·exact .inl ⟨by simp only [if_neg z],by simp only;omega,by simp only;omega⟩
    ·rw [eM _ _ q];exact others v hv
   ·have hn':¬mF (J p):=by
     by_cases q:p=w
     ·rw [q];exact nopw
     ·rw [eM _ _ q] at hn;exact hn
    obtain⟨y1,y2,y3⟩:=lv p hp
    have o1':=o1
    rw [y1] at o1'
    obtain⟨a1,a2⟩:=h.2 p hp hn' o1' (y3 o2)
    rw [le,y2]
    refine⟨a1,fun e a har=>?_⟩
    by_cases q:a=w
    ·subst q
     rw [dE]
     intro _ _ hE
     simp only at hE ⊢
     have hB:=a2 e a har (by rw [hj];exact hA) (by rw [hj];omega) (by rw [hj];exact hE)
     rw [hj] at hB
     by_cases z:j.Sub.B=p
     ·rw [<-z] at o1 o2
      have:=lq hl o1 o2
      rw [z] at this
      omega
     ·omega
    ·rw [eM _ _ q];exact a2 e a har
 ·simp only [if_neg (show ¬j.Sub.Pc=0 by omega),if_neg (show ¬j.Sub.Pc=1 by omega),if_pos p2,o7,if_true]
  unfold G8
  by_cases q:c.aG=j.Sub.E/\j.Sub.E≠100000
  ·simp only [if_pos q]
   refine⟨fun v hv=>?_,fun p hp hn o1 o2=>?_⟩
   ·by_cases z:v=w
    ·subst z;rw [dE];exact hf.ji _ _
    ·rw [eM _ _ z]
     intro hbv
     obtain⟨x1,x2,x3,x4⟩:=h.1 v hv hbv
     refine⟨x1,x2,fun q=>?_,fun q=>?_⟩
     ·obtain⟨z1,z2,z3⟩:=x3 q
      exact⟨z1,z2,z3.imp id fun z4=>⟨by simp only;omega,z4.2⟩⟩
     ·obtain⟨z1,z2,z3⟩:=x4 q
      exact⟨z1,z2,z3.imp id fun z4=>z4.imp (fun z5=>⟨z5.1,z5.2.1,by simp only;omega⟩) id⟩
   ·have hn':¬mF (J p):=by
     by_cases z:p=w
     ·rw [z];exact nopw
     ·rw [eM _ _ z] at hn;exact hn
    have o1':(bQ c p).On=true:=o1
    have o2':(bQ c p).dC=false:=o2
    obtain⟨a1,a2⟩:=h.2 p hp hn' o1' o2'
    have hpk:=(DP hc hp).1.2
    have hne:c.aG≠(bQ c p).aG+1:=fun e=>by
     have:=a2 e w hw (by rw [hj];exact hA) (by rw [hj];omega) (by rw [hj];exact q.1.symm)
     rw [hj] at this;omega
    have hep:bQ ⟨j.Sub.E+1,c.cG⟩ p=bQ c p:=rfl
    rw [hep]
    refine⟨by simp only;omega,fun e a har hA' hp' hE'=>?_⟩
    exfalso
    by_cases z:a=w
    ·subst z;rw [dE] at hA';exact hf.2.1 hA'
    ·rw [eM _ _ z] at hA' hp' hE'
     obtain⟨_,_,z3⟩:=(h.1 a har hA'.1).2.2.1 hA'
     rcases z3 with z3 | z3
     ·exact hp' z3
     ·simp only at hE';omega
  ·simp only [if_neg q]
   exact h.still hw nopw hf
end
end Go.Gv
end
noncomputable section
namespace Go.Gv
theorem jE{s:aD}(h3:s.aU.length=3){w v:Int}(hw:0<=w/\w<=2)(hv:0<=v/\v<=2)(b:aA)(c:List Int)(j:bA)(t:List Queue)(l:List Ev)(n:Int):aJ ⟨b,c,s.aU.set w.toNat j,t,l,n⟩ v=KW (aJ s) w j v:=by
 unfold aJ KW
 simp only [List.getD_eq_getElem?_getD,List.getElem?_set]
 by_cases q:v=w
 ·subst q;simp [show v.toNat < s.aU.length by omega]
 ·rw [if_neg q,if_neg (by omega)]
noncomputable section
variable (s:aD) (w:Int) (j:bA)
theorem a1U{c:Prop}[Decidable c]{x y:Int}(hx:x=1\/x=2)(hy:y=1\/y=2):(if c then x else y)=1\/(if c then x else y)=2:=by split <;> assumption
theorem aPT(h:j.Sub.Kind=1\/j.Sub.Kind=2):(OO s w j).b.aB=s.aA.aB/\(OO s w j).j.Op=j.Op/\((OO s w j).j.Sub.Kind=1\/(OO s w j).j.Sub.Kind=2):=by
 have hc:=aDZ (b:=s.aA) (w:=w) (s:=j.Sub) (by omega)
 have hk:=aG0 s.aA w j.Sub
 unfold OO b9 tA
 refine⟨?_,?_,?_⟩
 ·simp only [apply_ite JR.b,apply_ite aA.aB,hc,ite_self]
 ·simp only [apply_ite JR.j,apply_ite bA.Op,ite_self]
 ·simp only [apply_ite JR.j,apply_ite bA.Sub,apply_ite Sub.Kind,hk]
  repeat' (first | exact h | exact .inr rfl | apply a1U)
theorem aZQ{c:Prop}[Decidable c]{x y:Int}(hx:x≠0)(hy:y≠0):(if c then x else y)≠0:=by split <;> assumption
theorem aPU(h0:j.Pc≠0)(h4:j.Pc≠4):(NC s w j).b.aB=s.aA.aB/\(NC s w j).j.Op=j.Op/\(NC s w j).j.Pc≠0:=by
 unfold NC jI b9
 rw [if_neg h0]
 simp only [if_neg h4]
 refine⟨?_,?_,?_⟩
 ·simp only [apply_ite JR.b,apply_ite aA.aB,ite_self]
 ·simp only [apply_ite JR.j,apply_ite bA.Op,ite_self]
 ·simp only [apply_ite JR.j,apply_ite bA.Pc]
  repeat' (first | decide | apply aZQ)
theorem aPV:(LX s w j).b.aB=s.aA.aB/\(LX s w j).j.Op=j.Op:=by
 unfold LX b9
 exact⟨by simp only [apply_ite JR.b,apply_ite aA.aB,ite_self],by simp only [apply_ite JR.j,apply_ite bA.Op,ite_self]⟩
theorem aMH:(GG s w j).b.aB=s.aA.aB/\(GG s w j).j.Op=j.Op:=by
 unfold GG jI b9
 exact⟨by simp only [apply_ite JR.b,apply_ite aA.aB,ite_self],by simp only [apply_ite JR.j,apply_ite bA.Op,ite_self]⟩
end
noncomputable section
variable {s:aD} (hs:mW s) {w:Int} (hw:0<=w/\w<=2) (h:Ep s.aA.aB (aJ s))
include hs hw h
theorem aZR{j:bA}(hj:aJ s w=j)(hb:j.cN=true)(hk:1<=j.Op.Kind/\j.Op.Kind<=7)(hp9:j.Pc≠9):Ep (zL s w j).b.aB (KW (aJ s) w (zL s w j).j):=by
 have hc:=hs.1.1.2.1
 have hji:=h.1 w hw
 rw [hj] at hji
 obtain⟨i1,i2,i3,i4⟩:=hji hb
 have npw:¬mF j->¬mF (aJ s w):=fun q=>by rw [hj];exact q
 unfold zL
 by_cases k1:j.Op.Kind=1
 ·rw [if_pos k1]
  obtain⟨e1,e2,e3⟩:=aPT s w j (i1 k1)
  rw [e1]
  exact h.still hw (npw fun q=>by have:=q.2.1;omega) (aKJ (by rw [e2];exact k1) e3)
 rw [if_neg k1]
 by_cases k2:j.Op.Kind=2
 ·rw [if_pos k2]
  by_cases p0:j.Pc=0
  ·have hP:mF j:=⟨hb,.inl k2,p0⟩
   obtain⟨k,d,_⟩:=i4 hP
   have es:eF s.aA w j.Sub=OM s.aA w j.Sub:=by unfold eF;simp [k,d]
   have:=h.pin hw (b:=s.aA) rfl hc hj hP (fin:=b9 {j with Sub:=(eF s.aA w j.Sub).2} 1 0) (jT (by simp only [b9];omega) (.inr (by simp [b9])) (.inl (by simp only [b9];omega)))
   unfold NC
   rw [if_pos p0]
   simp only [es] at this ⊢
   exact this
  ·by_cases p4:j.Pc=4
   ·unfold NC
    simp only [if_neg p0,if_neg (show ¬j.Pc=1 by omega),if_neg (show ¬j.Pc=2 by omega),if_neg (show ¬j.Pc=3 by omega),if_pos p4]
    exact h.aX3 hw hc (npw fun q=>p0 q.2.2) (jT (by simp only [b9];omega) (.inr (by simp [b9])) (.inl (by simp only [b9];omega)))
   ·obtain⟨e1,e2,e3⟩:=aPU s w j p0 p4
    rw [e1]
    exact h.still hw (npw fun q=>p0 q.2.2) (jT (by rw [e2];omega) (.inr e3) (.inl (by rw [e2];omega)))
 rw [if_neg k2]
 by_cases k3:j.Op.Kind=3
 ·rw [if_pos k3]
  obtain⟨e1,e2⟩:=aPV s w j
  rw [e1]
  exact h.still hw (npw fun q=>by have:=q.2.1;omega) (jT (by rw [e2];omega) (.inl (by rw [e2];omega)) (.inl (by rw [e2];omega)))
 rw [if_neg k3]
 by_cases k7:j.Op.Kind=7
 ·rw [if_pos k7]
  obtain⟨e1,e2⟩:=aMH s w j
  rw [e1]
  exact h.still hw (npw fun q=>by have:=q.2.1;omega) (jT (by rw [e2];omega) (.inl (by rw [e2];omega)) (.inl (by rw [e2];omega)))
 rw [if_neg k7]
 unfold o8
 by_cases k6:j.Op.Kind=6
 ·rw [if_pos k6]
  by_cases p0:j.Pc=0
  ·rw [if_pos p0]
   exact h.aX3 hw hc (npw fun q=>by have:=q.2.1;omega) (jT (by simp only [b9];omega) (.inr (by simp [b9])) (.inl (by simp only [b9];omega)))
  ·rw [if_neg p0]
   exact h.still hw (npw fun q=>p0 q.2.2) (jT (by simp only [b9];omega) (.inr (by simp [b9])) (.inl (by simp only [b9];omega)))
 rw [if_neg k6]
 by_cases k5:j.Op.Kind=5
 ·by_cases p0:j.Pc=0
  ·have hP:mF j:=⟨hb,.inr k5,p0⟩
   obtain⟨k,d,_⟩:=i4 hP
   have es:eF s.aA w j.Sub=OM s.aA w j.Sub:=by unfold eF;simp [k,d]
   have:=h.pin hw (b:=s.aA) rfl hc hj hP (fin:=b9 {j with Sub:=(eF s.aA w j.Sub).2} 9 (eF s.aA w j.Sub).2.Code) (jT (by simp only [b9];omega) (.inr (by simp [b9])) (.inl (by simp only [b9];omega)))
   rw [if_pos (.inl p0)]
   simp only [es,if_pos k5] at this ⊢
   exact this
  ·rw [if_neg (fun q=>q.elim p0 fun q=>q.2 k5)]
   exact h.still hw (npw fun q=>p0 q.2.2) (jT (by simp only [b9];omega) (.inr (by simp [b9])) (.inl (by simp only [b9];omega)))
 have k4:j.Op.Kind=4:=by omega
 have np:¬mF (aJ s w):=npw fun q=>by have:=q.2.1;omega
 by_cases p0:j.Pc=0
 ·have hA:Adv j:=⟨hb,k4,p0⟩
  obtain⟨k,d,_⟩:=i3 hA
  have es:eF s.aA w j.Sub=d9 s.aA j.Sub:=by unfold eF;simp [k,d]
  have:=h.advance hw (b:=s.aA) rfl hc hj hA (fin:=b9 {j with Sub:=tA 4 0} 1 0) (jT (by simp only [b9];omega) (.inr (by simp [b9])) (.inr ⟨by simp [b9],fun _=>rfl⟩))
  rw [if_pos (.inl p0)]
  simp only [es,if_neg k5,if_pos p0] at this ⊢
  exact this
 by_cases p1:j.Pc=1
 ·rw [if_pos (.inr ⟨p1,k5⟩)]
  have hk:=i2 k4 p1
  have hcl:=aDZ (b:=s.aA) (w:=w) (s:=j.Sub) (by omega)
  have hkk:=aG0 s.aA w j.Sub
  simp only [hcl,if_neg k5,if_neg p0]
  refine h.still hw np ?_
  split
  ·exact jT (by simp only [b9];omega) (.inr (by simp [b9])) (.inr ⟨by simp [b9],fun q=>by simp [b9] at q⟩)
  ·exact jT (by simp only;omega) (.inr p0) (.inr ⟨p0,fun _=>by simp only [hkk];exact hk⟩)
 ·rw [if_neg (fun q=>q.elim p0 fun q=>p1 q.1)]
  exact h.still hw np (jT (by simp only [b9];omega) (.inr (by simp [b9])) (.inr ⟨by simp [b9],fun q=>by simp [b9] at q⟩))
theorem aOD:Ep (fJ s w).aA.aB (aJ (fJ s w)):=by
 have h3:=hs.2.2.1
 have hjk:JOk (aJ s w):=by
  have h:=BE hs hw
  rw [fH hw.1 (by omega)] at h
  injection h with h
  rw [<-h];exact hs.2.2.2.2.2.2 _ (List.getElem_mem _)
 unfold fJ
 cases hb:(aJ s w).cN with
 | false =>
  rw [if_pos rfl]
  have np:¬mF (aJ s w):=fun q=>by have:=q.1;rw [hb] at this;cases this
  unfold G0
  cases ho:eA s.bK w with
  | nil=>exact h
  | cons o r =>
   simp only
   by_cases s0:s.aI=1000000
   ·rw [if_pos s0];exact h
   rw [if_neg s0]
   refine Ep.congr ?_ (fun v hv=>jE h3 hw hv _ _ _ _ _ _)
   simp only
   unfold j4
   by_cases k1:o.Kind=1
   ·rw [if_pos k1]
    exact h.still hw np (aKJ k1 (.inl rfl))
   rw [if_neg k1]
   by_cases k2:o.Kind=2\/o.Kind=5
   ·rw [if_pos k2]
    cases hon:(bQ s.aA.aB w).On
    ·simp only [aN,if_false]
     refine h.step hw rfl (fun _ _ _=>rfl) (fun _=>⟨fun q=>absurd q k1,fun q=>by simp only at q;omega,fun q=>by have:=q.2.1;simp only at this;omega,fun _=>⟨rfl,rfl,.inl rfl⟩⟩) (fun _ o1=>?_) (fun q=>by have:=q.2.1;simp only at this;omega)
     rw [hon] at o1;cases o1
    ·simp only [if_true]
     exact h.still hw np (jT k1 (.inr (by simp)) (.inl (by simp only;omega)))
   rw [if_neg k2]
   by_cases k4:o.Kind=4
   ·rw [if_pos k4]
    refine h.step hw rfl (fun _ _ _=>rfl) (fun _=>⟨fun q=>absurd q k1,fun _ q=>by simp at q,fun _=>⟨rfl,rfl,.inl rfl⟩,fun q=>by have:=q.2.1;simp only at this;omega⟩) (fun _ o1 o2=>?_) (fun _=>.inl rfl)
    obtain⟨a1,a2⟩:=h.2 w hw np o1 o2
    exact⟨a1,fun e a har _=>a2 e a har⟩
   ·rw [if_neg k4]
    exact h.still hw np (jT k1 (.inl (by simp only;omega)) (.inl k4))
 | true =>
  rw [if_neg (by simp)]
  by_cases p9:(aJ s w).Pc=9
  ·rw [if_pos p9]
   refine Ep.congr ?_ (fun v hv=>jE h3 hw hv _ _ _ _ _ _)
   exact h.still hw (fun q=>by have:=q.2.2;omega) (jT (by decide) (.inl (by decide)) (.inl (by decide)))
  ·rw [if_neg p9]
   refine Ep.congr ?_ (fun v hv=>jE h3 hw hv _ _ _ _ _ _)
   exact aZR hs hw h rfl hb ((v9 hb).1 hjk).1.1 p9
end
theorem ep0(t:List Queue):Ep (fW t).aA.aB (aJ (fW t)):=by
 have hj:∀w:Int,aJ (fW t) w=kY:=fun w=>by
  unfold aJ fW
  simp only [List.getD_eq_getElem?_getD,List.getElem?_replicate]
  split <;> rfl
 have hp:∀w:Int,bQ (fW t).aA.aB w=⟨false,0,false,0⟩:=fun w=>by
  unfold bQ fW aDU
  simp only [List.getD_eq_getElem?_getD,List.getElem?_replicate]
  split <;> rfl
 exact⟨fun w _ hb=>by rw [hj] at hb;simp [kY] at hb,fun p _ _ o1=>by rw [hp] at o1;simp at o1⟩
def aT0(s:aD)(k:Nat):Prop:=(bQ s.aA.aB k).On=true/\(aJ s k).cN=false
instance (s:aD) (k:Nat):Decidable (aT0 s k):=by unfold aT0;infer_instance
theorem aFT{l:List Int}(hl:l.length<=1000000000):FE l l=some true:=by
 unfold FE
 rw [if_neg (by simp)]
 have key:loop (qM l l) 0=some (Out.brk ()):=jG (f:=qM l l) l.length (fun k=>(k:Int)) _ (fun k hk=>by
  simp only [qM]
  rw [if_pos (by simp;omega),aV hk]
  simp only [aK,bne_self_eq_false,aN,if_false]
  rw [aO (by omega) (by omega)];rfl) (by simp [qM])
 rw [key];rfl
end Go.Gv
end
noncomputable section
namespace Go.Gv
def Hk(h:aE):Prop:=h.Bytes.length=384/\h.Class.length=6
def Wk(m:Mem):Prop:=Hk m.aE/\m.aC.Global.length=3/\m.aC.cL.length=9/\(c9 m.aC).length<=24
theorem mI.wk{m:Mem}(hm:mI m):Wk m:=by obtain⟨a,b,c,d,e,_⟩:=mI.facts hm;exact⟨⟨d,e⟩,b,c,a⟩
theorem Wk.small{m:Mem}(h:Wk m):tT m:=by obtain⟨⟨a,b⟩,c,d,e⟩:=h;exact⟨by omega,by omega,by omega,by omega,by omega⟩
noncomputable section
variable {b:List UInt8} {i h:Int} (hc:Cu b i)
include hc
end
end Go.Gv
end
noncomputable section
namespace Go.Gv
noncomputable section
variable {b:List UInt8} {i h:Int} (hc:Cu b i)
include hc
def Rk(l:List aY):Prop:=l.length=3/\(bC l).length<=24
omit hc in
theorem Rk.rows{l:List aY}(hl:Rk l):∀s∈l,s.Rows.length<=24:=fun s hs=>by have:=M8 hs;have:=hl.2;omega
end
end Go.Gv
end
noncomputable section
namespace Go.Gv
def aKL(p:Nat->Bool)(n:Nat):Nat:=((List.range n).filter p).length
theorem aPW(p:Nat->Bool)(n:Nat):aKL p (n+1)=aKL p n+if p n then 1 else 0:=by
 unfold aKL
 rw [List.range_succ,List.filter_append,List.length_append]
 cases h:p n <;> simp [List.filter,h]
theorem UK:∀{l m:List Int},l.Nodup->(∀x∈l,x∈m)->l.length<=m.length
 | [],_,_,_=>Nat.zero_le _
 | a :: t, m, hn, h => by
  rw [List.nodup_cons] at hn
  have ha:a∈m:=h a (List.mem_cons_self ..)
  have ih:=UK (l:=t) (m:=m.erase a) hn.2 (fun x hx=>(List.mem_erase_of_ne (fun e:x=a=>hn.1 (by rw [<-e];exact hx))).2 (h x (List.mem_cons_of_mem _ hx)))
  have:=List.length_erase_of_mem ha
  have hp:=List.length_pos_of_mem ha
  simp only [List.length_cons];omega
theorem aPX{p:Nat->Bool}{n:Nat}{l:List Int}(hn:l.Nodup)(hr:∀x∈l,0<=x/\x < (n:Int))(hp:∀i:Nat,i < n->(p i=true↔(i:Int)∈l)):aKL p n=l.length:=by
 have e:aKL p n=(((List.range n).filter p).map (fun i:Nat=>(i:Int))).length:=by simp [aKL]
 have nd:(((List.range n).filter p).map (fun i:Nat=>(i:Int))).Nodup:=by
  rw [List.nodup_iff_pairwise_ne]
  refine List.Pairwise.map (R:=fun a b:Nat=>a≠b) _ (fun a b h=>by omega) ?_
  exact List.Pairwise.filter _ (List.nodup_iff_pairwise_ne.1 List.nodup_range)
 have a:=UK (m:=l) nd (fun x hx=>by
  obtain⟨i,hi,rfl⟩:=List.mem_map.1 hx
  obtain⟨h1,h2⟩:=List.mem_filter.1 hi
  exact(hp i (List.mem_range.1 h1)).1 h2)
 have b:=UK (l:=l) (m:=((List.range n).filter p).map (fun i:Nat=>(i:Int))) hn (fun x hx=>by
  have:=hr x hx
  refine List.mem_map.2 ⟨x.toNat,List.mem_filter.2 ⟨List.mem_range.2 (by omega),(hp _ (by omega)).2 (by rw [Int.toNat_of_nonneg this.1];exact hx)⟩,by omega⟩)
 omega
theorem aPY(b:aA)(k:Nat):∀j:Nat,j < 5->(mX b k).getD j 0=(aKL (fun i=>decide (rZ b i=(j:Int))) k:Int):=by
 induction k with
 | zero=>intro j hj;simp only [mX,aKL,List.range_zero,List.filter_nil,List.length_nil,List.getD_eq_getElem?_getD,List.getElem?_replicate,if_pos hj];rfl
 | succ k ih =>
  intro j hj
  have hr:=aDX b k
  have hl:=UJ b k
  rw [aPW]
  simp only [mX,List.getD_eq_getElem?_getD,List.getElem?_set]
  have ihj:=ih j hj
  simp only [List.getD_eq_getElem?_getD] at ihj
  by_cases q:rZ b k=(j:Int)
  ·have q':(rZ b k).toNat=j:=by omega
   rw [q',if_pos rfl,if_pos (by omega),aZ q,if_pos rfl,Option.getD_some,ihj];omega
  ·rw [if_neg (by omega),bI q,if_neg (by simp),ihj];omega
noncomputable section
variable {b:aA} (hb:lY b)
include hb
end
end Go.Gv
end
noncomputable section
namespace Go.Gv
def a1V(c:aB)(k:Nat):Prop:=((bQ c k).On=true/\(bQ c k).dC=false)/\(bQ c k).aG < c.aG
instance (c:aB) (k:Nat):Decidable (a1V c k):=by unfold a1V;infer_instance
def a1W(c:aB)(k:Nat):Prop:=(bQ c k).On=true/\(bQ c k).dC=false
instance (c:aB) (k:Nat):Decidable (a1W c k):=by unfold a1W;infer_instance
end Go.Gv
end
noncomputable section
set_option maxRecDepth 20000
namespace Go.Gv
noncomputable section
variable {b:List UInt8} {i h:Int} (hc:Cu b i)
include hc
end
theorem UL{l:List aY}(h3:l.length=3){w:Int}(hw:0<=w/\w<=2)(r:List cZ):bE (l.set w.toNat ⟨r⟩) w=r:=by
 unfold bE
 rw [List.getD_eq_getElem?_getD,List.getElem?_set_self (by omega)];rfl
end Go.Gv
end
noncomputable section
namespace Go.Gv
def Aft{α:Type}(o:Option α)(Q:α->Prop):Prop:=∀x,o=some x->Q x
namespace Aft
variable {α β:Type} {Q:α->Prop}
theorem ret{x:α}(h:Q x):Aft (some x) Q:=fun _ e=>by injection e with e;rw [<-e];exact h
theorem bind{o:Option β}{f:β->Option α}(h:∀x,o=some x->Aft (f x) Q):Aft (o.bind f) Q:=fun y e=>by
 cases ho:o with
 | none=>rw [ho] at e;cases e
 | some x=>rw [ho] at e;exact h x ho y e
theorem ite{c:Prop}[Decidable c]{a b:Option α}(h1:Aft a Q)(h2:Aft b Q):Aft (if c then a else b) Q:=by
 split
 ·exact h1
 ·exact h2
theorem need{p:Prop}[Decidable p]{k:Option α}(h:p->Aft k Q):Aft (Gv.need p k) Q:=fun y e=>by
 unfold Gv.need at e
 split at e
 ·rename_i q;exact h q y e
 ·cases e
end Aft
noncomputable section
variable (s:aD) (w:Int) (j:bA)
end
end Go.Gv
end
noncomputable section
set_option maxRecDepth 20000
namespace Go.Gv
def m8(s:aD):Prop:=(∀j∈s.aU,j.cN=false)/\∀q∈s.bK,q.iC=[]
instance (s:aD):Decidable (m8 s):=by unfold m8;infer_instance
theorem aKM{s:aD}(h1:s.aU.length<=maxLen)(h2:s.bK.length<=maxLen):MU s=some (decide (m8 s)):=by
 have e1:loop (xD s) 0=some (if ∀j∈s.aU,j.cN=false then Out.brk () else Out.ret false):=
  jB (f := xD s) s.aU (fun k => (k : Int)) (fun j => j.cN = false) (.brk ()) (.ret false)
   (fun k hk hp=>by
    simp only [xD]
    rw [if_pos (by simp;omega),aV hk,iT (m9 hk h1)]
    simp only [aK,hp,aN,if_false])
   (fun k hk hp=>by
    have hp':s.aU[k].cN=true:=by simpa using hp
    simp only [xD]
    rw [if_pos (by simp;omega),aV hk]
    simp only [aK,hp',if_true])
   (by simp [xD])
 have e2:loop (xC s) 0=some (if ∀q∈s.bK,q.iC=[] then Out.brk () else Out.ret false):=
  jB (f := xC s) s.bK (fun k => (k : Int)) (fun q => q.iC = []) (.brk ()) (.ret false)
   (fun k hk hp=>by
    simp only [xC]
    rw [if_pos (by simp;omega),aV hk,iT (m9 hk h2)]
    simp [hp])
   (fun k hk hp=>by
    have hp':0 < s.bK[k].iC.length:=List.length_pos_iff.2 hp
    simp only [xC]
    rw [if_pos (by simp;omega),aV hk]
    simp only [aK]
    rw [if_pos (by simp;omega)])
   (by simp [xC])
 unfold MU
 rw [e1]
 by_cases a:∀j∈s.aU,j.cN=false
 ·rw [if_pos a]
  simp only [aK,VE,VD]
  rw [e2]
  by_cases b:∀q∈s.bK,q.iC=[]
  ·rw [if_pos b,aZ (p:=m8 s) ⟨a,b⟩];rfl
  ·rw [if_neg b,bI (p:=m8 s) (fun h=>b h.2)];rfl
 ·rw [if_neg a,bI (p:=m8 s) (fun h=>a h.1)];rfl
theorem aD0{s:aD}(h1:s.aU.length<=maxLen)(h2:s.bK.length<=maxLen):MJ s=some (decide (m8 s)):=by
 unfold MJ
 rw [V5 h1 (fun j=>j.cN) (fun y0=>P8 y0) (fun x _=>rfl)]
 simp only [aK]
 rw [RQ h2 (fun q=>decide (0 < (q.iC.length:Int))) (fun y0=>P9 y0) (fun x _=>rfl)]
 have ea:(s.aU.any fun j=>j.cN)=!decide (∀j∈s.aU,j.cN=false):=by
  rw [Bool.eq_iff_iff];simp
 have eb:(s.bK.any fun q=>decide (0 < (q.iC.length:Int)))=!decide (∀q∈s.bK,q.iC=[]):=by
  rw [Bool.eq_iff_iff];simp [List.length_pos_iff]
 rw [ea,eb]
 by_cases a:∀j∈s.aU,j.cN=false
 ·rw [aZ a]
  simp only [dK,iA,if_true,aK,HJ,Bool.not_not]
  congr 1
  by_cases b:∀q∈s.bK,q.iC=[]
  ·rw [aZ b,aZ (p:=m8 s) ⟨a,b⟩]
  ·rw [bI b,bI (p:=m8 s) (fun h=>b h.2)]
 ·rw [bI a,bI (p:=m8 s) (fun h=>a h.1)];rfl
theorem mW.lens{s:aD}(h:mW s):s.aU.length<=maxLen/\s.bK.length<=maxLen:=by
 have h1:=h.2.2.1;have h2:=h.2.2.2.1.1
 simp only [maxLen];omega
end Go.Gv
end
noncomputable section
set_option maxRecDepth 20000
namespace Go.Gv
def BF:dB:=⟨4,0,0,0⟩
theorem aT1{n:Nat}(hn:n<=12):∀d j:Nat,1<=j->j<=n->n<=j+d->loop lX (List.replicate j BF++List.replicate (n - j) ⟨0,0,0,0⟩,(j:Int))=some (List.replicate n BF):=by
 intro d
 induction d with
 | zero =>
  intro j h1 h2 h3
  obtain rfl:j=n:=by omega
  apply bS
  simp only [lX,Nat.sub_self,List.replicate_zero,List.append_nil,List.length_replicate]
  rw [if_neg (by simp)]
 | succ d ih =>
  intro j h1 h2 h3
  by_cases e:j=n
  ·subst e
   apply bS
   simp only [lX,Nat.sub_self,List.replicate_zero,List.append_nil,List.length_replicate]
   rw [if_neg (by simp)]
  ·have hl:(List.replicate j BF++List.replicate (n - j) (⟨0,0,0,0⟩:dB)).length=n:=by simp;omega
   have ht:((List.replicate j BF++List.replicate (n - j) (⟨0,0,0,0⟩:dB)).take j).drop 0=List.replicate j BF:=by simp [List.take_append,List.take_replicate]
   have hb:dI (List.replicate j BF++List.replicate (n - j) (⟨0,0,0,0⟩:dB)) j (List.replicate j BF)=List.replicate (j+min j (n - j)) BF++List.replicate (n - (j+min j (n - j))) ⟨0,0,0,0⟩:=by
    unfold dI
    rw [hl]
    simp only [List.take_append,List.take_replicate,List.drop_append,List.drop_replicate,List.length_replicate,Nat.min_self,Nat.sub_self,Nat.zero_min,List.replicate_zero,List.append_nil,Nat.min_comm (n - j) j]
    rw [show j - (j+j)=0 by omega,List.replicate_zero,List.nil_append,<-List.append_assoc,List.replicate_append_replicate,show n - j - (j+j - j)=n - (j+min j (n - j)) by omega]
   rw [bW (s':=(List.replicate (j+min j (n - j)) BF++List.replicate (n - (j+min j (n - j))) ⟨0,0,0,0⟩,((j+min j (n - j):Nat):Int))) (by
    simp only [lX,hl,Int.toNat_natCast,ht,List.length_replicate]
    rw [if_pos (by simp;omega),aQ (by omega),aQ (by omega),hb,aO (by omega) (by omega)];rfl)]
   exact ih _ (by omega) (by omega) (by omega)
theorem aWW:((List.range 13).all fun n=>tF (IntKind.u64.wrap 1) (IntKind.u64.wrap (n:Int)) == some (0,(n:Int)))=true:=by kernel_rfl
theorem aT2{n:Nat}(hn:n<=12):wQ [BF] (n:Int)=some (List.replicate n BF):=by
 have hb:tF (IntKind.u64.wrap 1) (IntKind.u64.wrap (n:Int))=some (0,(n:Int)):=by
  have:=List.all_eq_true.1 aWW n (List.mem_range.2 (by omega))
  exact eq_of_beq this
 unfold wQ pQ
 rw [if_neg (by simp),show((([BF]:List dB).length:Int))=1 from rfl,hb]
 simp only [aK]
 rw [if_neg (by simp),bI (by omega),if_neg (by simp),wrap_i64 (by omega) (by omega),aQ (by omega),Int.toNat_natCast]
 by_cases h0:n=0
 ·subst h0
  rw [bS (r:=([]:List dB)) (by rfl)];rfl
 ·have e1:dI (List.replicate n (⟨0,0,0,0⟩:dB)) 0 [BF]=List.replicate 1 BF++List.replicate (n - 1) ⟨0,0,0,0⟩:=by
   obtain⟨m,rfl⟩:∃m,n=m+1:=⟨n - 1,by omega⟩
   simp [dI,List.replicate_succ]
  have e2:((min ([BF]:List dB).length ((List.replicate n (⟨0,0,0,0⟩:dB):List dB).length - 0):Nat):Int)=((1:Nat):Int):=by simp;omega
  rw [e1,e2,aT1 hn n 1 (by omega) (by omega) (by omega)];rfl
def WG(n k:Nat):List Queue:=List.replicate k ⟨List.replicate n BF⟩++List.replicate (3 - k) ⟨[]⟩
theorem aT3(n:Nat){k:Nat}(h:k<=3):(WG n k).length=3:=by simp [WG];omega
theorem aT4(n:Nat){k:Nat}(h:k < 3):(WG n k).set k ⟨List.replicate n BF⟩=WG n (k+1):=by
 rcases(by omega:k=0\/k=1\/k=2) with rfl | rfl | rfl <;> rfl
theorem aT5(n:Nat){k:Nat}(h:k < 3):(WG n k).set k ⟨[]⟩=WG n k:=by
 rcases(by omega:k=0\/k=1\/k=2) with rfl | rfl | rfl <;> rfl
def tU(s:aD)(n:Nat):aD:={s with bK:=WG n 3}
theorem aOE{s:aD}(hs:mW s){n:Nat}(hn:n<=12):mW (tU s n):=by
 obtain⟨h1,h2,h3,h4,h5⟩:=hs
 refine⟨h1,h2,h3,⟨rfl,fun q hq=>?_⟩,h5⟩
 obtain rfl:q=⟨List.replicate n BF⟩:=by simpa [tU,WG] using hq
 refine⟨by simpa using hn,fun o ho=>?_⟩
 obtain rfl:=List.eq_of_mem_replicate ho
 decide
theorem aAG{s:aD}(hs:s.bK=WG 0 3){n:Nat}(hn:n<=12):loop (mR (n:Int) s) (0,s)=some (tU s n):=by
 have hT:∀n,WG n 0=s.bK:=fun n=>by rw [hs];rfl
 have hlen:s.bK.length=3:=by rw [hs];rfl
 have:=jG (f:=mR (n:Int) s) 3 (fun k=>((k:Int),{s with bK:=WG n k})) (tU s n) (fun k hk=>by
  have hi:idx (WG n k) (k:Int)=some ⟨[]⟩:=by
   rw [<-aT5 n hk,aV (by rw [List.length_set,aT3 n (by omega)];exact hk),List.getElem_set_self]
  simp only [mR,AV,hlen]
  rw [if_pos (by simp;omega),hi,aK,show [(⟨4,0,0,0⟩:dB)]=[BF] from rfl,aT2 hn,aK,aQ (by simp;omega),aO (by omega) (by omega),Int.toNat_natCast,List.nil_append,aT4 n hk];rfl) (by simp [mR,hlen,tU])
 simp only [hT] at this
 exact this
theorem m8.todo{s:aD}(hs:mW s)(h:m8 s):s.bK=WG 0 3:=by
 apply List.ext_getElem
 ·rw [hs.2.2.2.1.1];rfl
 ·intro i h1 h2
  have:=h.2 _ (List.getElem_mem h1)
  have e:(WG 0 3)[i]=⟨[]⟩:=by
   have h3:i < 3:=h2
   rcases(by omega:i=0\/i=1\/i=2) with rfl | rfl | rfl <;> rfl
  rw [e]
  cases hq:s.bK[i];rw [hq] at this;simp only at this;rw [this]
end Go.Gv
end
noncomputable section
namespace Go.Gv
theorem aFU{s:aD}(hs:ON s)(n:Int):z9 s n=some (if mW s/\m8 s/\0<=n/\n<=12 then tU s n.toNat else s):=by
 have hl:=hs.2.2.2.2.2
 have hM:∀{k:Nat},k<=1048576->k<=maxLen:=fun h=>by simp only [maxLen];omega
 unfold z9
 rw [TU hs,aOA hs,aD0 (hM hs.2.2.1) (hM hs.2.2.2.1),eB]
 simp only [aK,mS]
 by_cases q:mW s
 ·by_cases i:m8 s
  ·by_cases w:0<=n/\n<=12
   ·obtain⟨m,rfl⟩:=Int.eq_ofNat_of_zero_le w.1
    have ht:=i.todo q
    simp only [aZ q,aZ i,aZ w,dK,aN,if_false,aAG ht (show m<=12 by omega),aK,IZ,IY,if_pos (show mW s/\m8 s/\0<=(m:Int)/\(m:Int)<=12 from ⟨q,i,w⟩),Int.toNat_natCast]
   ·simp only [aZ q,aZ i,bI w,dK,iA,aN,if_false,if_true,if_neg (show ¬(mW s/\m8 s/\0<=n/\n<=12) from fun h=>w h.2.2)]
  ·simp only [aZ q,bI i,dK,iA,aN,if_false,if_true,if_neg (show ¬(mW s/\m8 s/\0<=n/\n<=12) from fun h=>i h.2.1)]
 ·simp only [bI q,iA,if_true,if_neg (show ¬(mW s/\m8 s/\0<=n/\n<=12) from fun h=>q h.1)]
end Go.Gv
end
noncomputable section
namespace Go.Gv
theorem aD1{m:Mem}(hm:mI m){w h:Int}(hw:0<=w/\w<=2)(hv:hC m h):(∀t,aW (DQ m w h).aE t=aW m.aE t)/\(∀t,0<=aW m.aE t->iG (DQ m w h).aE t=if t=h % 32 then h / 32+1 else iG m.aE t) /\
  (∀t,t≠h % 32->(t∈c9 (DQ m w h).aC↔t∈c9 m.aC))/\dW (DQ m w h) (h % 32)≠3:=by
 obtain⟨hcnt,h3,h9,h1,h2,hsm,hcp,hlo,hsG,hsO⟩:=mI.facts hm
 have hcl:=hJ hv.2.1
 have hc2:0<=aW m.aE (h % 32)/\aW m.aE (h % 32)<=2:=by
  obtain⟨_,q,e⟩:=pR hcl
  rw [e];exact g9.1 (by omega)
 have hg6:1<=h / 32/\h / 32<=6:=by have:=hv.1;unfold jH at this;omega
 obtain⟨_,hg⟩:=TL.aTF hm.1.1 hcl (g:=h / 32+1) (by omega)
 have hh:(DQ m w h).aE=⟨XT m.aE.Bytes (eG (h % 32) (aW m.aE (h % 32))).toNat (h / 32+1),m.aE.Class⟩:=by
  unfold DQ;simp only [apply_ite Mem.aE,ite_self]
 have kx:(w * 3+aW m.aE (h % 32)).toNat < m.aC.cL.length:=by omega
 have ky:(aW m.aE (h % 32)).toNat < m.aC.Global.length:=by omega
 have hl:∀t,t∈c9 (DQ m w h).aC↔t∈c9 m.aC\/(h / 32+1<=6/\t=h % 32):=fun t=>by
  unfold DQ c9
  by_cases q:h / 32+1<=6
  ·rw [if_pos q]
   split
   ·rw [<-dN kx]
    simp only [List.mem_append,DM kx,List.mem_singleton,q,true_and]
    constructor
    ·rintro(a | a | a)
     ·exact .inl (.inl a)
     ·exact .inl (.inr a)
     ·exact .inr a
    ·rintro((a | a) | a)
     ·exact .inl a
     ·exact .inr (.inl a)
     ·exact .inr (.inr a)
   ·rw [<-dN ky]
    simp only [List.mem_append,DM ky,List.mem_singleton,q,true_and]
    constructor
    ·rintro((a | a) | a)
     ·exact .inl (.inl a)
     ·exact .inr a
     ·exact .inl (.inr a)
    ·rintro((a | a) | a)
     ·exact .inl (.inl a)
     ·exact .inr a
     ·exact .inl (.inr a)
  ·rw [if_neg q]
   simp only [List.mem_append,q,false_and,or_false]
 refine⟨fun t=>by rw [hh];rfl,fun t ht=>by rw [hh];exact hg t ht,fun t ht=>by rw [hl];exact⟨fun x=>x.elim id fun y=>absurd y.2 ht,.inl⟩,fun hu=>?_⟩
 have hu':=gU.1 hu
 have e1:iG (DQ m w h).aE (h % 32)=h / 32+1:=by rw [hh,hg _ hcl,if_pos rfl]
 rw [e1] at hu'
 exact hu'.2.1 ((hl _).2 (.inr ⟨hu'.2.2,rfl⟩))
theorem aMI{m:Mem}(hm:mI m){w h:Int}(hw:0<=w/\w<=2)(hv:hC m h){t:Int}(ht:t≠h % 32):dW (DQ m w h) t=dW m t:=by
 obtain⟨a,b,c,_⟩:=aD1 hm hw hv
 by_cases q:0<=aW m.aE t
 ·exact V3 (a t) (by rw [b t q,if_neg ht]) (c t ht)
 ·have e:aW (DQ m w h).aE t=aW m.aE t:=a t
  unfold dW
  rw [e,if_pos (by omega),if_pos (by omega)]
def aZS(z:List Int)(h:Int):Prop:=∀v:Int,0<=v/\v<=2->iL z v≠h
def a1X(e:Int)(z:List Int)(r:cZ):Prop:=wA r e/\aZS z r.Handle
def aT6(m:Mem)(r:cZ):Prop:=0<=aW m.aE (r.Handle % 32)/\r.Handle / 32 < iG m.aE (r.Handle % 32)
theorem aT6.not{m:Mem}{r:cZ}(h:aT6 m r):¬hC m r.Handle:=fun l=>by have:=l.2.2;have:=h.2;omega
structure Gc (w:Int) (b b':aA) (row out:Int):Prop where
 kept:∀j:Nat,(j:Int) < row->∀hj:j < (bE b'.aL w).length,¬a1X b.aB.aG b.iS (bE b'.aL w)[j]
 len:((bE b'.aL w).length:Int)+out=(bE b.aL w).length
 flat:((bC b'.aL).length:Int)+out=(bC b.aL).length
 gone:∀r∈bE b.aL w,r∈bE b'.aL w\/aT6 b'.Mem r
 used:∀i:Nat,i < 24->(rZ b' i=4↔rZ b i=4)
 cls:∀t,aW b'.Mem.aE t=aW b.Mem.aE t
 pos:0<=out
theorem aKN{l:List cZ}{j:Nat}(h:j < l.length):GD l (j:Int)=l[j]:=by
 have:=RS (l:=l) (k:=(j:Int)) (by omega)
 rw [aV h] at this
 injection this with this
 exact this.symm
noncomputable section
variable {w:Int} (hw:0<=w/\w<=2) {b b':aA} (hL0:(bE b.aL w).length<=24) {s:Sub} (hd:s.cO=false)
include hw hL0 hd
end
end Go.Gv
end
noncomputable section
set_option maxRecDepth 20000
namespace Go.Gv
def RU:Nat->Nat->aD->aD
 | 0,_,s=>s
 | n+1,k,s=>if m8 s then s else RU n (k+1) (fJ s ((k % 3:Nat):Int))
theorem aOF{L:Nat}(hL:L<=100000):∀n k:Nat,k+n=3000->∀s:aD,mW s->s.Log.length<=L+k->loop uY ((k:Int),s)=some (RU n k s)/\mW (RU n k s)/\(RU n k s).Log.length<=L+3000
 | 0, k, hk, s, hs, hl => by
  refine⟨bS ?_,hs,by simp only [RU];omega⟩
  simp only [uY,qD]
  rw [if_neg (by simp;omega)];rfl
 | n + 1, k, hk, s, hs, hl => by
  have hw:0<=(((k % 3:Nat):Int))/\(((k % 3:Nat):Int))<=2:=by omega
  by_cases i:m8 s
  ·have e:RU (n+1) k s=s:=by rw [RU,if_pos i]
   rw [e]
   refine⟨bS ?_,hs,by omega⟩
   simp only [uY,qD]
   rw [if_pos (by simp;omega),aD0 hs.lens.1 hs.lens.2,aZ i];rfl
  ·have e:RU (n+1) k s=RU n (k+1) (fJ s ((k % 3:Nat):Int)):=by rw [RU,if_neg i]
   obtain⟨f2,o1,o2⟩:=WD hs (by omega) hw
   rw [e,bW (s':=(((k+1:Nat):Int),fJ s ((k % 3:Nat):Int)))]
   ·exact aOF hL n (k+1) (by omega) _ o1 (by omega)
   ·simp only [uY,qD]
    rw [if_pos (by simp;omega),aD0 hs.lens.1 hs.lens.2,bI i]
    simp only [aK,iA,if_true]
    rw [v5 (by omega),show(k:Int) % 3=((k % 3:Nat):Int) by omega,f2,aK,aO (by omega) (by omega)];rfl
def qS(s:aD):aD:=RU 3000 0 s
theorem aIR{s:aD}(hs:mW s)(hl:s.Log.length<=100000):FY s=some (qS s)/\mW (qS s)/\(qS s).Log.length<=s.Log.length+3000:=by
 obtain⟨e,h1,h2⟩:=aOF hl 3000 0 rfl s hs (by omega)
 have hsm:=KV hs (by omega)
 refine⟨?_,h1,h2⟩
 unfold FY
 rw [TU hsm,aK,aOA hsm,aK,aZ hs,if_neg (by simp)]
 rw [show((0:Nat):Int)=0 from rfl] at e
 rw [e];rfl
def rp(n:Int):Int:=if xR n < 0 then 0 else gR (xR n)
def no(o:dB):dB:={o with gX:=rp o.gX}
def ns(s:Sub):Sub:=if s.Kind=1 then {s with A:=rp s.A} else s
def nj(j:bA):bA:={j with Op:=no j.Op,Sub:=ns j.Sub}
end Go.Gv
end
noncomputable section
set_option maxRecDepth 20000
namespace Go.Gv
theorem aMJ{l:List aY}(h:oP l):CK l=some ((bC l).length:Int):=by
 have h1:=h.1;have h2:=h.2.1
 unfold CK
 rw [DK (by omega) (by simp only [maxLen];omega)];rfl
theorem drain_eq{s:aD}(hs:mW s)(hl:s.Log.length<=90000)(hi:m8 s){n:Nat}(hn:n<=12):NY s (n:Int)=some (qS (tU s n))/\mW (qS (tU s n))/\(qS (tU s n)).Log.length<=s.Log.length+3000:=by
 have hsm:=KV hs (by omega)
 have hc:=aOE hs hn
 obtain⟨f1,f2,f3⟩:=aIR hc (show(tU s n).Log.length<=100000 by show s.Log.length<=100000;omega)
 refine⟨?_,f2,f3⟩
 unfold NY
 rw [aFU hsm,aK,if_pos ⟨hs,hi,by omega,by omega⟩,Int.toNat_natCast,f1];rfl
end Go.Gv
end
noncomputable section
set_option maxRecDepth 20000
namespace Go.Gv
def aZT(p:oV)(j:bA):Bool:=if j.cN=false\/j.H=0 then false else if j.Op.Kind=2 then p.On && !p.dC && (j.Pc == 2 || j.Pc == 3) else if j.Op.Kind=7 then p.On && !p.dC && (j.Pc == 1 || j.Pc == 2) else if j.Op.Kind=3 then j.Pc == 3 else false
noncomputable section
variable {s:aD} (hs:mW s)
include hs
end
def gF(s:aD)(w:Int):Bool:=aZT (bQ s.aA.aB w) (aJ s w)
end Go.Gv
end
noncomputable section
namespace Go.Gv
def aOG(s:Sub):Nat:=if s.Pc=0 then 4 else if s.Pc=1 then 3 else if s.Pc=2 then 2 else 1
def aD2(s:Sub):Nat:=if s.Pc=0 then 5 else if s.Pc=1/\0<=s.B/\s.B<=2 then (4 - s.B).toNat else 1
def TV(n:Nat)(s:Sub):Nat:=if s.Pc=0 then 2+5 * n else if s.Pc=1 then 1+5 * (n - s.Row.toNat) else if s.Pc=2 then max 1 (5 * (n - s.Row.toNat) - s.B.toNat) else if s.Pc=3 then max 1 (5 * (n - s.Row.toNat) - 3) else 1
def WH(e:Int)(s:Sub):Nat:=if s.Pc=0 then 3 else if s.Pc=1 then (if s.E=e then 2 else 5) else if s.Pc=2 then (if s.E=e then 1 else 4) else 1
def fB(b:aA)(w:Int):Nat:=(bE b.aL w).length
def iQ(b:aA)(w:Int)(s:Sub):Nat:=if s.cO then 1 else if s.Kind=1 then aOG s else if s.Kind=2 then (if s.Pc=0 then 2 else 1) else if s.Kind=3 then aD2 s+6 else if s.Kind=4 then TV (fB b w) s else if s.Kind=5 then WH b.aB.aG s else 1
def iY(s:Sub):Nat:=if s.Kind=2/\s.cO=false then 1 else 0
theorem aG1(b:aA)(w:Int)(s:Sub):1<=iQ b w s:=by
 unfold iQ aOG aD2 TV WH
 split <;> repeat' split
 all_goals omega
noncomputable section
variable {b:aA} {w:Int} {s:Sub} (hd:s.cO=false)
include hd
theorem aMK(hk:s.Kind=3):iQ b w s=aD2 s+6:=by simp [iQ,hd,hk]
theorem LY(hk:s.Kind=4):iQ b w s=TV (fB b w) s:=by simp [iQ,hd,hk]
theorem XZ(hk:s.Kind=5):iQ b w s=WH b.aB.aG s:=by simp [iQ,hd,hk]
end
structure aAH (b:aA) (w:Int) (s:Sub) (r:aA×Sub):Prop where
 low:r.2.cO=true\/iQ r.1 w r.2+1<=iQ b w s
 ep:r.1.aB.aG=b.aB.aG\/r.1.aB.aG=b.aB.aG+1/\r.2.cO=true/\7<=iQ b w s
 rows:fB r.1 w+iY r.2<=fB b w+iY s
 oth:∀v,0<=v/\v<=2->v≠w->fB r.1 v=fB b v
theorem aG2{l:List aY}{v w:Int}(hv:0<=v)(hw:0<=w)(h:v≠w)(r:List cZ):bE (l.set w.toNat ⟨r⟩) v=bE l v:=by
 unfold bE
 rw [List.getD_eq_getElem?_getD,List.getElem?_set_ne (by omega),<-List.getD_eq_getElem?_getD]
theorem WI{b:aA}{w:Int}{s:Sub}(c:Int):aAH b w s (b,o7 s c):=⟨.inl rfl,.inl rfl,by simp [iY,o7],fun _ _ _=>rfl⟩
theorem aZU{b:aA}{w:Int}{s:Sub}(hd:s.cO=false)(hk:s.Kind=1):aAH b w s (EJ b w s):=by
 have T:∀p:Mem×Int,(s.Pc=0\/s.Pc=1\/s.Pc=2\/s.Pc=3)->aAH b w s (xS b s p):=fun p hp=>by
  unfold xS
  split
  ·exact⟨.inl rfl,.inl rfl,by simp [iY,o7,fB],fun _ _ _=>rfl⟩
  ·split
   ·exact⟨.inl rfl,.inl rfl,by simp [iY,o7,fB],fun _ _ _=>rfl⟩
   ·refine⟨.inr ?_,.inl rfl,by simp [iY,hk,fB],fun _ _ _=>rfl⟩
    simp only [iQ,hd,hk,aN,if_false,if_true,aOG]
    rcases hp with p | p | p | p
    ·simp [p]
    ·simp [p]
    ·simp [p]
    ·exact absurd p ‹_›
 unfold EJ
 split
 ·exact WI 2
 ·split
  ·exact T _ (by omega)
  ·split
   ·exact T _ (by omega)
   ·split
    ·exact T _ (by omega)
    ·exact WI 1
theorem aWX{b:aA}(hb:lY b){w:Int}(hw:0<=w/\w<=2){s:Sub}(hd:s.cO=false)(hk:s.Kind=2):aAH b w s (AN b w s):=by
 have h3:=hb.1.2.2.1.1
 unfold AN
 split
 ·rename_i p
  refine⟨.inr ?_,.inl rfl,by simp [iY,hk,hd,fB],fun _ _ _=>rfl⟩
  simp [iQ,hd,hk,p]
 ·split
  ·split
   ·split
    ·refine⟨.inl rfl,.inl rfl,?_,fun v hv hn=>?_⟩
     ·simp only [fB,iY,o7,hk,hd]
      rw [UL h3 hw];simp
     ·simp only [fB]
      rw [aG2 hv.1 hw.1 hn]
    ·exact WI 4
   ·exact WI 1
  ·exact WI 1
theorem aT7{b:aA}{w:Int}{s:Sub}(hd:s.cO=false)(hk:s.Kind=3):aAH b w s (d9 b s):=by
 have lk:∀c v e,(lZ c v e).1.aG=c.aG:=fun c v e=>by unfold lZ;split;rfl;split <;> rfl
 unfold d9
 split
 ·rename_i p
  refine⟨.inr ?_,.inl rfl,by simp [iY,hk,fB],fun _ _ _=>rfl⟩
  simp [iQ,hd,hk,p,aD2]
 ·split
  ·rename_i p
   split
   ·rename_i hB
    split
    ·refine⟨.inr ?_,.inl (lk ..),by simp [iY,hk,fB],fun _ _ _=>rfl⟩
     rw [aMK hd hk,aMK (by exact hd) (by exact hk)]
     unfold aD2
     simp only
     by_cases q:s.B=2
     ·simp [q,p]
     ·rw [if_neg q,if_neg (by omega),if_pos (by omega),if_neg (by omega),if_pos (by omega)]
      omega
    ·exact⟨.inl rfl,.inl (lk ..),by simp [iY,hk,o7,fB],fun _ _ _=>rfl⟩
   ·exact WI 1
  ·split
   ·refine⟨.inl rfl,?_,by simp [iY,hk,o7,fB],fun _ _ _=>rfl⟩
    simp only [G8]
    split
    ·rename_i q
     right
     refine⟨by simp only;omega,rfl,?_⟩
     rw [aMK hd hk]
     unfold aD2
     split
     ·omega
     ·split <;> omega
    ·exact .inl rfl
   ·exact WI 1
theorem a27{b:aA}{w:Int}{s:Sub}(hd:s.cO=false)(hk:s.Kind=5):aAH b w s (OM b w s):=by
 have pk:∀c v e,(GZ c v e).1.aG=c.aG:=fun c v e=>by unfold GZ;split <;> rfl
 unfold OM
 split
 ·rename_i p
  refine⟨.inr ?_,.inl rfl,by simp [iY,hk,fB],fun _ _ _=>rfl⟩
  rw [XZ hd hk,XZ (by exact hd) (by exact hk)]
  simp [WH,p]
 ·split
  ·rename_i p
   split
   ·refine⟨.inr ?_,.inl (pk ..),by simp [iY,hk,fB],fun _ _ _=>rfl⟩
    rw [XZ hd hk,XZ (by exact hd) (by exact hk)]
    unfold WH
    simp only [pk]
    by_cases q:s.E=b.aB.aG <;> simp [q,p]
   ·exact⟨.inl rfl,.inl (pk ..),by simp [iY,hk,o7,fB],fun _ _ _=>rfl⟩
  ·split
   ·rename_i p
    split
    ·exact WI 0
    ·rename_i q
     refine⟨.inr ?_,.inl rfl,by simp [iY,hk,fB],fun _ _ _=>rfl⟩
     rw [XZ hd hk,XZ (by exact hd) (by exact hk)]
     unfold WH
     have q':¬s.E=b.aB.aG:=fun e=>q e.symm
     simp [q',p]
   ·exact WI 1
theorem aT8{b:aA}(hb:lY b){w:Int}(hw:0<=w/\w<=2){s:Sub}(hd:s.cO=false)(hk:s.Kind=4):aAH b w s (dP b w s):=by
 have h3:=hb.1.2.2.1.1
 unfold dP
 split
 ·rename_i p
  refine⟨.inr ?_,.inl rfl,by simp [iY,hk,fB],fun _ _ _=>rfl⟩
  rw [LY hd hk,LY (by exact hd) (by exact hk)]
  simp [TV,p,fB];omega
 ·split
  ·rename_i p
   split
   ·rename_i q
    refine⟨.inr ?_,.inl rfl,by simp [iY,hk,fB],fun _ _ _=>rfl⟩
    rw [LY hd hk,LY (by exact hd) (by exact hk)]
    have:=(aDT q).1
    simp [TV,p,fB];omega
   ·exact WI 0
  ·split
   ·rename_i p
    split
    ·rename_i q
     obtain⟨hB,a0,a1,a2⟩:=q
     split
     ·refine⟨.inr ?_,.inl rfl,by simp [iY,hk,fB],fun _ _ _=>rfl⟩
      rw [LY hd hk,LY (by exact hd) (by exact hk)]
      simp [TV,p,fB];omega
     ·refine⟨.inr ?_,.inl rfl,by simp [iY,hk,fB],fun _ _ _=>rfl⟩
      rw [LY hd hk,LY (by exact hd) (by exact hk)]
      by_cases z:s.B=2
      ·simp [TV,p,fB,z];omega
      ·simp [TV,p,fB,z];omega
    ·exact WI 1
   ·split
    ·rename_i p
     split
     ·rename_i q
      obtain⟨⟨a0,a1,a2⟩,_⟩:=q
      have e:(bE (b.aL.set w.toNat ⟨(bE b.aL w).eraseIdx s.Row.toNat⟩) w).length=(bE b.aL w).length - 1:=by
       rw [UL h3 hw,List.length_eraseIdx_of_lt (by omega)]
      refine⟨.inr ?_,.inl rfl,?_,fun v hv hn=>?_⟩
      ·rw [LY hd hk,LY (by exact hd) (by exact hk)]
       simp only [TV,p,fB,e];simp;omega
      ·simp only [iY,hk,fB,e];simp
      ·simp only [fB]
       rw [aG2 hv.1 hw.1 hn]
     ·exact WI 1
    ·exact WI 1
theorem aZV{b:aA}(hb:lY b){w:Int}(hw:0<=w/\w<=2)(s:Sub):aAH b w s (eF b w s):=by
 unfold eF
 cases hd:s.cO
 ·rw [if_neg (by simp)]
  by_cases k1:s.Kind=1
  ·rw [if_pos k1];exact aZU hd k1
  rw [if_neg k1]
  by_cases k2:s.Kind=2
  ·rw [if_pos k2];exact aWX hb hw hd k2
  rw [if_neg k2]
  by_cases k3:s.Kind=3
  ·rw [if_pos k3];exact aT7 hd k3
  rw [if_neg k3]
  by_cases k4:s.Kind=4
  ·rw [if_pos k4];exact aT8 hb hw hd k4
  rw [if_neg k4]
  by_cases k5:s.Kind=5
  ·rw [if_pos k5];exact a27 hd k5
  rw [if_neg k5]
  exact WI 1
 ·rw [if_pos rfl]
  exact⟨.inl hd,.inl rfl,Nat.le_refl _,fun _ _ _=>rfl⟩
end Go.Gv
end
noncomputable section
namespace Go.Gv
def cH(b:aA)(c:List Int)(w:Int)(j:bA):Nat:=
 if j.Pc=9 then 1
 else if j.Op.Kind=1 then (if j.Pc=0 then iQ b w j.Sub+11 else if j.Pc=1 then 11 else if j.Pc=2 then 10 else if j.Pc=3 then iQ b w j.Sub+1 else 2)
 else if j.Op.Kind=2 then (if j.Pc=0 then iQ b w j.Sub+5 else if j.Pc=1 then 5 else if j.Pc=2 then 4 else if j.Pc=3 then 3 else 2)
 else if j.Op.Kind=3 then (if j.Pc=0 then 6 else if j.Pc=1 then (if cellAt c j.Op.Cell=j.H then 5 else 8) else if j.Pc=2 then (if cellAt c j.Op.Cell=j.H then 4 else 7) else if j.Pc=3 then 3 else 2)
 else if j.Op.Kind=7 then (if j.Pc=0 then 4 else if j.Pc=1 then 3 else 2)
 else if j.Op.Kind=6 then 2
 else if j.Op.Kind=5 then (if j.Pc=0 then iQ b w j.Sub+1 else 2)
 else if j.Pc=0 then iQ b w j.Sub+3+5 * (fB b w+iY j.Sub) else if j.Pc=1 then iQ b w j.Sub+1 else 2
def LZ(j:bA):Nat:=iY j.Sub+if j.Op.Kind=1/\(j.Pc=0\/j.Pc=1\/j.Pc=2) then 1 else 0
structure aFV (b:aA) (c:List Int) (w:Int) (j:bA) (r:JR):Prop where
 low:∃d,(d=0/\r.b.aB.aG=b.aB.aG/\r.c=c\/d=3)/\cH r.b r.c w r.j+1+2 * d<=cH b c w j
 rows:fB r.b w+LZ r.j<=fB b w+LZ j
 oth:∀v,0<=v/\v<=2->v≠w->fB r.b v=fB b v
 op:r.j.Op=j.Op/\r.j.cN=j.cN
theorem aAH.d{b:aA}{w:Int}{s:Sub}{r:aA×Sub}(h:aAH b w s r):∃d,(d=0/\r.1.aB.aG=b.aB.aG\/d=3)/\1+2 * d<=iQ b w s:=by
 rcases h.ep with e | ⟨_,_,e⟩
 ·exact⟨0,.inl ⟨rfl,e⟩,by have:=aG1 b w s;omega⟩
 ·exact⟨3,.inr rfl,by omega⟩
theorem aAH.nd{b:aA}{w:Int}{s:Sub}{r:aA×Sub}(h:aAH b w s r)(hn:r.2.cO=false):r.1.aB.aG=b.aB.aG/\iQ r.1 w r.2+1<=iQ b w s:=by
 refine⟨?_,?_⟩
 ·rcases h.ep with e | ⟨_,e,_⟩
  ·exact e
  ·rw [hn] at e;cases e
 ·rcases h.low with e | e
  ·rw [hn] at e;cases e
  ·exact e
theorem aA2{s:Sub}(h:s.cO=true):iY s=0:=by simp [iY,h]
theorem aT9(b:aA)(w:Int):iQ b w (tA 4 0)=2+5 * fB b w:=by simp [iQ,tA,TV]
theorem aZW:iY (tA 4 0)=0:=by simp [iY,tA]
theorem aPZ(b:aA)(c:List Int)(w:Int)(j:bA):1<=cH b c w j:=by
 unfold cH
 repeat' split
 all_goals omega
noncomputable section
variable {s:aD} (hs:mW s) {w:Int} (hw:0<=w/\w<=2) {j:bA} (h9:j.Pc≠9)
include hs hw h9
theorem a28(hk:j.Op.Kind=1):aFV s.aA s.Cells w j (OO s w j):=by
 have L:=aZV hs.1 hw j.Sub
 have Lr:=L.rows
 obtain⟨d,hd1,hd2⟩:=L.d
 have D:d=0/\(eF s.aA w j.Sub).1.aB.aG=s.aA.aB.aG/\s.Cells=s.Cells\/d=3:=by
  rcases hd1 with ⟨a,e⟩ | a
  ·exact .inl ⟨a,e,rfl⟩
  ·exact .inr a
 unfold OO
 by_cases p0:j.Pc=0
 ·rw [if_pos p0]
  have c0:cH s.aA s.Cells w j=iQ s.aA w j.Sub+11:=by simp [cH,p0,hk]
  have f0:LZ j=iY j.Sub+1:=by simp [LZ,p0,hk]
  cases hd:(eF s.aA w j.Sub).2.cO with
  | true =>
   have z:=aA2 hd
   simp only [if_true]
   split
   ·refine⟨⟨d,D,?_⟩,?_,L.oth,rfl,rfl⟩
    ·rw [c0];simp [cH,b9];omega
    ·rw [f0];simp [LZ,b9,z,hk];omega
   ·split
    ·refine⟨⟨d,D,?_⟩,?_,L.oth,rfl,rfl⟩
     ·rw [c0];simp [cH,b9,hk];omega
     ·rw [f0];simp [LZ,b9,z,hk];omega
    ·refine⟨⟨d,D,?_⟩,?_,L.oth,rfl,rfl⟩
     ·rw [c0];simp [cH,b9];omega
     ·rw [f0];simp [LZ,b9,z,hk];omega
  | false =>
   obtain⟨e1,e2⟩:=L.nd hd
   simp only [aN,if_false]
   refine⟨⟨0,.inl ⟨rfl,e1,rfl⟩,?_⟩,?_,L.oth,rfl,rfl⟩
   ·rw [c0];simp [cH,p0,hk];omega
   ·rw [f0];simp [LZ,p0,hk];omega
 rw [if_neg p0]
 by_cases p1:j.Pc=1
 ·rw [if_pos p1]
  have c0:cH s.aA s.Cells w j=11:=by simp [cH,p1,hk]
  have f0:LZ j=iY j.Sub+1:=by simp [LZ,p1,hk]
  split
  ·refine⟨⟨0,.inl ⟨rfl,rfl,rfl⟩,?_⟩,?_,fun _ _ _=>rfl,rfl,rfl⟩
   ·rw [c0];simp [cH,b9,hk]
   ·rw [f0];simp [LZ,b9,hk,fB]
  ·refine⟨⟨0,.inl ⟨rfl,rfl,rfl⟩,?_⟩,?_,fun _ _ _=>rfl,rfl,rfl⟩
   ·rw [c0];simp [cH,b9,hk]
   ·rw [f0];simp [LZ,b9,hk,fB]
 rw [if_neg p1]
 by_cases p2:j.Pc=2
 ·rw [if_pos p2]
  have c0:cH s.aA s.Cells w j=10:=by simp [cH,p2,hk]
  have f0:LZ j=iY j.Sub+1:=by simp [LZ,p2,hk]
  refine⟨⟨3,.inr rfl,?_⟩,?_,fun _ _ _=>rfl,?_⟩
  ·rw [c0]
   simp only
   split
   ·simp [cH,b9,hk]
   ·simp [cH,b9,hk,iQ,tA]
  ·rw [f0]
   simp only
   split
   ·simp [LZ,b9,hk]
   ·simp [LZ,b9,hk,iY,tA]
  ·simp only
   split <;> exact⟨rfl,rfl⟩
 rw [if_neg p2]
 by_cases p3:j.Pc=3
 ·rw [if_pos p3]
  have c0:cH s.aA s.Cells w j=iQ s.aA w j.Sub+1:=by simp [cH,p3,hk]
  have f0:LZ j=iY j.Sub:=by simp [LZ,p3,hk]
  cases hd:(eF s.aA w j.Sub).2.cO with
  | true =>
   have z:=aA2 hd
   refine⟨⟨d,D,?_⟩,?_,L.oth,rfl,rfl⟩
   ·rw [c0];simp [cH,b9];omega
   ·rw [f0];simp [LZ,b9,z,hk];omega
  | false =>
   obtain⟨e1,e2⟩:=L.nd hd
   simp only [aN,if_false]
   refine⟨⟨0,.inl ⟨rfl,e1,rfl⟩,?_⟩,?_,L.oth,rfl,rfl⟩
   ·rw [c0];simp [cH,p3,hk];omega
   ·rw [f0];simp [LZ,p3,hk];omega
 rw [if_neg p3]
 refine⟨⟨0,.inl ⟨rfl,rfl,rfl⟩,?_⟩,?_,fun _ _ _=>rfl,rfl,rfl⟩
 ·simp [cH,b9,hk,h9,p0,p1,p2,p3]
 ·simp [LZ,b9,hk,fB,p0,p1,p2]
theorem a29(hk:j.Op.Kind=2):aFV s.aA s.Cells w j (NC s w j):=by
 have L:=aZV hs.1 hw j.Sub
 have Lr:=L.rows
 obtain⟨d,hd1,hd2⟩:=L.d
 have D:d=0/\(eF s.aA w j.Sub).1.aB.aG=s.aA.aB.aG/\s.Cells=s.Cells\/d=3:=by
  rcases hd1 with ⟨a,e⟩ | a
  ·exact .inl ⟨a,e,rfl⟩
  ·exact .inr a
 have ue:(rY s.aA.aB w).1.aG=s.aA.aB.aG:=by unfold rY;split <;> rfl
 have fj:LZ j=iY j.Sub:=by simp [LZ,hk]
 have fin:∀(r:JR),r.b=s.aA->r.c=s.Cells->r.j.Op=j.Op/\r.j.cN=j.cN->r.j.Sub=j.Sub->cH s.aA s.Cells w r.j+1<=cH s.aA s.Cells w j->aFV s.aA s.Cells w j r:=fun r e1 e2 e3 e4 h=>by
  refine⟨⟨0,.inl ⟨rfl,by rw [e1],e2⟩,by rw [e1,e2];omega⟩,?_,fun _ _ _=>by rw [e1],e3⟩
  rw [e1,fj];simp [LZ,e3.1,hk,e4]
 unfold NC
 by_cases p0:j.Pc=0
 ·rw [if_pos p0]
  have c0:cH s.aA s.Cells w j=iQ s.aA w j.Sub+5:=by simp [cH,p0,hk]
  cases hd:(eF s.aA w j.Sub).2.cO with
  | true =>
   have z:=aA2 hd
   refine⟨⟨d,D,?_⟩,?_,L.oth,rfl,rfl⟩
   ·rw [c0];simp [cH,b9,hk];omega
   ·rw [fj];simp [LZ,b9,z,hk];omega
  | false =>
   obtain⟨e1,e2⟩:=L.nd hd
   refine⟨⟨0,.inl ⟨rfl,e1,rfl⟩,?_⟩,?_,L.oth,rfl,rfl⟩
   ·rw [c0];simp [cH,p0,hk];omega
   ·rw [fj];simp [LZ,p0,hk];omega
 rw [if_neg p0]
 by_cases p1:j.Pc=1
 ·rw [if_pos p1]
  have c0:cH s.aA s.Cells w j=5:=by simp [cH,p1,hk]
  refine fin _ rfl rfl ?_ ?_ ?_
  ·simp only;split <;> exact⟨rfl,rfl⟩
  ·simp only;split <;> rfl
  ·rw [c0];simp only;split <;> simp [cH,b9,hk]
 rw [if_neg p1]
 by_cases p2:j.Pc=2
 ·rw [if_pos p2]
  refine fin _ rfl rfl ⟨rfl,rfl⟩ rfl ?_
  simp [cH,b9,hk,p2]
 rw [if_neg p2]
 by_cases p3:j.Pc=3
 ·rw [if_pos p3]
  have c0:cH s.aA s.Cells w j=3:=by simp [cH,p3,hk]
  refine fin _ rfl rfl ?_ ?_ ?_
  ·simp only [jI];split <;> exact⟨rfl,rfl⟩
  ·simp only [jI];split <;> rfl
  ·rw [c0];simp only [jI];split <;> simp [cH,b9,hk]
 rw [if_neg p3]
 have c0:cH s.aA s.Cells w j=2:=by simp [cH,hk,h9,p0,p1,p2,p3]
 by_cases p4:j.Pc=4
 ·rw [if_pos p4]
  refine⟨⟨0,.inl ⟨rfl,ue,rfl⟩,?_⟩,?_,fun _ _ _=>rfl,rfl,rfl⟩
  ·rw [c0];simp [cH,b9]
  ·rw [fj];simp [LZ,b9,hk,fB]
 rw [if_neg p4]
 refine fin _ rfl rfl ⟨rfl,rfl⟩ rfl ?_
 rw [c0];simp [cH,b9]
theorem a3A(hk:j.Op.Kind=3):aFV s.aA s.Cells w j (LX s w j):=by
 have fj:LZ j=iY j.Sub:=by simp [LZ,hk]
 have fin:∀(r:JR),r.b.aB=s.aA.aB->r.b.aL=s.aA.aL->r.c=s.Cells->r.j.Op=j.Op/\r.j.cN=j.cN->r.j.Sub=j.Sub->cH r.b s.Cells w r.j+1<=cH s.aA s.Cells w j->aFV s.aA s.Cells w j r:=fun r e1 e1' e2 e3 e4 h=>by
  refine⟨⟨0,.inl ⟨rfl,by rw [e1],e2⟩,by rw [e2];omega⟩,?_,fun _ _ _=>by unfold fB;rw [e1'],e3⟩
  rw [fj];unfold fB;rw [e1'];simp [LZ,e3.1,hk,e4]
 unfold LX
 by_cases p0:j.Pc=0
 ·rw [if_pos p0]
  split
  ·exact fin _ rfl rfl rfl ⟨rfl,rfl⟩ rfl (by simp [cH,b9,hk,p0])
  ·exact fin _ rfl rfl rfl ⟨rfl,rfl⟩ rfl (by simp [cH,b9,hk,p0])
 rw [if_neg p0]
 by_cases p1:j.Pc=1
 ·rw [if_pos p1]
  refine fin _ rfl rfl rfl ⟨rfl,rfl⟩ rfl ?_
  by_cases q:cellAt s.Cells j.Op.Cell=j.H <;> simp [cH,b9,hk,p1,q]
 rw [if_neg p1]
 by_cases p2:j.Pc=2
 ·rw [if_pos p2]
  split
  ·rename_i q
   exact fin _ rfl rfl rfl ⟨rfl,rfl⟩ rfl (by simp [cH,b9,hk,p2,q])
  ·rename_i q
   exact fin _ rfl rfl rfl ⟨rfl,rfl⟩ rfl (by simp [cH,b9,hk,p2,q])
 rw [if_neg p2]
 by_cases p3:j.Pc=3
 ·rw [if_pos p3]
  exact fin _ rfl rfl rfl ⟨rfl,rfl⟩ rfl (by simp [cH,b9,hk,p3])
 rw [if_neg p3]
 have c0:cH s.aA s.Cells w j=2:=by simp [cH,hk,h9,p0,p1,p2,p3]
 by_cases p4:j.Pc=4
 ·rw [if_pos p4]
  exact fin _ rfl rfl rfl ⟨rfl,rfl⟩ rfl (by rw [c0];simp [cH,b9])
 rw [if_neg p4]
 exact fin _ rfl rfl rfl ⟨rfl,rfl⟩ rfl (by rw [c0];simp [cH,b9])
theorem a1Y(hk:j.Op.Kind=7):aFV s.aA s.Cells w j (GG s w j):=by
 have fj:LZ j=iY j.Sub:=by simp [LZ,hk]
 have fin:∀(r:JR),r.b=s.aA->r.c=s.Cells->r.j.Op=j.Op/\r.j.cN=j.cN->r.j.Sub=j.Sub->cH s.aA s.Cells w r.j+1<=cH s.aA s.Cells w j->aFV s.aA s.Cells w j r:=fun r e1 e2 e3 e4 h=>by
  refine⟨⟨0,.inl ⟨rfl,by rw [e1],e2⟩,by rw [e1,e2];omega⟩,?_,fun _ _ _=>by rw [e1],e3⟩
  rw [e1,fj];simp [LZ,e3.1,hk,e4]
 unfold GG
 by_cases p0:j.Pc=0
 ·rw [if_pos p0]
  have c0:cH s.aA s.Cells w j=4:=by simp [cH,p0,hk]
  split
  ·exact fin _ rfl rfl ⟨rfl,rfl⟩ rfl (by rw [c0];simp [cH,b9])
  ·split
   ·exact fin _ rfl rfl ⟨rfl,rfl⟩ rfl (by rw [c0];simp [cH,b9])
   ·refine fin _ rfl rfl ?_ ?_ ?_
    ·simp only;split <;> exact⟨rfl,rfl⟩
    ·simp only;split <;> rfl
    ·rw [c0];simp only;split <;> simp [cH,b9,hk]
 rw [if_neg p0]
 by_cases p1:j.Pc=1
 ·rw [if_pos p1]
  exact fin _ rfl rfl ⟨rfl,rfl⟩ rfl (by simp [cH,b9,hk,p1])
 rw [if_neg p1]
 have c0:cH s.aA s.Cells w j=2:=by simp [cH,hk,h9,p0,p1]
 by_cases p2:j.Pc=2
 ·rw [if_pos p2]
  refine fin _ rfl rfl ?_ ?_ ?_
  ·simp only [jI];split <;> exact⟨rfl,rfl⟩
  ·simp only [jI];split <;> rfl
  ·rw [c0];simp only [jI];split <;> simp [cH,b9]
 rw [if_neg p2]
 exact fin _ rfl rfl ⟨rfl,rfl⟩ rfl (by rw [c0];simp [cH,b9])
theorem aZX(k1:j.Op.Kind≠1)(k2:j.Op.Kind≠2)(k3:j.Op.Kind≠3)(k7:j.Op.Kind≠7):aFV s.aA s.Cells w j (o8 s w j):=by
 have L:=aZV hs.1 hw j.Sub
 have Lr:=L.rows
 obtain⟨d,hd1,hd2⟩:=L.d
 have D:d=0/\(eF s.aA w j.Sub).1.aB.aG=s.aA.aB.aG/\s.Cells=s.Cells\/d=3:=by
  rcases hd1 with ⟨a,e⟩ | a
  ·exact .inl ⟨a,e,rfl⟩
  ·exact .inr a
 have ue:(rY s.aA.aB w).1.aG=s.aA.aB.aG:=by unfold rY;split <;> rfl
 have fj:LZ j=iY j.Sub:=by simp [LZ,k1]
 have two:∀c,2<=cH s.aA s.Cells w j->aFV s.aA s.Cells w j ⟨s.aA,s.Cells,b9 j 9 c,[]⟩:=fun c h=>by
  refine⟨⟨0,.inl ⟨rfl,rfl,rfl⟩,by simp [cH,b9] at h ⊢;exact h⟩,?_,fun _ _ _=>rfl,rfl,rfl⟩
  rw [fj];simp [LZ,b9,k1]
 have ge2:2<=cH s.aA s.Cells w j:=by
  have:=aG1 s.aA w j.Sub
  simp only [cH,if_neg h9,if_neg k1,if_neg k2,if_neg k3,if_neg k7]
  repeat' split
  all_goals omega
 unfold o8
 by_cases k6:j.Op.Kind=6
 ·rw [if_pos k6]
  split
  ·refine⟨⟨0,.inl ⟨rfl,ue,rfl⟩,by simp only [cH,b9];exact ge2⟩,?_,fun _ _ _=>rfl,rfl,rfl⟩
   rw [fj];simp [LZ,b9,k1,fB]
  ·exact two 1 ge2
 rw [if_neg k6]
 by_cases p:j.Pc=0\/j.Pc=1/\j.Op.Kind≠5
 ·rw [if_pos p]
  cases hd:(eF s.aA w j.Sub).2.cO with
  | true =>
   have z:=aA2 hd
   by_cases k5:j.Op.Kind=5
   ·have p0:j.Pc=0:=by rcases p with p | p;exact p;exact absurd k5 p.2
    have c0:cH s.aA s.Cells w j=iQ s.aA w j.Sub+1:=by simp [cH,p0,k5]
    refine⟨⟨d,D,?_⟩,?_,L.oth,?_⟩
    ·rw [c0];simp [cH,b9,k5];omega
    ·rw [fj];simp [LZ,b9,z,k5];omega
    ·simp [b9,k5]
   ·by_cases p0:j.Pc=0
    ·have c0:cH s.aA s.Cells w j=iQ s.aA w j.Sub+3+5 * (fB s.aA w+iY j.Sub):=by simp [cH,p0,k1,k2,k3,k5,k6,k7]
     refine⟨⟨d,D,?_⟩,?_,L.oth,?_⟩
     ·rw [c0];simp [cH,b9,k1,k2,k3,k5,k6,k7,p0,aT9];omega
     ·rw [fj];simp [LZ,b9,z,k5,p0,k1,aZW];omega
     ·simp [b9,k5,p0]
    ·have p1:j.Pc=1:=by rcases p with p | p;exact absurd p p0;exact p.1
     have c0:cH s.aA s.Cells w j=iQ s.aA w j.Sub+1:=by simp [cH,p1,k1,k2,k3,k5,k6,k7]
     refine⟨⟨d,D,?_⟩,?_,L.oth,?_⟩
     ·rw [c0];simp [cH,b9,k5,p1];omega
     ·rw [fj];simp [LZ,b9,z,k5,p1,k1];omega
     ·simp [b9,k5,p1]
  | false =>
   obtain⟨e1,e2⟩:=L.nd hd
   simp only [aN,if_false]
   refine⟨⟨0,.inl ⟨rfl,e1,rfl⟩,?_⟩,?_,L.oth,rfl,rfl⟩
   ·by_cases k5:j.Op.Kind=5
    ·have p0:j.Pc=0:=by rcases p with p | p;exact p;exact absurd k5 p.2
     simp [cH,p0,k5];omega
    ·by_cases p0:j.Pc=0
     ·simp [cH,p0,k1,k2,k3,k5,k6,k7];omega
     ·have p1:j.Pc=1:=by rcases p with p | p;exact absurd p p0;exact p.1
      simp [cH,p1,k1,k2,k3,k5,k6,k7];omega
   ·rw [fj];simp [LZ,k1];omega
 rw [if_neg p]
 exact two 1 ge2
theorem aZY:aFV s.aA s.Cells w j (zL s w j):=by
 unfold zL
 by_cases k1:j.Op.Kind=1
 ·rw [if_pos k1];exact a28 hs hw h9 k1
 rw [if_neg k1]
 by_cases k2:j.Op.Kind=2
 ·rw [if_pos k2];exact a29 hs hw h9 k2
 rw [if_neg k2]
 by_cases k3:j.Op.Kind=3
 ·rw [if_pos k3];exact a3A hs hw h9 k3
 rw [if_neg k3]
 by_cases k7:j.Op.Kind=7
 ·rw [if_pos k7];exact a1Y hs hw h9 k7
 rw [if_neg k7]
 exact aZX hs hw h9 k1 k2 k3 k7
end
end Go.Gv
end
noncomputable section
namespace Go.Gv
def kq(q:List dB):Nat:=(q.map fun o=>if o.Kind=1 then 1 else 0).sum
def opC(k:Nat)(o:dB):Nat:=if o.Kind=1 then 16 else if o.Kind=2 then 9 else if o.Kind=3 then 7 else if o.Kind=5 then 5 else if o.Kind=6 then 3 else if o.Kind=7 then 5 else 15+5 * k
def qC(k:Nat)(q:List dB):Nat:=(q.map (opC k)).sum
def jK(j:bA):Nat:=if j.cN then LZ j else 0
def kW(s:aD)(w:Int):Nat:=kq (eA s.bK w)+fB s.aA w+jK (aJ s w)
def jC(s:aD)(w:Int):Nat:=if (aJ s w).cN then cH s.aA s.Cells w (aJ s w) else 0
def JV(s:aD)(w:Int):Nat:=jC s w+qC (kW s w) (eA s.bK w)
def zO(s:aD)(w:Int):Prop:=(aJ s w).cN=false/\eA s.bK w=[]
instance (s:aD) (w:Int):Decidable (zO s w):=by unfold zO;infer_instance
theorem aUB{k k':Nat}(h:k'<=k)(o:dB):opC k' o<=opC k o:=by
 unfold opC
 repeat' split
 all_goals omega
theorem aA3{k k':Nat}(h:k'<=k):∀q:List dB,qC k' q<=qC k q
 | []=>Nat.le_refl _
 | o :: r => by
  have:=aA3 h r
  have:=aUB h o
  simp only [qC,List.map_cons,List.sum_cons] at *
  omega
theorem aP0{b b':aA}{v:Int}(hr:fB b' v=fB b v)(s:Sub):iQ b' v s<=iQ b v s+3:=by
 unfold iQ WH
 rw [hr]
 cases s.cO
 ·simp only [aN,if_false]
  repeat' split
  all_goals omega
 ·simp
theorem aML{b b':aA}{v:Int}(hr:fB b' v=fB b v)(he:b'.aB.aG=b.aB.aG)(s:Sub):iQ b' v s=iQ b v s:=by
 unfold iQ
 rw [hr,he]
theorem aMM{b b':aA}{v:Int}(hr:fB b' v=fB b v)(he:b'.aB.aG=b.aB.aG)(c:List Int)(j:bA):cH b' c v j=cH b c v j:=by
 unfold cH
 rw [aML hr he,hr]
theorem aP1{b b':aA}{c c':List Int}{v:Int}(hr:fB b' v=fB b v)(j:bA):cH b' c' v j<=cH b c v j+3:=by
 have h:=aP0 hr j.Sub
 unfold cH
 rw [hr]
 by_cases p9:j.Pc=9
 ·rw [if_pos p9,if_pos p9];omega
 rw [if_neg p9,if_neg p9]
 by_cases k1:j.Op.Kind=1
 ·rw [if_pos k1,if_pos k1]
  by_cases p0:j.Pc=0
  ·rw [if_pos p0,if_pos p0];omega
  rw [if_neg p0,if_neg p0]
  repeat' split
  all_goals omega
 rw [if_neg k1,if_neg k1]
 by_cases k2:j.Op.Kind=2
 ·rw [if_pos k2,if_pos k2]
  by_cases p0:j.Pc=0
  ·rw [if_pos p0,if_pos p0];omega
  rw [if_neg p0,if_neg p0];omega
 rw [if_neg k2,if_neg k2]
 by_cases k3:j.Op.Kind=3
 ·rw [if_pos k3,if_pos k3]
  repeat' split
  all_goals omega
 rw [if_neg k3,if_neg k3]
 by_cases k7:j.Op.Kind=7
 ·rw [if_pos k7,if_pos k7];omega
 rw [if_neg k7,if_neg k7]
 by_cases k6:j.Op.Kind=6
 ·rw [if_pos k6,if_pos k6];omega
 rw [if_neg k6,if_neg k6]
 by_cases k5:j.Op.Kind=5
 ·rw [if_pos k5,if_pos k5]
  by_cases p0:j.Pc=0
  ·rw [if_pos p0,if_pos p0];omega
  rw [if_neg p0,if_neg p0];omega
 rw [if_neg k5,if_neg k5]
 by_cases p0:j.Pc=0
 ·rw [if_pos p0,if_pos p0];omega
 rw [if_neg p0,if_neg p0]
 by_cases p1:j.Pc=1
 ·rw [if_pos p1,if_pos p1];omega
 rw [if_neg p1,if_neg p1];omega
theorem aMN(b:aA)(c:List Int)(w:Int)(o:dB)(n:Int)(k:Nat)(hk:fB b w<=k):cH b c w (j4 b.aB w o n)+1<=opC k o:=by
 unfold j4 opC
 by_cases k1:o.Kind=1
 ·rw [if_pos k1,if_pos k1];simp [cH,k1,iQ,tA,aOG]
 rw [if_neg k1,if_neg k1]
 by_cases k2:o.Kind=2
 ·rw [if_pos (.inl k2),if_pos k2]
  split <;> simp [cH,k2,iQ,tA,WH]
 rw [if_neg k2]
 by_cases k5:o.Kind=5
 ·rw [if_pos (show o.Kind=2\/o.Kind=5 from .inr k5),if_neg (show ¬o.Kind=3 by omega),if_pos k5]
  split <;> simp [cH,k5,iQ,tA,WH]
 rw [if_neg (show ¬(o.Kind=2\/o.Kind=5) by omega)]
 by_cases k3:o.Kind=3
 ·rw [if_neg (show ¬o.Kind=4 by omega),if_pos k3];simp [cH,k3]
 rw [if_neg k3,if_neg k5]
 by_cases k6:o.Kind=6
 ·rw [if_neg (show ¬o.Kind=4 by omega),if_pos k6];simp [cH,k6]
 rw [if_neg k6]
 by_cases k7:o.Kind=7
 ·rw [if_neg (show ¬o.Kind=4 by omega),if_pos k7];simp [cH,k7]
 rw [if_neg k7]
 split
 ·rename_i k4
  simp [cH,k4,iQ,tA,aD2,iY];omega
 ·simp [cH,k1,k2,k3,k5,k6,k7,iQ,iY];omega
theorem aWY(c:aB)(w:Int)(o:dB)(n:Int):jK (j4 c w o n)<=if o.Kind=1 then 1 else 0:=by
 unfold j4 jK LZ
 by_cases k1:o.Kind=1
 ·rw [if_pos k1];simp [k1,iY,tA]
 rw [if_neg k1]
 split
 ·split <;> simp [k1,iY,tA]
 ·split <;> simp [k1,iY,tA]
end Go.Gv
end
noncomputable section
namespace Go.Gv
theorem X0{t:List Queue}(h3:t.length=3){w v:Int}(hw:0<=w/\w<=2)(hv:0<=v/\v<=2)(r:List dB):eA (t.set w.toNat ⟨r⟩) v=if v=w then r else eA t v:=by
 unfold eA
 simp only [List.getD_eq_getElem?_getD,List.getElem?_set]
 by_cases q:v=w
 ·subst q;simp [show v.toNat < t.length by omega]
 ·rw [if_neg q,if_neg (by omega)]
theorem EM(f:Int->bA){w v:Int}(h:v≠w)(j:bA):KW f w j v=f v:=by simp [KW,h]
def a1Z(s s':aD)(w:Int):Prop:=∃d,JV s' w+1+2 * d<=JV s w/\∀v,0<=v/\v<=2->v≠w->JV s' v<=JV s v+d
noncomputable section
variable {s:aD} (hs:mW s) {w:Int} (hw:0<=w/\w<=2)
include hs hw
theorem aOH(h:zO s w):fJ s w=s:=by
 unfold fJ G0
 rw [if_pos h.1,h.2]
theorem aUC(hser:s.aI≠1000000)(h:¬zO s w):a1Z s (fJ s w) w:=by
 have h3:=hs.2.2.1
 have t3:s.bK.length=3:=hs.2.2.2.1.1
 unfold fJ
 by_cases hb:(aJ s w).cN=false
 ·rw [if_pos hb]
  unfold G0
  cases ho:eA s.bK w with
  | nil=>exact absurd ⟨hb,ho⟩ h
  | cons o r =>
   simp only
   rw [if_neg hser]
   have ja:=fun(v:Int) (hv:0<=v/\v<=2)=>jE h3 hw hv s.aA s.Cells (j4 s.aA.aB w o (s.aI+1)) (s.bK.set w.toNat ⟨r⟩) (s.Log ++ [⟨1,w,s.aI+1,o.Cell,0,0,0⟩]) (s.aI+1)
   have ta:=fun(v:Int) (hv:0<=v/\v<=2)=>X0 t3 hw hv r
   refine⟨0,?_,fun v hv hn=>?_⟩
   ·have jw:=ja w hw
    rw [dE] at jw
    have tw:=ta w hw
    rw [if_pos rfl] at tw
    have bz:(j4 s.aA.aB w o (s.aI+1)).cN=true:=by unfold j4;split;rfl;split;split <;> rfl;split <;> rfl
    have kle:kW ⟨s.aA,s.Cells,s.aU.set w.toNat (j4 s.aA.aB w o (s.aI+1)),s.bK.set w.toNat ⟨r⟩,s.Log ++ [⟨1,w,s.aI+1,o.Cell,0,0,0⟩],s.aI+1⟩ w<=kW s w:=by
     have:=aWY s.aA.aB w o (s.aI+1)
     unfold kW
     rw [jw,tw,ho]
     simp only [kq,List.map_cons,List.sum_cons]
     omega
    have rk:fB s.aA w<=kW s w:=by unfold kW;omega
    have sc:=aMN s.aA s.Cells w o (s.aI+1) (kW s w) rk
    have qm:=aA3 kle r
    unfold JV jC
    rw [jw,tw,ho,hb,bz]
    have e:qC (kW s w) (o :: r)=opC (kW s w) o+qC (kW s w) r:=by simp [qC]
    rw [e]
    simp only [if_true,aN,if_false]
    omega
   ·have jv:=ja v hv
    rw [EM _ hn] at jv
    have tv:=ta v hv
    rw [if_neg hn] at tv
    unfold JV jC kW
    rw [jv,tv]
    exact Nat.le_refl _
 rw [if_neg hb]
 have hb':(aJ s w).cN=true:=by simpa using hb
 by_cases h9:(aJ s w).Pc=9
 ·rw [if_pos h9]
  have ja:=fun(v:Int) (hv:0<=v/\v<=2)=>jE h3 hw hv s.aA s.Cells kY s.bK (s.Log ++ [ND w (aJ s w)]) s.aI
  refine⟨0,?_,fun v hv hn=>?_⟩
  ·have jw:=ja w hw
   rw [dE] at jw
   have kle:kW ⟨s.aA,s.Cells,s.aU.set w.toNat kY,s.bK,s.Log ++ [ND w (aJ s w)],s.aI⟩ w<=kW s w:=by
    unfold kW
    rw [jw]
    have:jK kY=0:=rfl
    show kq (eA s.bK w)+fB s.aA w+jK kY<=_
    omega
   have qm:=aA3 kle (eA s.bK w)
   have:=aPZ s.aA s.Cells w (aJ s w)
   unfold JV jC
   rw [jw,hb']
   have:kY.cN=false:=rfl
   rw [this]
   simp only [if_true,aN,if_false]
   omega
  ·have jv:=ja v hv
   rw [EM _ hn] at jv
   unfold JV jC kW
   rw [jv]
   exact Nat.le_refl _
 rw [if_neg h9]
 have J:=aZY hs hw h9
 unfold jV
 have ja:=fun(v:Int) (hv:0<=v/\v<=2)=>jE h3 hw hv (zL s w (aJ s w)).b (zL s w (aJ s w)).c (zL s w (aJ s w)).j s.bK (s.Log++(zL s w (aJ s w)).l) s.aI
 generalize zL s w (aJ s w)=r at J ja
 obtain⟨d,hd,hl⟩:=J.low
 refine⟨d,?_,fun v hv hn=>?_⟩
 ·have jw:=ja w hw
  rw [dE] at jw
  have kle:kW ⟨r.b,r.c,s.aU.set w.toNat r.j,s.bK,s.Log++r.l,s.aI⟩ w<=kW s w:=by
   have:=J.rows
   unfold kW jK
   rw [jw,J.op.2,hb']
   simp only [if_true]
   omega
  have qm:=aA3 kle (eA s.bK w)
  unfold JV jC
  rw [jw,J.op.2,hb']
  simp only [if_true]
  omega
 ·have jv:=ja v hv
  rw [EM _ hn] at jv
  have ro:=J.oth v hv hn
  unfold JV jC kW
  rw [jv]
  simp only
  rw [ro]
  by_cases bv:(aJ s v).cN=true
  ·rw [if_pos bv,if_pos bv]
   rcases hd with ⟨d0,e1,e2⟩ | d3
   ·rw [e2,aMM ro e1];omega
   ·have:=aP1 (c:=s.Cells) (c':=r.c) ro (aJ s v);omega
  ·rw [if_neg bv,if_neg bv];omega
end
def phi(s:aD):Nat:=JV s 0+JV s 1+JV s 2
theorem aKO{s:aD}(hs:mW s){w:Int}(hw:0<=w/\w<=2)(hser:s.aI≠1000000)(h:¬zO s w):phi (fJ s w)+1<=phi s:=by
 obtain⟨d,h1,h2⟩:=aUC hs hw hser h
 unfold phi
 have hc:w=0\/w=1\/w=2:=by omega
 rcases hc with rfl | rfl | rfl
 ·have a:=h2 1 (by omega) (by omega)
  have b:=h2 2 (by omega) (by omega)
  omega
 ·have a:=h2 0 (by omega) (by omega)
  have b:=h2 2 (by omega) (by omega)
  omega
 ·have a:=h2 0 (by omega) (by omega)
  have b:=h2 1 (by omega) (by omega)
  omega
def wait(s:aD)(k:Nat):Nat:=if zO s ((k % 3:Nat):Int) then (if zO s (((k+1) % 3:Nat):Int) then 2 else 1) else 0
theorem aKP{s:aD}(hs:mW s)(h:∀v:Int,0<=v/\v<=2->zO s v):m8 s:=by
 have h3:=hs.2.2.1
 have t3:s.bK.length=3:=hs.2.2.2.1.1
 refine⟨fun j hj=>?_,fun q hq=>?_⟩
 ·obtain⟨i,hi,e⟩:=List.getElem_of_mem hj
  have:=(h (i:Int) (by omega)).1
  unfold aJ at this
  rw [Int.toNat_natCast,List.getD_eq_getElem?_getD,List.getElem?_eq_getElem hi] at this
  rw [<-e];exact this
 ·obtain⟨i,hi,e⟩:=List.getElem_of_mem hq
  have:=(h (i:Int) (by omega)).2
  unfold eA at this
  rw [Int.toNat_natCast,List.getD_eq_getElem?_getD,List.getElem?_eq_getElem hi] at this
  rw [<-e];exact this
theorem aD3(P:aD->Prop)(hP:∀s (w:Int),mW s->(0<=w/\w<=2)->P s->mW (fJ s w)/\P (fJ s w))(hser:∀s,P s->s.aI≠1000000):∀n k (s:aD),mW s->P s->3 * phi s+wait s k < n->m8 (RU n k s)/\P (RU n k s)
 | 0,_,_,_,_,h=>absurd h (Nat.not_lt_zero _)
 | n + 1, k, s, hs, hp, h => by
  rw [RU]
  by_cases i:m8 s
  ·rw [if_pos i];exact⟨i,hp⟩
  rw [if_neg i]
  have hw:0<=(((k % 3:Nat):Int))/\(((k % 3:Nat):Int))<=2:=by omega
  by_cases q:zO s ((k % 3:Nat):Int)
  ·rw [aOH hs hw q]
   refine aD3 P hP hser n (k+1) s hs hp ?_
   have e:wait s (k+1)+1<=wait s k:=by
    have wk:wait s k=if zO s (((k+1) % 3:Nat):Int) then 2 else 1:=by unfold wait;rw [if_pos q]
    rw [wk]
    by_cases q1:zO s (((k+1) % 3:Nat):Int)
    ·rw [if_pos q1]
     unfold wait
     rw [if_pos q1]
     by_cases q2:zO s (((k+1+1) % 3:Nat):Int)
     ·exfalso
      refine i (aKP hs fun v hv=>?_)
      have:v=((k % 3:Nat):Int)\/v=(((k+1) % 3:Nat):Int)\/v=(((k+1+1) % 3:Nat):Int):=by omega
      rcases this with e | e | e <;> rw [e] <;> assumption
     ·rw [if_neg q2];omega
    ·rw [if_neg q1]
     unfold wait
     rw [if_neg q1]
     omega
   omega
  ·obtain⟨o1,o2⟩:=hP s _ hs hw hp
   refine aD3 P hP hser n (k+1) _ o1 o2 ?_
   have:=aKO hs hw (hser s hp) q
   have w2:∀s' k',wait s' k'<=2:=fun s' k'=>by unfold wait;split;split <;> omega;omega
   have:=w2 (fJ s ((k % 3:Nat):Int)) (k+1)
   omega
end Go.Gv
end
noncomputable section
namespace Go.Gv
def hO(c:Int):Prop:=0<=c/\c<=8
theorem kC{b:aA}{w:Int}{s:Sub}(h:hO s.Code):hO (eF b w s).2.Code:=by
 have e:∀(x:Sub) c,hO c->hO (o7 x c).Code:=fun _ _ h=>h
 have c0:hO 0:=by unfold hO;omega
 have c1:hO 1:=by unfold hO;omega
 have c2:hO 2:=by unfold hO;omega
 have c3:hO 3:=by unfold hO;omega
 have c4:hO 4:=by unfold hO;omega
 have c8:hO 8:=by unfold hO;omega
 have al:∀p,hO (xS b s p).2.Code:=fun p=>by
  unfold xS;split;exact c0;split;exact c3;exact h
 unfold eF
 split
 ·exact h
 split
 ·unfold EJ;split;exact c2;split;exact al _;split;exact al _;split;exact al _;exact c1
 split
 ·unfold AN;split;exact h;split;split;split;exact c0;exact c4;exact c1;exact c1
 split
 ·unfold d9;split;exact h;split;split;split;exact h;exact c8;exact c1;split;exact c0;exact c1
 split
 ·unfold dP;split;exact h;split;split;exact h;exact c0;split;split;split;exact h;exact h;exact c1;split;split;exact h;exact c1;exact c1
 split
 ·unfold OM;split;exact h;split;split;exact h;exact c1;split;split;exact c0;exact h;exact c1
 exact c1
structure aMO (j:bA) (r:JR):Prop where
 ser:r.j.aI=j.aI
 ev:∀e∈r.l,e.Kind=2\/e.Kind=3
 code:hO j.Code/\hO j.Sub.Code->hO r.j.Code/\hO r.j.Sub.Code
theorem je{j:bA}{b:aA}{c:List Int}{q:bA}{l:List Ev}(h1:q.aI=j.aI)(h2:∀e∈l,e.Kind=2\/e.Kind=3)(h3:hO j.Code/\hO j.Sub.Code->hO q.Code/\hO q.Sub.Code):aMO j ⟨b,c,q,l⟩:=⟨h1,h2,h3⟩
noncomputable section
variable {s:aD} {w:Int} {j:bA}
theorem SS:∀e∈([]:List Ev),e.Kind=2\/e.Kind=3:=fun e h=>by cases h
theorem ev3(h:Int):∀e∈[DZ w j h],e.Kind=2\/e.Kind=3:=fun e he=>by rw [List.mem_singleton.1 he];exact .inr rfl
theorem PY{c:Int}(h:0<=c/\c<=8):hO c:=h
theorem aKQ(m:Mem)(h n:Int):hO (wB m h n).2:=by unfold wB;split <;> exact PY (by simp only;omega)
theorem aKR(c:aB)(pc:Int):(jI c w j pc).aI=j.aI/\(jI c w j pc).Sub=j.Sub/\hO (jI c w j pc).Code:=by
 unfold jI;split <;> exact⟨rfl,rfl,PY (by simp only [b9];omega)⟩
theorem a3B:aMO j (OO s w j):=by
 unfold OO
 split
 ·split
  ·split
   ·exact je rfl SS fun h=>⟨kC h.2,kC h.2⟩
   ·split
    ·exact je rfl SS fun h=>⟨PY (by simp only [b9];omega),kC h.2⟩
    ·exact je rfl SS fun h=>⟨PY (by simp only [b9];omega),kC h.2⟩
  ·exact je rfl SS fun h=>⟨h.1,kC h.2⟩
 split
 ·split
  ·exact je rfl SS fun h=>⟨PY (by simp only [b9];omega),h.2⟩
  ·exact je rfl SS fun h=>⟨aKQ ..,h.2⟩
 split
 ·split
  ·exact je rfl (fun e he=>by rw [List.mem_singleton.1 he];exact .inl rfl) fun h=>⟨PY (by simp only [b9];omega),h.2⟩
  ·exact je rfl (fun e he=>by rw [List.mem_singleton.1 he];exact .inl rfl) fun h=>⟨PY (by simp only [b9];omega),PY (by simp only [b9,tA];omega)⟩
 split
 ·split
  ·exact je rfl SS fun h=>⟨kC h.2,kC h.2⟩
  ·exact je rfl SS fun h=>⟨h.1,kC h.2⟩
 exact je rfl SS fun h=>⟨PY (by simp only [b9];omega),h.2⟩
theorem a3C:aMO j (NC s w j):=by
 unfold NC
 split
 ·split
  ·exact je rfl SS fun h=>⟨PY (by simp only [b9];omega),kC h.2⟩
  ·exact je rfl SS fun h=>⟨h.1,kC h.2⟩
 split
 ·split <;> exact je rfl (ev3 _) fun h=>⟨PY (by simp only [b9];omega),h.2⟩
 split
 ·exact je rfl SS fun h=>⟨PY (by simp only [b9];omega),h.2⟩
 split
 ·obtain⟨a,b,c⟩:=aKR (j:=j) (w:=w) s.aA.aB 4
  exact je a SS fun h=>⟨c,by rw [b];exact h.2⟩
 split
 ·exact je rfl SS fun h=>⟨h.1,h.2⟩
 exact je rfl SS fun h=>⟨PY (by simp only [b9];omega),h.2⟩
theorem a3D:aMO j (LX s w j):=by
 unfold LX
 split
 ·split
  ·exact je rfl (ev3 _) fun h=>⟨PY (by simp only [b9];omega),h.2⟩
  ·exact je rfl SS fun h=>⟨PY (by simp only [b9];omega),h.2⟩
 split
 ·exact je rfl SS fun h=>⟨PY (by simp only [b9];omega),h.2⟩
 split
 ·split
  ·exact je rfl (ev3 _) fun h=>⟨PY (by simp only [b9];omega),h.2⟩
  ·exact je rfl SS fun h=>⟨PY (by simp only [b9];omega),h.2⟩
 split
 ·exact je rfl SS fun h=>⟨PY (by simp only [b9];omega),h.2⟩
 split
 ·exact je rfl SS fun h=>⟨h.1,h.2⟩
 exact je rfl SS fun h=>⟨PY (by simp only [b9];omega),h.2⟩
theorem a13:aMO j (GG s w j):=by
 unfold GG
 split
 ·split
  ·exact je rfl SS fun h=>⟨PY (by simp only [b9];omega),h.2⟩
  ·split
   ·exact je rfl SS fun h=>⟨PY (by simp only [b9];omega),h.2⟩
   ·split <;> exact je rfl (ev3 _) fun h=>⟨PY (by simp only [b9];omega),h.2⟩
 split
 ·exact je rfl SS fun h=>⟨PY (by simp only [b9];omega),h.2⟩
 split
 ·obtain⟨a,b,c⟩:=aKR (j:=j) (w:=w) s.aA.aB 9
  exact je a SS fun h=>⟨c,by rw [b];exact h.2⟩
 exact je rfl SS fun h=>⟨PY (by simp only [b9];omega),h.2⟩
theorem aZZ:aMO j (o8 s w j):=by
 unfold o8
 split
 ·split
  ·refine je rfl SS fun h=>⟨?_,h.2⟩
   simp only [b9]
   split <;> exact PY (by omega)
  ·exact je rfl SS fun h=>⟨PY (by simp only [b9];omega),h.2⟩
 split
 ·split
  ·split
   ·exact je rfl SS fun h=>⟨kC h.2,kC h.2⟩
   ·split
    ·exact je rfl SS fun h=>⟨PY (by simp only [b9];omega),PY (by simp only [b9,tA];omega)⟩
    ·exact je rfl SS fun h=>⟨kC h.2,kC h.2⟩
  ·exact je rfl SS fun h=>⟨h.1,kC h.2⟩
 exact je rfl SS fun h=>⟨PY (by simp only [b9];omega),h.2⟩
theorem a3E:aMO j (zL s w j):=by
 unfold zL
 split
 ·exact a3B
 split
 ·exact a3C
 split
 ·exact a3D
 split
 ·exact a13
 exact aZZ
end
end Go.Gv
end
noncomputable section
namespace Go.Gv
def OQ(f:Int->Nat):Nat:=f 0+f 1+f 2
theorem RV{f g:Int->Nat}{w:Int}(hw:0<=w/\w<=2)(hg:∀v,0<=v/\v<=2->v≠w->g v=f v):OQ g+f w=OQ f+g w:=by
 have hc:w=0\/w=1\/w=2:=by omega
 unfold OQ
 rcases hc with rfl | rfl | rfl
 ·have a:=hg 1 (by omega) (by omega)
  have b:=hg 2 (by omega) (by omega)
  omega
 ·have a:=hg 0 (by omega) (by omega)
  have b:=hg 2 (by omega) (by omega)
  omega
 ·have a:=hg 0 (by omega) (by omega)
  have b:=hg 1 (by omega) (by omega)
  omega
theorem UM{f g:Int->Nat}(hg:∀v,0<=v/\v<=2->g v=f v):OQ g=OQ f:=by
 unfold OQ
 rw [hg 0 (by omega),hg 1 (by omega),hg 2 (by omega)]
def kN(k:Int)(l:List Ev):Nat:=l.countP fun e=>e.Kind == k
def tN(n:Int)(l:List Ev):Nat:=l.countP fun e=>e.Kind == 4 && e.aI == n
def bJ(j:bA):Nat:=if j.cN then 1 else 0
def bN(n:Int)(j:bA):Nat:=if j.cN=true/\j.aI=n then 1 else 0
def one(n m:Int):Nat:=if 1<=n/\n<=m then 1 else 0
structure Tl (N:Nat) (s:aD):Prop where
 tot:s.aI+OQ (fun v=>(eA s.bK v).length)=N
 calls:(kN 1 s.Log:Int)=s.aI
 aUJ:(kN 4 s.Log:Int)+OQ (fun v=>bJ (aJ s v))=s.aI
 each:∀n,tN n s.Log+OQ (fun v=>bN n (aJ s v))=one n s.aI
 YO:(∀e∈s.Log,e.Kind=4->hO e.Code)/\∀v,0<=v/\v<=2->hO (aJ s v).Code/\hO (aJ s v).Sub.Code
theorem aKS(c:aB)(w:Int)(o:dB)(n:Int):(j4 c w o n).cN=true/\(j4 c w o n).aI=n/\hO (j4 c w o n).Code/\hO (j4 c w o n).Sub.Code:=by
 unfold j4
 have z:hO 0:=PY (by omega)
 have u:hO 1:=PY (by omega)
 split
 ·exact⟨rfl,rfl,z,z⟩
 split
 ·split
  ·exact⟨rfl,rfl,u,z⟩
  ·exact⟨rfl,rfl,z,z⟩
 split
 ·exact⟨rfl,rfl,z,z⟩
 ·exact⟨rfl,rfl,z,z⟩
theorem X2(k:Int)(l m:List Ev):kN k (l++m)=kN k l+kN k m:=List.countP_append ..
theorem aMP(n:Int)(l m:List Ev):tN n (l++m)=tN n l+tN n m:=List.countP_append ..
theorem aX4{k:Int}{l:List Ev}(hk:k≠2/\k≠3)(h:∀e∈l,e.Kind=2\/e.Kind=3):kN k l=0:=by
 unfold kN
 rw [List.countP_eq_zero]
 intro e he q
 have:=h e he
 have:e.Kind=k:=by simpa using q
 omega
theorem aX5{n:Int}{l:List Ev}(h:∀e∈l,e.Kind≠4):tN n l=0:=by
 unfold tN
 rw [List.countP_eq_zero]
 intro e he q
 have:=h e he
 simp at q
 exact this q.1
theorem aWZ{N:Nat}{s:aD}(hs:mW s){w:Int}(hw:0<=w/\w<=2)(hN:N < 1000000)(h:Tl N s):Tl N (fJ s w):=by
 have h3:=hs.2.2.1
 have t3:s.bK.length=3:=hs.2.2.2.1.1
 have s0:=hs.2.2.2.2.1.1
 unfold fJ
 by_cases hb:(aJ s w).cN=false
 ·rw [if_pos hb]
  unfold G0
  cases ho:eA s.bK w with
  | nil=>exact h
  | cons o r =>
   simp only
   by_cases hm:s.aI=1000000
   ·rw [if_pos hm];exact h
   rw [if_neg hm]
   obtain⟨f1,f2,f3,f4⟩:=aKS s.aA.aB w o (s.aI+1)
   generalize j4 s.aA.aB w o (s.aI+1)=j at f1 f2 f3 f4
   have ja:=fun(v:Int) (hv:0<=v/\v<=2)=>jE h3 hw hv s.aA s.Cells j (s.bK.set w.toNat ⟨r⟩) (s.Log ++ [⟨1,w,s.aI+1,o.Cell,0,0,0⟩]) (s.aI+1)
   have ta:=fun(v:Int) (hv:0<=v/\v<=2)=>X0 t3 hw hv r
   generalize hS:(⟨s.aA,s.Cells,s.aU.set w.toNat j,s.bK.set w.toNat ⟨r⟩,s.Log ++ [⟨1,w,s.aI+1,o.Cell,0,0,0⟩],s.aI+1⟩:aD)=S at ja
   have eT:S.bK=s.bK.set w.toNat ⟨r⟩:=by rw [<-hS]
   have eL:S.Log=s.Log ++ [⟨1,w,s.aI+1,o.Cell,0,0,0⟩]:=by rw [<-hS]
   have eS:S.aI=s.aI+1:=by rw [<-hS]
   have jw:aJ S w=j:=by rw [ja w hw,dE]
   have jv:∀v,0<=v/\v<=2->v≠w->aJ S v=aJ s v:=fun v hv hn=>by rw [ja v hv,EM _ hn]
   refine⟨?_,?_,?_,fun n=>?_,?_,fun v hv=>?_⟩
   ·have u:=RV (f:=fun v=>(eA s.bK v).length) (g:=fun v=>(eA S.bK v).length) hw fun v hv hn=>by rw [eT,ta v hv,if_neg hn]
    have tw:eA S.bK w=r:=by rw [eT,ta w hw,if_pos rfl]
    simp only [tw,ho,List.length_cons] at u
    have:=h.tot
    rw [eS];omega
   ·rw [eL,X2,eS]
    have:=h.calls
    have e:kN 1 [⟨1,w,s.aI+1,o.Cell,0,0,0⟩]=1:=rfl
    rw [e];omega
   ·have u:=RV (f:=fun v=>bJ (aJ s v)) (g:=fun v=>bJ (aJ S v)) hw fun v hv hn=>by rw [jv v hv hn]
    simp only [jw,bJ,f1,hb,if_true,aN,if_false] at u
    rw [eL,X2,eS]
    have:=h.aUJ
    have e:kN 4 [⟨1,w,s.aI+1,o.Cell,0,0,0⟩]=0:=rfl
    rw [e]
    simp only [bJ] at this ⊢
    omega
   ·have u:=RV (f:=fun v=>bN n (aJ s v)) (g:=fun v=>bN n (aJ S v)) hw fun v hv hn=>by rw [jv v hv hn]
    have b1:bN n (aJ s w)=0:=by simp [bN,hb]
    have b2:bN n (aJ S w)=if s.aI+1=n then 1 else 0:=by rw [jw];simp [bN,f1,f2]
    simp only [b1,b2] at u
    rw [eL,aMP,eS]
    have:=h.each n
    have e:tN n [⟨1,w,s.aI+1,o.Cell,0,0,0⟩]=0:=aX5 fun e he=>by rw [List.mem_singleton.1 he];simp
    rw [e]
    have k:one n (s.aI+1)=one n s.aI+if s.aI+1=n then 1 else 0:=by
     unfold one
     by_cases q:s.aI+1=n
     ·rw [if_pos q,if_pos (by omega),if_neg (by omega)]
     ·rw [if_neg q]
      by_cases q2:1<=n/\n<=s.aI
      ·rw [if_pos q2,if_pos (by omega)]
      ·rw [if_neg q2,if_neg (by omega)]
    rw [k];omega
   ·intro e he
    rw [eL] at he
    rcases List.mem_append.1 he with he | he
    ·exact h.YO.1 e he
    ·rw [List.mem_singleton.1 he];intro q;simp at q
   ·by_cases q:v=w
    ·subst q;rw [jw];exact⟨f3,f4⟩
    ·rw [jv v hv q];exact h.YO.2 v hv
 rw [if_neg hb]
 have hb':(aJ s w).cN=true:=by simpa using hb
 by_cases h9:(aJ s w).Pc=9
 ·rw [if_pos h9]
  have ja:=fun(v:Int) (hv:0<=v/\v<=2)=>jE h3 hw hv s.aA s.Cells kY s.bK (s.Log ++ [ND w (aJ s w)]) s.aI
  generalize hS:(⟨s.aA,s.Cells,s.aU.set w.toNat kY,s.bK,s.Log ++ [ND w (aJ s w)],s.aI⟩:aD)=S at ja
  have eT:S.bK=s.bK:=by rw [<-hS]
  have eL:S.Log=s.Log ++ [ND w (aJ s w)]:=by rw [<-hS]
  have eS:S.aI=s.aI:=by rw [<-hS]
  have jw:aJ S w=kY:=by rw [ja w hw,dE]
  have jv:∀v,0<=v/\v<=2->v≠w->aJ S v=aJ s v:=fun v hv hn=>by rw [ja v hv,EM _ hn]
  have nB:kY.cN=false:=rfl
  refine⟨?_,?_,?_,fun n=>?_,?_,fun v hv=>?_⟩
  ·rw [eT,eS];exact h.tot
  ·rw [eL,X2,eS]
   have:=h.calls
   have e:kN 1 [ND w (aJ s w)]=0:=rfl
   rw [e];omega
  ·have u:=RV (f:=fun v=>bJ (aJ s v)) (g:=fun v=>bJ (aJ S v)) hw fun v hv hn=>by rw [jv v hv hn]
   simp only [jw,bJ,nB,hb',if_true,aN,if_false] at u
   rw [eL,X2,eS]
   have:=h.aUJ
   have e:kN 4 [ND w (aJ s w)]=1:=rfl
   rw [e]
   simp only [bJ] at this ⊢
   omega
  ·have u:=RV (f:=fun v=>bN n (aJ s v)) (g:=fun v=>bN n (aJ S v)) hw fun v hv hn=>by rw [jv v hv hn]
   have b1:bN n (aJ s w)=if (aJ s w).aI=n then 1 else 0:=by simp [bN,hb']
   have b2:bN n (aJ S w)=0:=by rw [jw];simp [bN,nB]
   simp only [b1,b2] at u
   rw [eL,aMP,eS]
   have:=h.each n
   have e:tN n [ND w (aJ s w)]=if (aJ s w).aI=n then 1 else 0:=by
    by_cases q:(aJ s w).aI=n <;> simp [tN,ND,q]
   rw [e];omega
  ·intro e he
   rw [eL] at he
   rcases List.mem_append.1 he with he | he
   ·exact h.YO.1 e he
   ·rw [List.mem_singleton.1 he];intro _;exact(h.YO.2 w hw).1
  ·by_cases q:v=w
   ·subst q;rw [jw];exact⟨PY (by simp [kY]),PY (by simp [kY])⟩
   ·rw [jv v hv q];exact h.YO.2 v hv
 rw [if_neg h9]
 have J:=aZY hs hw h9
 have E:=a3E (s:=s) (w:=w) (j:=aJ s w)
 unfold jV
 have ja:=fun(v:Int) (hv:0<=v/\v<=2)=>jE h3 hw hv (zL s w (aJ s w)).b (zL s w (aJ s w)).c (zL s w (aJ s w)).j s.bK (s.Log++(zL s w (aJ s w)).l) s.aI
 generalize zL s w (aJ s w)=r at J E ja
 generalize hS:(⟨r.b,r.c,s.aU.set w.toNat r.j,s.bK,s.Log++r.l,s.aI⟩:aD)=S at ja
 have eT:S.bK=s.bK:=by rw [<-hS]
 have eL:S.Log=s.Log++r.l:=by rw [<-hS]
 have eS:S.aI=s.aI:=by rw [<-hS]
 have jw:aJ S w=r.j:=by rw [ja w hw,dE]
 have jv:∀v,0<=v/\v<=2->v≠w->aJ S v=aJ s v:=fun v hv hn=>by rw [ja v hv,EM _ hn]
 have same:∀(F:bA->Nat),F r.j=F (aJ s w)->OQ (fun v=>F (aJ S v))=OQ (fun v=>F (aJ s v)):=fun F hF=>UM fun v hv=>by
  by_cases q:v=w
  ·subst q;rw [jw,hF]
  ·rw [jv v hv q]
 refine⟨?_,?_,?_,fun n=>?_,?_,fun v hv=>?_⟩
 ·rw [eT,eS];exact h.tot
 ·rw [eL,X2,eS,aX4 (k:=1) (l:=r.l) (by omega) E.ev];exact h.calls
 ·rw [eL,X2,eS,aX4 (k:=4) (l:=r.l) (by omega) E.ev,same bJ (by simp only [bJ,J.op.2])];exact h.aUJ
 ·have z:tN n r.l=0:=aX5 fun e he=>by have:=E.ev e he;omega
  rw [eL,aMP,eS,z,same (bN n) (by simp only [bN,J.op.2,E.ser])];exact h.each n
 ·intro e he
  rw [eL] at he
  rcases List.mem_append.1 he with he | he
  ·exact h.YO.1 e he
  ·intro q;have:=E.ev e he;omega
 ·by_cases q:v=w
  ·subst q;rw [jw];exact E.code (h.YO.2 v hv)
  ·rw [jv v hv q];exact h.YO.2 v hv
end Go.Gv
end
noncomputable section
namespace Go.Gv
def T8(l:List Queue):Prop:=(eA l 0).length<=8/\(eA l 2).length<=8
theorem X3{l:List Queue}(h:∀q∈l,q.iC.length<=8):T8 l:=by
 have key:∀v,(eA l v).length<=8:=fun v=>by
  unfold eA
  rw [List.getD_eq_getElem?_getD]
  cases e:l[v.toNat]? with
  | none=>simp
  | some q=>exact h q (List.mem_of_getElem? e)
 exact⟨key 0,key 2⟩
theorem aW0{l:List Queue}(h:T8 l)(q:Queue):T8 (l.set 1 q):=by
 have key:∀v:Int,v=0\/v=2->eA (l.set 1 q) v=eA l v:=fun v hv=>by
  unfold eA
  rw [List.getD_eq_getElem?_getD,List.getElem?_set_ne (by rcases hv with rfl | rfl <;> decide),<-List.getD_eq_getElem?_getD]
 exact⟨by rw [key 0 (.inl rfl)];exact h.1,by rw [key 2 (.inr rfl)];exact h.2⟩
noncomputable section
variable {b:List UInt8} {i h:Int} (hc:Cu b i)
include hc
theorem aP2:zN (AH ⟨b,i,h⟩) (fun x=>(WE x.1/\T8 x.1)/\Cu b x.2.1):=by
 unfold AH
 refine .bind (aOC hc (by omega)) fun x1 ⟨⟨l3,hq⟩,h1⟩=>.bind (below h1 (by omega)) fun x5 ⟨_,h5⟩=>?_
 have hT:WE x1.1:=⟨by omega,fun q hq'=>by have:=(hq q hq').1;omega⟩
 have h8:∀q∈x1.1,q.iC.length<=7:=fun q hq'=>by have:=(hq q hq').1;omega
 simp only [kB,AX]
 refine .ite (fun _=>?_) fun _=>.ite (fun _=>?_) fun _=>.ite (fun _=>?_) fun _=>.ite (fun _=>?_) fun _=>?_
 ·exact .need (by omega) (.ret ⟨⟨⟨by simp;omega,fun q hq'=>hT.2 q (List.mem_of_mem_take (by simpa using hq'))⟩,X3 fun q hq'=>by have:=h8 q (List.mem_of_mem_take (by simpa using hq'));omega⟩,h5⟩)
 ·refine .bind (.idx (by omega)) fun x9 h9=>.bind (aOB h5 (by decide) (by decide)) fun x10 ⟨_,h10⟩=>?_
  have:=hT.2 _ h9
  have:=h8 _ h9
  exact .need (by simp;omega) (.ret ⟨⟨aGZ hT _ (by simp;omega),X3 fun q hq'=>by
   rcases List.mem_or_eq_of_mem_set hq' with k | k
   ·have:=h8 q k;omega
   ·rw [k];simp;omega⟩,h10⟩)
 ·refine .bind (P:=fun x=>(WE x.1/\T8 x.1)/\Cu b x.2.1) (.loop (fun s=>20 - ((s.1.getD 1 ⟨[]⟩).iC.length)) (fun s=>(s.1.length=3/\(∀q∈s.1,q.iC.length<=13)/\T8 s.1)/\Cu b s.2.1) ⟨⟨l3,fun q hq'=>by have:=h8 q hq';omega,X3 fun q hq'=>by have:=h8 q hq';omega⟩,h5⟩ ?_) ?_
  ·rintro⟨l,i1,h1⟩ ⟨⟨l3,hq,t8⟩,hi1⟩
   simp only at l3 hq hi1 t8
   simp only [I9,AY]
   have hx:idx l 1=some l[1]:=aV (k:=1) (by omega)
   have hm:=hq _ (List.getElem_mem (show 1 < l.length by omega))
   rw [hx]
   simp only [aK]
   refine .bind (below hi1 (by omega)) fun x ⟨hx2,hi2⟩=>.ite (fun q=>?_) (fun q=>?_)
   ·have q':=of_decide_eq_true q
    rw [aO (by omega) (by omega)] at q'
    refine .need (by simp;omega) (.ret ?_)
    refine⟨⟨⟨by simp [l3],fun x hx=>?_,aW0 t8 _⟩,hi2⟩,?_⟩
    ·rcases List.mem_or_eq_of_mem_set hx with hx | hx
     ·exact hq x hx
     ·rw [hx];simp;omega
    ·have e1:l.getD 1 ⟨[]⟩=l[1]:=by rw [List.getD_eq_getElem?_getD,List.getElem?_eq_getElem (by omega)];rfl
     have e2:(l.set (1:Int).toNat ⟨l[1].iC ++ [⟨4,0,0,0⟩]⟩).getD 1 ⟨[]⟩=⟨l[1].iC ++ [⟨4,0,0,0⟩]⟩:=by rw [List.getD_eq_getElem?_getD,show(1:Int).toNat=1 from rfl,List.getElem?_set_self (by omega)];rfl
     simp only [e1,e2]
     simp;omega
   ·exact .ret ⟨⟨⟨by (try simp only);omega,fun q hq'=>by have:=hq q hq';omega⟩,t8⟩,hi2⟩
  ·rintro⟨l,i1,h1⟩ hx
   exact .ret hx
 ·refine .bind (.idx (by omega)) fun x9 h9=>?_
  have:=h8 _ h9
  exact .need (by simp;omega) (.ret ⟨⟨aGZ hT _ (by simp;omega),X3 fun q hq'=>by
   rcases List.mem_or_eq_of_mem_set hq' with k | k
   ·have:=h8 q k;omega
   ·rw [k];simp;omega⟩,h5⟩)
 ·exact .ret ⟨⟨hT,X3 fun q hq'=>by have:=h8 q hq';omega⟩,h5⟩
end
theorem aKT{code:List UInt8}(hl:code.length<=1048576):zN (rU code) (fun x=>(WE x.bK/\T8 x.bK)/\x.uC.length<=5000):=by
 unfold rU
 refine .bind (a26 hl) fun x1 h1=>.bind (aOC h1 (by omega)) fun x2 ⟨⟨l3,hq⟩,h2⟩=>.bind (aZP h2 (by omega)) fun x3 ⟨p,h3⟩=>.bind (below h3 (by omega)) fun x6 ⟨_,h6⟩=>?_
 have hT:WE x2.1/\T8 x2.1:=⟨⟨by omega,fun q hq'=>by have:=(hq q hq').1;omega⟩,X3 fun q hq'=>by have:=(hq q hq').1;omega⟩
 simp only [j9]
 refine .ite (fun _=>.bind (aP2 h6) fun x7 ⟨h7,_⟩=>.ret ⟨h7,by (try simp only);omega⟩) fun _=>.ite (fun _=>.need (by simp;omega) (.ret ⟨hT,by simp;omega⟩)) fun _=>.ret ⟨hT,by (try simp only);omega⟩
theorem aOI:∀q:List dB,kq q<=q.length
 | []=>Nat.le_refl _
 | o :: r => by
  have:=aOI r
  simp only [kq,List.map_cons,List.sum_cons,List.length_cons] at *
  split <;> omega
theorem aUD(k:Nat):∀q:List dB,qC k q<=16 * kq q+(q.length - kq q) * (15+5 * k)
 | []=>by simp [qC,kq]
 | o :: r => by
  have h1:=aUD k r
  have h2:=aOI r
  by_cases k1:o.Kind=1
  ·have e1:kq (o :: r)=kq r+1:=by simp [kq,k1];omega
   have e2:qC k (o :: r)=16+qC k r:=by simp [qC,opC,k1]
   rw [e1,e2,List.length_cons,show r.length+1 - (kq r+1)=r.length - kq r by omega]
   omega
  ·have e1:kq (o :: r)=kq r:=by simp [kq,k1]
   have e2:qC k (o :: r)=opC k o+qC k r:=by simp [qC]
   have e3:opC k o<=15+5 * k:=by
    unfold opC
    rw [if_neg k1]
    repeat' split
    all_goals omega
   rw [e1,e2,List.length_cons,show r.length+1 - kq r=(r.length - kq r)+1 by omega,Nat.add_mul,Nat.one_mul]
   omega
theorem q8{q:List dB}(h:q.length<=8):qC (kq q) q<=204:=by
 have h1:=aUD (kq q) q
 have h2:=aOI q
 have h3:(q.length - kq q) * (15+5 * kq q)<=(8 - kq q) * (15+5 * kq q):=Nat.mul_le_mul (by omega) (Nat.le_refl _)
 generalize kq q=k at h1 h2 h3 ⊢
 have hk:k=0\/k=1\/k=2\/k=3\/k=4\/k=5\/k=6\/k=7\/k=8:=by omega
 rcases hk with rfl | rfl | rfl | rfl | rfl | rfl | rfl | rfl | rfl <;> omega
theorem q12{q:List dB}(h:q.length<=12):qC (kq q) q<=366:=by
 have h1:=aUD (kq q) q
 have h2:=aOI q
 have h3:(q.length - kq q) * (15+5 * kq q)<=(12 - kq q) * (15+5 * kq q):=Nat.mul_le_mul (by omega) (Nat.le_refl _)
 generalize kq q=k at h1 h2 h3 ⊢
 have hk:k=0\/k=1\/k=2\/k=3\/k=4\/k=5\/k=6\/k=7\/k=8\/k=9\/k=10\/k=11\/k=12:=by omega
 rcases hk with rfl | rfl | rfl | rfl | rfl | rfl | rfl | rfl | rfl | rfl | rfl | rfl | rfl <;> omega
theorem a3F{t:List Queue}(ht:JS t)(h8:T8 t):phi (fW t)<=774:=by
 have c:∀v:Int,0<=v/\v<=2->JV (fW t) v=qC (kq (eA t v)) (eA t v):=fun v hv=>by
  have hc:v=0\/v=1\/v=2:=by omega
  have e1:aJ (fW t) v=kY:=by rcases hc with rfl | rfl | rfl <;> rfl
  have e2:fB (fW t).aA v=0:=by rcases hc with rfl | rfl | rfl <;> rfl
  unfold JV jC kW
  rw [e1,e2]
  simp [jK,kY,fW]
 have h12:(eA t 1).length<=12:=by
  unfold eA
  rw [List.getD_eq_getElem?_getD]
  cases e:t[(1:Int).toNat]? with
  | none=>simp
  | some q=>exact(ht.2 q (List.mem_of_getElem? e)).1
 unfold phi
 rw [c 0 (by omega),c 1 (by omega),c 2 (by omega)]
 have a:=q8 h8.1
 have b:=q12 h12
 have d:=q8 h8.2
 omega
end Go.Gv
end
noncomputable section
namespace Go.Gv
theorem tl0{t:List Queue}(ht:JS t):Tl (OQ fun v=>(eA t v).length) (fW t):=by
 have e1:∀v:Int,0<=v/\v<=2->aJ (fW t) v=kY:=fun v hv=>by
  have hc:v=0\/v=1\/v=2:=by omega
  rcases hc with rfl | rfl | rfl <;> rfl
 refine⟨by simp [fW],rfl,?_,fun n=>?_,fun e he=>by simp [fW] at he,fun v hv=>?_⟩
 ·have:OQ (fun v=>bJ (aJ (fW t) v))=OQ (fun _=>0):=UM fun v hv=>by rw [e1 v hv];rfl
  rw [this];rfl
 ·have:OQ (fun v=>bN n (aJ (fW t) v))=OQ (fun _=>0):=UM fun v hv=>by rw [e1 v hv];simp [bN,kY]
  rw [this]
  have:one n (fW t).aI=0:=by
   unfold one
   have:(fW t).aI=0:=rfl
   rw [if_neg (by omega)]
  rw [this];rfl
 ·rw [e1 v hv];exact⟨PY (by simp [kY]),PY (by simp [kY])⟩
theorem X4{s:aD}(hs:mW s){v:Int}(hv:0<=v/\v<=2):aJ s v∈s.aU:=by
 have h3:=hs.2.2.1
 unfold aJ
 rw [List.getD_eq_getElem?_getD,List.getElem?_eq_getElem (show v.toNat < s.aU.length by omega)]
 exact List.getElem_mem _
end Go.Gv
end
noncomputable section
namespace Go.Gv
def uH(h:aE)(s:Int):Int:=ld h.Bytes ((eG s (aW h s)).toNat+4) 4
theorem aUE{h:aE}{x:Int}(hh:jH x)(hc:0<=aW h (x % 32)):XY h x=uH h (x % 32):=by unfold XY uH;rw [if_pos ⟨hh,hc⟩]
theorem aW1{b:List Int}{a:Nat}{n:Int}(h:a+4<=b.length)(hn:0<=n/\n<=4294967295):ld (EI b a n) a 4=n:=by
 have e:∀j,bt (EI b a n) j=if j=a+3 then n % 256 else if j=a+2 then n / 256 % 256 else if j=a+1 then n / 65536 % 256 else if j=a then n / 16777216 else bt b j:=fun j=>by
  unfold EI
  rw [A0 (by simp;omega),A0 (by simp;omega),A0 (by simp;omega),A0 (by omega)]
 rw [ld4 (by rw [M9];exact h),e,e,e,e,if_neg (by omega),if_neg (by omega),if_neg (by omega),if_pos rfl,if_neg (by omega),if_neg (by omega),if_pos rfl,if_neg (by omega),if_pos rfl,if_pos rfl]
 omega
theorem YN{h:aE}{s t:Int}(hc:0<=aW h s)(ht:0<=aW h t)(hn:s≠t):(eG s (aW h s)).toNat+12<=(eG t (aW h t)).toNat\/(eG t (aW h t)).toNat+12<=(eG s (aW h s)).toNat:=by
 obtain⟨p,i,p6,hi,es,ec,eo,ep⟩:=sZ hc
 obtain⟨q,j,q6,hj,fs,fc,fo,fp⟩:=sZ ht
 have room:∀c (i:Nat),i < (bY c).toNat->8+i * (aT c).toNat+12<=64:=fun c i h=>by
  have hcl:0<=c/\c<=2:=g9.1 (by omega)
  rcases fU hcl with rfl | rfl | rfl
  ·rw [show(bY 0).toNat=4 from rfl] at h;rw [show(aT 0).toNat=12 from rfl];omega
  ·rw [show(bY 1).toNat=2 from rfl] at h;rw [show(aT 1).toNat=20 from rfl];omega
  ·rw [show(bY 2).toNat=1 from rfl] at h;rw [show(aT 2).toNat=44 from rfl];omega
 have r1:=room _ _ hi
 have r2:=room _ _ hj
 rw [eo,fo]
 by_cases e:p=q
 ·subst e
  have hij:i≠j:=fun e=>hn (by omega)
  have hcl:0<=bV h p/\bV h p<=2:=g9.1 (by omega)
  generalize bV h p=c at hi hj hcl
  rcases fU hcl with rfl | rfl | rfl
  ·rw [show(aT 0).toNat=12 from rfl];omega
  ·rw [show(aT 1).toNat=20 from rfl];omega
  ·rw [show(bY 2).toNat=1 from rfl] at hi hj;omega
 ·have:p < q\/q < p:=by omega
  omega
theorem RW{h:aE}{s:Int}(hc:0<=aW h s):(eG s (aW h s)).toNat+8<=384:=(aTV hc).1
theorem aW2{h:aE}(h384:h.Bytes.length=384){s t n:Int}(hc:0<=aW h s)(ht:0<=aW h t):uH ⟨XT h.Bytes (eG s (aW h s)).toNat n,h.Class⟩ t=uH h t:=by
 have e1:=RW hc
 have e2:=RW ht
 show ld (XT h.Bytes (eG s (aW h s)).toNat n) ((eG t (aW h t)).toNat+4) 4=ld h.Bytes ((eG t (aW h t)).toNat+4) 4
 refine IE (by omega) (DL ..) fun j j1 j2=>?_
 by_cases e:s=t
 ·subst e
  rw [v8 (by omega),if_neg (by omega),if_neg (by omega)]
 ·have:=YN hc ht e
  rw [v8 (by omega),if_neg (by omega),if_neg (by omega)]
theorem aUF{h:aE}(h384:h.Bytes.length=384){s t n:Int}(hn:0<=n/\n<=4294967295)(hc:0<=aW h s)(ht:0<=aW h t):uH ⟨EI h.Bytes ((eG s (aW h s)).toNat+4) n,h.Class⟩ t=if t=s then n else uH h t:=by
 have e1:=RW hc
 have e2:=RW ht
 show ld (EI h.Bytes ((eG s (aW h s)).toNat+4) n) ((eG t (aW h t)).toNat+4) 4=if t=s then n else ld h.Bytes ((eG t (aW h t)).toNat+4) 4
 by_cases e:t=s
 ·subst e
  rw [if_pos rfl,aW1 (by omega) hn]
 ·rw [if_neg e]
  have:=YN hc ht (fun q=>e q.symm)
  exact IE (by omega) (M9 ..) fun j j1 j2=>V4 (by omega) (by omega)
theorem aW3{h:aE}(hh:TL h){s:Int}(hc:0<=aW h s):1<=iG h s/\iG h s<=7:=by
 obtain⟨p,i,p6,hi,es,ec,eo,ep⟩:=sZ hc
 have hold:=(JQ hh.1 p6).1 (hh.2 p p6)
 have hcl:0<=bV h p/\bV h p<=2:=g9.1 (by omega)
 unfold XV at hold
 rw [if_neg (by omega)] at hold
 unfold iG
 rw [eo]
 exact hold.2.2 i hi
theorem aUG{m:Mem}(hm:mI m){w h:Int}(hv:hC m h){t:Int}(ht:0<=aW m.aE t):uH (DQ m w h).aE t=uH m.aE t:=by
 have hcl:=hJ hv.2.1
 have hh:(DQ m w h).aE=⟨XT m.aE.Bytes (eG (h % 32) (aW m.aE (h % 32))).toNat (h / 32+1),m.aE.Class⟩:=by
  unfold DQ;simp only [apply_ite Mem.aE,ite_self]
 rw [hh]
 exact aW2 hm.1.1.1.1 hcl ht
structure aZ0 (m m':Mem) (x n:Int):Prop where
 state:∀t,dW m' t=dW m t
 gen:∀t,0<=aW m.aE t->iG m'.aE t=iG m.aE t
 dat:∀t,0<=aW m.aE t->uH m'.aE t=if t=x then n else uH m.aE t
theorem aKU{m:Mem}(hm:mI m){h n:Int}(hv:hC m h)(hn:0<=n/\n<=65535):(wB m h n).2=0/\aZ0 m (wB m h n).1 (h % 32) n:=by
 have hcl:=hJ hv.2.1
 unfold wB
 rw [if_pos hv]
 obtain⟨_,hg⟩:=TL.put hm.1.1 hcl (n:=n) ⟨hn.1,by omega⟩
 refine⟨rfl,fun t=>?_,hg,fun t ht=>aUF hm.1.1.1.1 ⟨hn.1,by omega⟩ hcl ht⟩
 by_cases q:0<=aW m.aE t
 ·exact V3 rfl (hg t q) Iff.rfl
 ·unfold dW
  have c:aW m.aE t < 0:=by omega
  exact(if_pos (show aW _ t < 0 from c)).trans (if_pos c).symm
structure aMQ (m m':Mem) (x:Int):Prop where
 was:dW m x≠3
 now:dW m' x=3
 gen:1<=iG m'.aE x/\iG m'.aE x<=6
 rest:∀t,t≠x->(dW m' t=3↔dW m t=3)
 same:∀t,dW m t=3->iG m'.aE t=iG m.aE t/\uH m'.aE t=uH m.aE t
theorem aG3{m:Mem}(hm:mI m){ls:aC}{x:Int}(h1:∀t,t∈c9 m.aC↔t∈c9 ls\/t=x)(h2:x∉c9 ls):aMQ m ⟨m.aE,ls⟩ x:=by
 have hx:x∈c9 m.aC:=(h1 x).2 (.inr rfl)
 obtain⟨a,b⟩:=mI.oZ hm hx
 refine⟨fun q=>(gU.1 q).2.1 hx,gU.2 ⟨a,h2,b⟩,⟨(aW3 hm.1.1 a).1,b⟩,fun t ht=>?_,fun t _=>⟨rfl,rfl⟩⟩
 rw [gU,gU]
 have:t∈c9 m.aC↔t∈c9 ls:=by rw [h1];exact⟨fun q=>q.elim id fun q=>absurd q ht,.inl⟩
 simp only [this]
theorem aP3{l:List Int}(h:l≠[]):l=(JU l).1 ++ [(JU l).2]:=by
 unfold JU
 rcases List.eq_nil_or_concat l with rfl | ⟨L,b,rfl⟩
 ·exact absurd rfl h
 ·simp
theorem aKV{l:List aP}{k:Nat}(hk:k < l.length)(h:dS l k≠[]):∃A B,cS l=A++((JU (dS l k)).2 :: B)/\cS (l.set k ⟨(JU (dS l k)).1⟩)=A++B:=by
 have e:=aP3 h
 refine⟨cS (l.take k)++(JU (dS l k)).1,cS (l.drop (k+1)),?_,?_⟩
 ·rw [BD hk,dN hk]
  conv=>lhs;rw [e]
  simp
 ·rw [EH hk];simp
theorem aKW{l:List aP}{k:Nat}(hk:k < l.length)(h:dS l k=[]):l.set k ⟨(JU (dS l k)).1⟩=l/\(JU (dS l k)).2 = -1:=by
 rw [h]
 refine⟨?_,rfl⟩
 have e:(⟨(JU []).1⟩:aP)=l[k]:=by
  have:=dN hk
  rw [h] at this
  cases hl:l[k] with
  | mk s=>rw [hl] at this;simp only at this;subst this;rfl
 rw [e,List.set_getElem_self]
theorem aIS{m:Mem}(hm:mI m){w c:Int}(hw:0<=w/\w<=2)(hc:0<=c/\c<=2):(DO m w c=(m,-1))\/0<=(DO m w c).2/\aMQ m (DO m w c).1 (DO m w c).2:=by
 obtain⟨hcnt,h3,h9,_⟩:=mI.facts hm
 have hk:(w * 3+c).toNat < m.aC.cL.length:=by omega
 unfold DO
 by_cases q:dS m.aC.cL (w * 3+c).toNat=[]
 ·left
  obtain⟨a,b⟩:=aKW hk q
  rw [a,b]
 ·right
  obtain⟨A,B,e1,e2⟩:=aKV hk q
  have nd:=hm.1.2.2.2.2.2
  have rg:=hm.1.2.2.2.2.1
  unfold c9 at nd rg
  rw [e1] at nd rg
  refine⟨(rg _ (by simp)).1,aG3 hm (fun t=>?_) ?_⟩
  ·unfold c9;simp only;rw [e1,e2];simp only [List.mem_append,List.mem_cons]
   constructor
   ·rintro(h | h | h | h)
    ·exact .inl (.inl h)
    ·exact .inl (.inr (.inl h))
    ·exact .inr h
    ·exact .inl (.inr (.inr h))
   ·rintro((h | h | h) | h)
    ·exact .inl h
    ·exact .inr (.inl h)
    ·exact .inr (.inr (.inr h))
    ·exact .inr (.inr (.inl h))
  ·unfold c9;simp only;rw [e2]
   have:(cS m.aC.Global++(A++(JU (dS m.aC.cL (w * 3+c).toNat)).2 :: B)).Perm ((JU (dS m.aC.cL (w * 3+c).toNat)).2 :: (cS m.aC.Global++(A++B))):=by
    rw [<-List.append_assoc,<-List.append_assoc];exact List.perm_middle
   exact(List.nodup_cons.1 (this.nodup_iff.1 nd)).1
theorem aFW{m:Mem}(hm:mI m){c:Int}(hc:0<=c/\c<=2):(tK m c=(m,-1))\/0<=(tK m c).2/\aMQ m (tK m c).1 (tK m c).2:=by
 obtain⟨hcnt,h3,h9,_⟩:=mI.facts hm
 have hk:c.toNat < m.aC.Global.length:=by omega
 unfold tK
 by_cases q:dS m.aC.Global c.toNat=[]
 ·left
  obtain⟨a,b⟩:=aKW hk q
  rw [a,b]
 ·right
  obtain⟨A,B,e1,e2⟩:=aKV hk q
  have nd:=hm.1.2.2.2.2.2
  have rg:=hm.1.2.2.2.2.1
  unfold c9 at nd rg
  rw [e1] at nd rg
  refine⟨(rg _ (by simp)).1,aG3 hm (fun t=>?_) ?_⟩
  ·unfold c9;simp only;rw [e1,e2];simp only [List.mem_append,List.mem_cons]
   constructor
   ·rintro((h | h | h) | h)
    ·exact .inl (.inl (.inl h))
    ·exact .inr h
    ·exact .inl (.inl (.inr h))
    ·exact .inl (.inr h)
   ·rintro(((h | h) | h) | h)
    ·exact .inl (.inl h)
    ·exact .inl (.inr (.inr h))
    ·exact .inr h
    ·exact .inl (.inr (.inl h))
  ·unfold c9;simp only;rw [e2]
   have:(A++(JU (dS m.aC.Global c.toNat)).2 :: B++cS m.aC.cL).Perm ((JU (dS m.aC.Global c.toNat)).2 :: (A++B++cS m.aC.cL)):=by
    rw [List.append_assoc,List.append_assoc,List.cons_append];exact List.perm_middle
   exact(List.nodup_cons.1 (this.nodup_iff.1 nd)).1
theorem aMR{m:Mem}(hm:mI m){c:Int}(hc:0<=c/\c<=2):(GY m c=(m,-1))\/0<=(GY m c).2/\aMQ m (GY m c).1 (GY m c).2:=by
 obtain⟨hcnt,h3,h9,h1,_⟩:=mI.facts hm
 have hs:=hm.1.1.1
 unfold GY
 by_cases q:WB m.aE=6
 ·left;rw [if_pos q]
 right
 rw [if_neg q]
 obtain⟨hp,hun⟩:=aTO hs q
 generalize WB m.aE=p at hp hun
 obtain⟨a,b,d,e⟩:=TL.aX1 hm.1.1 hp (by omega) hc
 have hpp:0 < bY c:=g9.2 hc
 have hp4:=mE c
 have hk:c.toNat < m.aC.Global.length:=by omega
 have hcons:gS p (bY c).toNat=(p:Int) * 4 :: (gS p (bY c).toNat).drop 1:=by
  have:0 < (gS p (bY c).toNat).length:=by rw [JO];omega
  have h0:=List.drop_eq_getElem_cons this
  rw [List.drop_zero] at h0
  have e0:(gS p (bY c).toNat)[0]=(p:Int) * 4:=by simp [gS]
  rw [e0] at h0;exact h0
 have hnd:=aJ7 p (bY c).toNat
 rw [hcons,List.nodup_cons] at hnd
 have hxs:∀t,t∈(gS p (bY c).toNat).drop 1↔∃i,i < (bY c).toNat/\t=(p:Int) * 4+(i:Nat)/\i≠0:=fun t=>by
  constructor
  ·intro h
   obtain⟨i,hi,rfl⟩:=aTI (List.mem_of_mem_drop h)
   refine⟨i,hi,rfl,fun z=>hnd.1 ?_⟩
   subst z;simpa using h
  ·rintro⟨i,hi,rfl,i0⟩
   have hmem:(p:Int) * 4+(i:Nat)∈gS p (bY c).toNat:=by simp only [gS,List.mem_map,List.mem_range];exact⟨i,hi,rfl⟩
   rw [hcons] at hmem
   rcases List.mem_cons.1 hmem with h | h
   ·omega
   ·exact h
 generalize (gS p (bY c).toNat).drop 1=xs at hnd hxs
 have hmem:∀t,t∈c9 ⟨m.aC.Global.set c.toNat ⟨dS m.aC.Global c.toNat++xs⟩,m.aC.cL⟩↔t∈c9 m.aC\/t∈xs:=fun t=>by
  unfold c9;rw [<-dN hk];simp only [List.mem_append,DM hk];rw [or_right_comm]
 have hno:∀i,i < (bY c).toNat->¬0<=aW m.aE ((p:Int) * 4+(i:Nat)):=fun i hi z=>(d _ z).1 (by omega)
 have e0:=e 0 (by omega)
 rw [show(p:Int) * 4+((0:Nat):Int)=(p:Int) * 4 by omega] at e0
 have hno0:=hno 0 (by omega)
 rw [show(p:Int) * 4+((0:Nat):Int)=(p:Int) * 4 by omega] at hno0
 have bts:=fun j=>(aTG hm.1.1.1.1 hp hc (bY c).toNat (by omega) j).1
 have hbl:=JN m.aE.Bytes p c (bY c).toNat
 refine⟨by simp only;omega,fun z=>hno0 (gU.1 z).1,gU.2 ⟨by simp only [e0.1];exact hc.1,fun z=>?_,by simp only [e0.2];omega⟩,by simp only [e0.2];omega,fun t ht=>?_,fun t ht=>?_⟩
 ·rcases(hmem _).1 z with y | y
  ·exact hno0 (mI.oZ hm y).1
  ·exact hnd.1 y
 ·rw [gU,gU]
  simp only at ht
  by_cases z:0<=aW m.aE t
  ·obtain⟨z1,z2⟩:=d t z
   have zx:t∉xs:=fun y=>by obtain⟨i,hi,rfl,_⟩:=(hxs t).1 y;exact hno i hi z
   have:t∈c9 (⟨m.aC.Global.set c.toNat ⟨dS m.aC.Global c.toNat++xs⟩,m.aC.cL⟩:aC)↔t∈c9 m.aC:=by rw [hmem];exact⟨fun y=>y.elim id fun y=>absurd y zx,.inl⟩
   simp only [this,b t z1,z2]
  ·refine⟨fun y=>?_,fun y=>absurd y.1 z⟩
   exfalso
   obtain⟨y1,y2,y3⟩:=y
   by_cases zp:(t / 4).toNat=p
   ·obtain⟨r1,r2,r3⟩:=pR y1
    rw [zp,RO hs hp,if_pos rfl] at r2
    exact y2 ((hmem t).2 (.inr ((hxs t).2 ⟨(t % 4).toNat,by omega,by omega,by omega⟩)))
   ·simp only at y1
    rw [b t zp] at y1;exact z y1
 ·have ht':=gU.1 ht
  obtain⟨z1,z2⟩:=d t ht'.1
  refine⟨z2,?_⟩
  obtain⟨p',i',p6',hi',es',ec',eo',ep'⟩:=sZ ht'.1
  have hend:=RW ht'.1
  have hz':=tJ hs p6' rfl hi'
  have room:8+i' * (aT (bV m.aE p')).toNat+8<=64:=by
   have hcl:0<=bV m.aE p'/\bV m.aE p'<=2:=g9.1 (by omega)
   generalize bV m.aE p'=c' at hi' hcl
   rcases fU hcl with rfl | rfl | rfl
   ·rw [show(bY 0).toNat=4 from rfl] at hi';rw [show(aT 0).toNat=12 from rfl];omega
   ·rw [show(bY 1).toNat=2 from rfl] at hi';rw [show(aT 1).toNat=20 from rfl];omega
   ·rw [show(bY 2).toNat=1 from rfl] at hi';rw [show(aT 2).toNat=44 from rfl];omega
  unfold uH
  simp only
  rw [b t z1]
  exact IE (by omega) hbl fun j j1 j2=>bts j (by omega)
structure aUH (b:aA) (r:aA×Sub) (s:Sub):Prop where
 clock:r.1.aB=b.aB
 a3W:r.1.aL=b.aL
 haz:r.1.iS=b.iS
 two:r.1.Mem=b.Mem/\(r.2.cO=true/\r.2.Code≠0\/r.2.cO=false/\r.2.Kind=1/\0<=r.2.Pc/\r.2.Pc<=3) \/
  r.2.cO=true/\r.2.Code=0/\jH r.2.Out/\hC r.1.Mem r.2.Out/\aMQ b.Mem r.1.Mem (r.2.Out % 32)
theorem aW4{b:aA}(hm:mI b.Mem){w:Int}(hw:0<=w/\w<=2){s:Sub}(hk:s.Kind=1)(hd:s.cO=false)(hp:0<=s.Pc/\s.Pc<=3):aUH b (eF b w s) s:=by
 have hr:=aDR s.A
 have e:eF b w s=EJ b w s:=by unfold eF;simp [hk,hd]
 rw [e]
 have fin:∀p:Mem×Int,(p=(b.Mem,-1)\/0<=p.2/\aMQ b.Mem p.1 p.2)->aUH b (xS b s p) s:=fun p h=>by
  unfold xS
  rcases h with rfl | ⟨h0,h1⟩
  ·rw [if_neg (by simp)]
   split
   ·exact⟨rfl,rfl,rfl,.inl ⟨rfl,.inl ⟨rfl,by simp [o7]⟩⟩⟩
   ·exact⟨rfl,rfl,rfl,.inl ⟨rfl,.inr ⟨hd,hk,by simp only;omega,by simp only;omega⟩⟩⟩
  ·rw [if_pos h0]
   have h23:=(pR (gU.1 h1.now).1).1
   have eh:aME p.1 p.2=iG p.1.aE p.2 * 32+p.2:=if_pos h1.gen
   have hg:=h1.gen
   have e1:aME p.1 p.2 % 32=p.2:=by omega
   have e2:aME p.1 p.2 / 32=iG p.1.aE p.2:=by omega
   have hn:jH (aME p.1 p.2):=by unfold jH;omega
   refine⟨rfl,rfl,rfl,.inr ⟨rfl,rfl,hn,⟨hn,?_,?_⟩,?_⟩⟩
   ·simp only [o7];rw [e1];exact h1.now
   ·simp only [o7];rw [e1,e2]
   ·simp only [o7];rw [e1];exact h1
 unfold EJ
 by_cases c0:xR s.A < 0
 ·rw [if_pos c0]
  exact⟨rfl,rfl,rfl,.inl ⟨rfl,.inl ⟨rfl,by simp [o7]⟩⟩⟩
 rw [if_neg c0]
 have hc:0<=xR s.A/\xR s.A<=2:=by omega
 split
 ·exact fin _ (aIS hm hw hc)
 split
 ·exact fin _ (aFW hm hc)
 split
 ·exact fin _ (aMR hm hc)
 ·omega
end Go.Gv
end
noncomputable section
namespace Go.Gv
def D0(j:bA):Int:=if j.Op.Kind=1 then (if j.Pc=1\/j.Pc=2 then j.H else if j.Pc=3 then j.Old else 0) else 0
def nm(c:List Int)(J:Int->bA)(i:Int):Int:=if i < 2 then cellAt c i else D0 (J (i - 2))
structure Ow (b:aA) (N:Int->Int):Prop where
 live:∀i,0<=i/\i<=4->N i≠0->hC b.Mem (N i)/\¬BI b.aL (N i % 32)
 once:∀i j,0<=i/\i<=4->0<=j/\j<=4->N i≠0->N i=N j->i=j
 all:∀t,dW b.Mem t=3->¬BI b.aL t->∃i,(0<=i/\i<=4)/\N i≠0/\N i % 32=t
theorem WJ{m:Mem}{h g:Int}(a:hC m h)(b:hC m g)(e:h % 32=g % 32):h=g:=by
 have h1:=a.2.2
 have h2:=b.2.2
 rw [e] at h1
 omega
theorem Ow.perm{b b':aA}{N N':Int->Int}(h:Ow b N)(hm:b'.Mem=b.Mem)(hl:b'.aL=b.aL)(σ:Int->Int)(hr:∀i,0<=i/\i<=4->0<=σ i/\σ i<=4)(hi:∀i,σ (σ i)=i)(he:∀i,0<=i/\i<=4->N' i=N (σ i)):Ow b' N':=by
 refine⟨fun i hi' hn=>?_,fun i j hi' hj' hn e=>?_,fun t ht hh=>?_⟩
 ·rw [he i hi'] at hn ⊢
  rw [hm,hl]
  exact h.live _ (hr i hi') hn
 ·rw [he i hi'] at hn
  rw [he i hi',he j hj'] at e
  have:=h.once _ _ (hr i hi') (hr j hj') hn e
  rw [<-hi i,this,hi]
 ·rw [hm] at ht
  rw [hl] at hh
  obtain⟨i,a,b,c⟩:=h.all t ht hh
  exact⟨σ i,hr i a,by rw [he _ (hr i a),hi];exact b,by rw [he _ (hr i a),hi];exact c⟩
theorem Ow.congr{b b':aA}{N N':Int->Int}(h:Ow b N)(hm:b'.Mem=b.Mem)(hl:b'.aL=b.aL)(he:∀i,0<=i/\i<=4->N' i=N i):Ow b' N':=h.perm hm hl id (fun _ h=>h) (fun _=>rfl) he
noncomputable section
variable {b b':aA} {N N':Int->Int} (h:Ow b N)
include h
theorem Ow.a3G(hb:lY b)(hl:b'.aL=b.aL){H:Int}(ht:aMQ b.Mem b'.Mem (H % 32))(hv:hC b'.Mem H){i:Int}(hi:0<=i/\i<=4)(h0:N i=0)(hN:N' i=H)(ho:∀j,0<=j/\j<=4->j≠i->N' j=N j):Ow b' N':=by
 have nh:¬BI b.aL (H % 32):=fun⟨r,r1,r2,r3⟩=>ht.was (by rw [<-r3];exact(hb.2 r r1).1.2.1)
 have ne:∀j,0<=j/\j<=4->N j≠0->N j % 32≠H % 32:=fun j hj hn e=>ht.was (by rw [<-e];exact(h.live j hj hn).1.2.1)
 have iN:∀g,hC b.Mem g->hC b'.Mem g:=fun g hg=>by
  have e:g % 32≠H % 32:=fun e=>ht.was (by rw [<-e];exact hg.2.1)
  exact⟨hg.1,(ht.rest _ e).2 hg.2.1,by rw [(ht.same _ hg.2.1).1];exact hg.2.2⟩
 refine⟨fun j hj hn=>?_,fun j k hj hk hn e=>?_,fun t hs hh=>?_⟩
 ·by_cases q:j=i
  ·subst q;rw [hN,hl];exact⟨hv,nh⟩
  ·rw [ho j hj q] at hn ⊢
   rw [hl]
   exact⟨iN _ (h.live j hj hn).1,(h.live j hj hn).2⟩
 ·by_cases q:j=i
  ·by_cases q2:k=i
   ·rw [q,q2]
   ·rw [q,hN,ho k hk q2] at e
    exact absurd (by rw [e]) (ne k hk (by rw [<-e];intro z;rw [q,hN] at hn;exact hn z))
  ·by_cases q2:k=i
   ·rw [q2,hN,ho j hj q] at e
    rw [ho j hj q] at hn
    exact absurd (by rw [e]) (ne j hj hn)
   ·rw [ho j hj q] at hn
    rw [ho j hj q,ho k hk q2] at e
    exact h.once j k hj hk hn e
 ·by_cases q:t=H % 32
  ·exact⟨i,hi,by rw [hN];have:=hv.1;unfold jH at this;omega,by rw [hN,q]⟩
  ·rw [hl] at hh
   obtain⟨j,j1,j2,j3⟩:=h.all t ((ht.rest t q).1 hs) hh
   have:j≠i:=fun e=>by rw [e,h0] at j2;exact j2 rfl
   exact⟨j,j1,by rw [ho j j1 this];exact j2,by rw [ho j j1 this];exact j3⟩
theorem Ow.retired(hm:b'.Mem=b.Mem){i:Int}(hi:0<=i/\i<=4)(hn:N i≠0)(hl:∀t,BI b'.aL t↔BI b.aL t\/t=N i % 32)(hN:N' i=0)(ho:∀j,0<=j/\j<=4->j≠i->N' j=N j):Ow b' N':=by
 have hiL:=(h.live i hi hn).1
 refine⟨fun j hj hjn=>?_,fun j k hj hk hjn e=>?_,fun t hs hh=>?_⟩
 ·have q:j≠i:=fun e=>hjn (by rw [e,hN])
  rw [ho j hj q] at hjn ⊢
  rw [hm,hl]
  obtain⟨a,b⟩:=h.live j hj hjn
  refine⟨a,fun z=>z.elim b fun z=>q (h.once j i hj hi hjn (WJ a hiL z))⟩
 ·have q:j≠i:=fun e=>hjn (by rw [e,hN])
  have q2:k≠i:=fun e'=>by rw [e',hN] at e;exact hjn e
  rw [ho j hj q] at hjn
  rw [ho j hj q,ho k hk q2] at e
  exact h.once j k hj hk hjn e
 ·rw [hm] at hs
  rw [hl] at hh
  obtain⟨j,j1,j2,j3⟩:=h.all t hs (fun z=>hh (.inl z))
  have:j≠i:=fun e=>hh (.inr (by rw [<-j3,e]))
  exact⟨j,j1,by rw [ho j j1 this];exact j2,by rw [ho j j1 this];exact j3⟩
theorem Ow.a14{x:Int}(hx:BI b.aL x)(h3:dW b'.Mem x≠3)(hs:∀t,t≠x->dW b'.Mem t=dW b.Mem t)(hg:∀t,t≠x->dW b.Mem t=3->iG b'.Mem.aE t=iG b.Mem.aE t)(hl:∀t,t≠x->(BI b'.aL t↔BI b.aL t))(he:∀i,0<=i/\i<=4->N' i=N i):Ow b' N':=by
 refine⟨fun i hi hn=>?_,fun i j hi hj hn e=>?_,fun t ht hh=>?_⟩
 ·rw [he i hi] at hn ⊢
  obtain⟨a,c⟩:=h.live i hi hn
  have q:N i % 32≠x:=fun e=>c (by rw [e];exact hx)
  exact⟨⟨a.1,by rw [hs _ q];exact a.2.1,by rw [hg _ q a.2.1];exact a.2.2⟩,by rw [hl _ q];exact c⟩
 ·rw [he i hi] at hn
  rw [he i hi,he j hj] at e
  exact h.once i j hi hj hn e
 ·have q:t≠x:=fun e=>h3 (by rw [<-e];exact ht)
  rw [hs t q] at ht
  rw [hl t q] at hh
  obtain⟨i,a,c,d⟩:=h.all t ht hh
  exact⟨i,a,by rw [he i a];exact c,by rw [he i a];exact d⟩
end
def zEw:Ev:=⟨0,0,0,0,0,0,0⟩
def swp(L:List Ev)(k:Int):Ev:=L.foldl (fun a e=>if e.Kind=2/\e.Cell=k then e else a) zEw
theorem aA4(L:List Ev)(e:Ev)(k:Int):swp (L ++ [e]) k=if e.Kind=2/\e.Cell=k then e else swp L k:=by
 unfold swp;rw [List.foldl_append];rfl
def rdS(n:Int)(a:(Int->Ev)×Option (Ev×Ev))(e:Ev):(Int->Ev)×Option (Ev×Ev):=(fun k=>if e.Kind=2/\e.Cell=k then e else a.1 k,if e.Kind=3/\e.aI=n then some (e,a.1 e.Cell) else a.2)
def rdx(L:List Ev)(n:Int):Option (Ev×Ev):=(L.foldl (rdS n) (fun _=>zEw,none)).2
theorem aZ1(L:List Ev)(n:Int)(k:Int):(L.foldl (rdS n) (fun _=>zEw,none)).1 k=swp L k:=by
 have:∀(L:List Ev) a,(L.foldl (rdS n) a).1 k=L.foldl (fun a e=>if e.Kind=2/\e.Cell=k then e else a) (a.1 k):=by
  intro L
  induction L with
  | nil=>intro a;rfl
  | cons e L ih=>intro a;rw [List.foldl_cons,List.foldl_cons,ih];rfl
 exact this L _
theorem WK(L:List Ev)(e:Ev)(n:Int):rdx (L ++ [e]) n=if e.Kind=3/\e.aI=n then some (e,swp L e.Cell) else rdx L n:=by
 unfold rdx
 rw [List.foldl_append,List.foldl_cons,List.foldl_nil]
 show(if e.Kind=3/\e.aI=n then some (e,(L.foldl (rdS n) (fun _=>zEw,none)).1 e.Cell) else _)=_
 rw [aZ1]
theorem aW5{L:List Ev}{n:Int}(h:∀e∈L,e.aI≠n):rdx L n=none:=by
 have:∀(L:List Ev) a,(∀e∈L,e.aI≠n)->(L.foldl (rdS n) a).2=a.2:=by
  intro L
  induction L with
  | nil=>intro a _;rfl
  | cons e L ih =>
   intro a h
   rw [List.foldl_cons,ih _ fun x hx=>h x (List.mem_cons_of_mem _ hx)]
   exact if_neg fun q=>h e (List.mem_cons_self ..) q.2
 exact this L _ h
def Told(o:Option (Ev×Ev))(code val:Int):Prop:=(code=0->∃e x,o=some (e,x)/\x.Handle≠0/\x.Handle=e.Handle/\x.dV=val)/\(code=8->∃e x,o=some (e,x)/\x.Handle=0/\e.Handle=0)
theorem Told.other{o:Option (Ev×Ev)}{code val:Int}(h0:code≠0)(h8:code≠8):Told o code val:=⟨fun q=>absurd q h0,fun q=>absurd q h8⟩
def TrL(L:List Ev):Prop:=∀M e N,L=M++e :: N->e.Kind=4->rdx M e.aI≠none->Told (rdx M e.aI) e.Code e.dV
theorem TrL.snoc{L:List Ev}(h:TrL L){e:Ev}(he:e.Kind=4->rdx L e.aI≠none->Told (rdx L e.aI) e.Code e.dV):TrL (L ++ [e]):=by
 intro M x N hx hk hr
 rcases List.eq_nil_or_concat N with rfl | ⟨N',y,rfl⟩
 ·have:=List.append_inj' hx (by rfl)
  obtain⟨rfl,q⟩:=this
  injection q with q
  subst q
  exact he hk hr
 ·have e1:M++x :: (N'.concat y)=(M++x :: N') ++ [y]:=by simp
  rw [e1] at hx
  have:=List.append_inj' hx (by rfl)
  exact h M x N' this.1 hk hr
def qT(b:aA)(c:List Int)(J:Int->bA)(e H:Int):Prop:=(∃k,(0<=k/\k<=1)/\cellAt c k=H)\/(∃v,(0<=v/\v<=2)/\(J v).Op.Kind=1/\(J v).Pc=3/\(J v).Old=H/\((J v).Sub.Pc=0\/e<=(J v).Sub.E))\/∃r∈bC b.aL,r.Handle=H/\e<=r.aG
def UnJ(j:bA)(v H:Int):Prop:=j.Op.Kind=4->j.Pc=1->j.Sub.H=H->(j.Sub.Pc=2->j.Sub.B<=v)/\j.Sub.Pc≠3
def OR(J:Int->bA)(v H:Int):Prop:=∀a,0<=a/\a<=2->UnJ (J a) v H
def aZ2(b:aA)(old:Int)(s:Sub):Prop:=s.Kind=2/\s.cO=false/\s.A=old/\(s.Pc=0\/s.Pc=1/\0<=s.E/\s.E<=b.aB.aG)
def aZ3(e:Int)(l:List cZ)(s:Sub):Prop:=s.Kind=4/\s.cO=false/\(s.Pc=0\/s.E<=e/\(s.Pc=1/\0<=s.Row\/s.Pc=2/\(0<=s.B/\s.B<=2)/\DR l s/\wA (GD l s.Row) s.E\/s.Pc=3/\DR l s/\wA (GD l s.Row) s.E))
def aUI(j:bA):Prop:=j.Op.Kind=2/\(j.Pc=2\/j.Pc=3)\/j.Op.Kind=7/\(j.Pc=1\/j.Pc=2)
def aD4(j:bA):Prop:=j.Op.Kind=2/\j.Pc=3\/j.Op.Kind=7/\j.Pc=2
def Reads(j:bA):Prop:=j.Op.Kind=2\/j.Op.Kind=3\/j.Op.Kind=7
def Saw(o:Option (Ev×Ev))(H:Int)(x:Ev):Prop:=∃e,o=some (e,x)/\e.Handle=H/\x.Handle=H/\H≠0
def Pinned(c:aB)(v:Int):Prop:=(bQ c v).On=true/\(bQ c v).dC=false
structure Jv (b:aA) (c:List Int) (J:Int->bA) (o:Option (Ev×Ev)) (v:Int) (j:bA):Prop where
 idle:j.cN=false->j.Op.Kind=0
 s0:j.Op.Kind=1->j.Pc=0->j.Sub.Kind=1/\j.Sub.cO=false/\0<=j.Sub.Pc/\j.Sub.Pc<=3
 s1:j.Op.Kind=1->j.Pc=1\/j.Pc=2->j.H≠0
 s2:j.Op.Kind=1->j.Pc=2->uH b.Mem.aE (j.H % 32)=j.Op.dV
 s3:j.Op.Kind=1->j.Pc=3->j.Old≠0/\aZ2 b j.Old j.Sub
 k:j.Op.Kind=4->j.Pc=1->aZ3 b.aB.aG (bE b.aL v) j.Sub
 g:aUI j->Pinned b.aB v->qT b c J (bQ b.aB v).aG j.H/\∃x,Saw o j.H x/\(¬aD4 j->uH b.Mem.aE (j.H % 32)=x.dV)/\(aD4 j->j.dV=x.dV)
 z1:j.Op.Kind=3->j.Pc=1\/j.Pc=2\/j.Pc=3->j.H≠0
 z2:j.Op.Kind=3->j.Pc=2\/j.Pc=3->iL b.iS v=j.H
 z3:j.Op.Kind=3->j.Pc=3->qT b c J 0 j.H/\OR J v j.H/\∃x,Saw o j.H x/\uH b.Mem.aE (j.H % 32)=x.dV
 t:Reads j->j.Pc=9\/j.Pc=4->Told o j.Code j.dV
 n:j.cN=true->¬Reads j->o=none
structure Frm (b b':aA) (c c':List Int) (J J':Int->bA) (v:Int) (j:bA):Prop where
 ep:b.aB.aG<=b'.aB.aG
 rows:bE b'.aL v=bE b.aL v
 pin:Pinned b'.aB v->Pinned b.aB v/\(bQ b'.aB v).aG=(bQ b.aB v).aG
 haz:iL b'.iS v=iL b.iS v
 safe:∀e H,H≠0->e<=b.aB.aG->(b.aB.aG<=e+1\/∃u,(0<=u/\u<=2)/\OR J u H)->qT b c J e H->qT b' c' J' e H
 unp:iL b.iS v=j.H->OR J v j.H->OR J' v j.H
 a18:∀e H,qT b c J e H->H≠0->uH b'.Mem.aE (H % 32)=uH b.Mem.aE (H % 32)
 a3J:D0 j≠0->uH b'.Mem.aE (D0 j % 32)=uH b.Mem.aE (D0 j % 32)
theorem Jv.frame{b b':aA}{c c':List Int}{J J':Int->bA}{o o':Option (Ev×Ev)}{v:Int}{j:bA}(hv:0<=v/\v<=2)(h:Jv b c J o v j)(hc:IC b.aB)(he:aUI j->Pinned b.aB v->b.aB.aG<=(bQ b.aB v).aG+1)
  (f:Frm b b' c c' J J' v j) (ho:j.cN=true->o'=o):Jv b' c' J' o' v j:=by
 have busy:j.Op.Kind≠0->o'=o:=fun q=>ho (by cases hb:j.cN with
  | true=>rfl
  | false=>exact absurd (h.idle hb) q)
 have hpe:=(DP hc hv).1
 refine⟨h.idle,h.s0,h.s1,fun k p=>?_,fun k p=>?_,fun k p=>?_,fun g p=>?_,h.z1,fun k p=>?_,fun k p=>?_,fun r p=>?_,fun bb r=>?_⟩
 ·have e:D0 j=j.H:=by unfold D0;rw [if_pos k,if_pos (.inr p)]
  have:=f.a3J (by rw [e];exact h.s1 k (.inr p))
  rw [e] at this
  rw [this];exact h.s2 k p
 ·obtain⟨a,q1,q2,q3,q4⟩:=h.s3 k p
  exact⟨a,q1,q2,q3,q4.imp id fun z=>⟨z.1,z.2.1,Int.le_trans z.2.2 f.ep⟩⟩
 ·obtain⟨q1,q2,q3⟩:=h.k k p
  rw [f.rows]
  exact⟨q1,q2,q3.imp id fun z=>⟨Int.le_trans z.1 f.ep,z.2⟩⟩
 ·obtain⟨p1,p2⟩:=f.pin p
  obtain⟨s,x,x1,x2,x3⟩:=h.g g p1
  have hk:j.Op.Kind≠0:=by rcases g with g | g <;> omega
  rw [p2,busy hk]
  have h0:=x1.choose_spec.2.2.2
  refine⟨f.safe _ _ h0 hpe.2 (.inl (he g p1)) s,x,x1,fun l=>?_,x3⟩
  rw [f.a18 _ _ s h0];exact x2 l
 ·rw [f.haz];exact h.z2 k p
 ·obtain⟨s,u,x,x1,x2⟩:=h.z3 k p
  rw [busy (by omega)]
  have h0:=x1.choose_spec.2.2.2
  refine⟨f.safe _ _ h0 hc.1.1 (.inr ⟨v,hv,u⟩) s,f.unp (h.z2 k (.inr p)) u,x,x1,?_⟩
  rw [f.a18 _ _ s h0];exact x2
 ·rw [busy (by unfold Reads at r;omega)];exact h.t r p
 ·rw [ho bb];exact h.n bb r
structure Sv (b:aA) (c:List Int) (J:Int->bA) (L:List Ev) (n:Int):Prop where
 ow:Ow b (nm c J)
 cv:∀k,0<=k/\k<=1->(swp L k).Handle=cellAt c k/\(cellAt c k≠0->uH b.Mem.aE (cellAt c k % 32)=(swp L k).dV)
 jv:∀v,0<=v/\v<=2->Jv b c J (rdx L (J v).aI) v (J v)
 tr:TrL L
 se:(∀e∈L,e.aI<=n)/\(∀v,0<=v/\v<=2->(J v).cN=true->(J v).aI<=n)/\∀v u,0<=v/\v<=2->0<=u/\u<=2->(J v).cN=true->(J u).cN=true->v≠u->(J v).aI≠(J u).aI
theorem kK(c:List Int)(J:Int->bA){k:Int}(hk:0<=k/\k<=1):nm c J k=cellAt c k:=by unfold nm;rw [if_pos (by omega)]
theorem fI(c:List Int)(J:Int->bA){v:Int}(hv:0<=v/\v<=2):nm c J (v+2)=D0 (J v):=by unfold nm;rw [if_neg (by omega)];congr 2;omega
theorem aD5{i:Int}(hi:0<=i/\i<=4):(0<=i/\i<=1)\/∃v,(0<=v/\v<=2)/\i=v+2:=by
 by_cases h:i<=1
 ·exact .inl ⟨hi.1,h⟩
 ·exact .inr ⟨i - 2,by omega,by omega⟩
theorem aOJ{l:List aY}{r:cZ}(hr:r∈bC l)(hh:jH r.Handle):BI l (r.Handle % 32):=⟨r,hr,hh,rfl⟩
theorem qT.live{b:aA}{c:List Int}{J:Int->bA}(hb:lY b)(ho:Ow b (nm c J)){e H:Int}(h:qT b c J e H)(h0:H≠0):hC b.Mem H:=by
 rcases h with ⟨k,hk,q⟩ | ⟨v,hv,k1,p3,q,_⟩ | ⟨r,hr,q,_⟩
 ·have:=ho.live k (by omega) (by rw [kK c J hk,q];exact h0)
  rw [kK c J hk,q] at this;exact this.1
 ·have en:D0 (J v)=H:=by unfold D0;rw [if_pos k1,if_neg (by omega),if_pos p3,q]
  have:=ho.live (v+2) (by omega) (by rw [fI c J hv,en];exact h0)
  rw [fI c J hv,en] at this;exact this.1
 ·rw [<-q];exact(hb.2 r hr).1
theorem qT.apart{b:aA}{c:List Int}{J:Int->bA}(hb:lY b)(ho:Ow b (nm c J)){e H:Int}(h:qT b c J e H)(h0:H≠0){w:Int}(hw:0<=w/\w<=2)(hk:(J w).Op.Kind=1)(hp:(J w).Pc=1\/(J w).Pc=2)(hn:(J w).H≠0):H % 32≠(J w).H % 32:=by
 intro z
 have ew:D0 (J w)=(J w).H:=by unfold D0;rw [if_pos hk,if_pos hp]
 have lw:=ho.live (w+2) (by omega) (by rw [fI c J hw,ew];exact hn)
 rw [fI c J hw,ew] at lw
 have e2:=WJ (h.live hb ho h0) lw.1 z
 rcases h with ⟨k,hk',q⟩ | ⟨v,hv,k1,p3,q,_⟩ | ⟨r,hr,q,_⟩
 ·have:=ho.once k (w+2) (by omega) (by omega) (by rw [kK c J hk',q];exact h0) (by rw [kK c J hk',q,fI c J hw,ew,e2])
  omega
 ·have en:D0 (J v)=H:=by unfold D0;rw [if_pos k1,if_neg (by omega),if_pos p3,q]
  have:=ho.once (v+2) (w+2) (by omega) (by omega) (by rw [fI c J hv,en];exact h0) (by rw [fI c J hv,en,fI c J hw,ew,e2])
  have:v=w:=by omega
  subst this;omega
 ·apply lw.2
  rw [<-z,<-q]
  exact aOJ hr (hb.2 r hr).1.1
end Go.Gv
end
