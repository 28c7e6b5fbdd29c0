import Derived.Test.YtbdmodalljibjaaGreatXMD
set_option linter.unusedVariables false
set_option linter.unusedSimpArgs false
set_option linter.unusedSectionVars false
set_option linter.constructorNameAsVariable false
set_option linter.unnecessarySimpa false
noncomputable section
set_option linter.unusedVariables false
set_option linter.unusedSimpArgs false
set_option linter.unusedSectionVars false
namespace Go.Gv
def dF(h:aC)(p:Nat):List Int:=(h.Bytes.drop (p * 64)).take 64
def bO(h:aC)(p:Nat):Int:=h.Class.getD p 0
def kV(h:aC)(p:Nat):Prop:=
  if bO h p < 0 then ∀x∈dF h p,x=0
  else ((dF h p).getD 0 0=171∧(dF h p).getD 1 0=bO h p∧(dF h p).getD 2 0=bY (bO h p))∧(∀x∈((dF h p).drop 3).take 5,x=0)∧∀i,i < (bY (bO h p)).toNat→1≤ld h.Bytes (p * 64+8+i * (aS (bO h p)).toNat) 4∧ld h.Bytes (p * 64+8+i * (aS (bO h p)).toNat) 4≤7
instance (h:aC) (p:Nat):Decidable (kV h p):=by unfold kV;infer_instance
noncomputable section
variable {h:aC} (hs:d7 h) {p:Nat} (hp:p < 6)
include hs hp
theorem EF:(dF h p).length=64:=aF3 (by have:=hs.1;omega)
theorem MJ{k:Nat}(hk:k < 64):h.Bytes[p * 64+k]'(by have:=hs.1;omega)=(dF h p)[k]'(by rw [EF hs hp];exact hk):=(W5 (show k < ((h.Bytes.drop (p * 64)).take 64).length by have:=EF hs hp;unfold dF at this;omega) _).symm
theorem aAG{k:Nat}(hk:k < 64):h.Bytes[p * 64+k]'(by have:=hs.1;omega)=(dF h p).getD k 0:=by
  rw [MJ hs hp hk,List.getD_eq_getElem?_getD,List.getElem?_eq_getElem (by rw [EF hs hp];exact hk)];rfl
theorem NG:h.Class[p]'(by have:=hs.2.1;omega)=bO h p:=by
  unfold bO
  rw [List.getD_eq_getElem?_getD,List.getElem?_eq_getElem (by have:=hs.2.1;omega)];rfl
theorem U5:idx h.Class (p:Int)=some (bO h p):=by rw [aT (by have:=hs.2.1;omega),NG hs hp]
theorem W6{k:Nat}(hk:k < 64):idx h.Bytes (((p * 64+k:Nat)):Int)=some ((dF h p).getD k 0):=by
  rw [aT (by have:=hs.1;omega),aAG hs hp hk]
theorem aIV:qC (dF h p):=aBW hs.2.2.1 _ _
theorem sY{c:Int}(hc:bO h p=c){i:Nat}(hi:i < (bY c).toNat):(8+i * (aS c).toNat)+4≤64∧0≤(i:Int) * aS c∧((8+i * (aS c).toNat:Nat):Int)=8+(i:Int) * aS c:=by
  have h1:(i:Int) < bY c:=by omega
  have hc2:0≤c∧c≤2:=iX.1 (by omega)
  rcases fA hc2 with rfl | rfl | rfl
  · have e:aS 0=12:=rfl
    have g:(12:Int).toNat=12:=rfl
    have f:(bY 0).toNat=4:=rfl
    rw [e,g];rw [f] at hi;omega
  · have e:aS 1=20:=rfl
    have g:(20:Int).toNat=20:=rfl
    have f:(bY 1).toNat=2:=rfl
    rw [e,g];rw [f] at hi;omega
  · have e:aS 2=44:=rfl
    have g:(44:Int).toNat=44:=rfl
    have f:(bY 2).toNat=1:=rfl
    rw [e,g];rw [f] at hi;omega
theorem aMH{i:Nat}(hi:i < (bY (bO h p)).toNat):eI ((p:Int) * 4+i) (bO h p)=((p * 64+(8+i * (aS (bO h p)).toNat):Nat):Int):=by
  have hz:=sY hs hp rfl hi
  have hle:=kY (bO h p)
  unfold eI
  rw [if_pos (by omega)]
  have e1:((p:Int) * 4+i) / 4=p:=by omega
  have e2:((p:Int) * 4+i) % 4=i:=by omega
  rw [e1,e2]
  omega
theorem MK:FA h (p:Int)=some (decide (kV h p)):=by
  have hb:=hs.1
  have hl:=EF hs hp
  have e0:aZ ((p:Int) * 64)=((p * 64+0:Nat):Int):=by rw [aK (by omega) (by omega)];omega
  have e1:aZ (((p * 64+0:Nat):Int)+1)=((p * 64+1:Nat):Int):=by rw [aK (by omega) (by omega)];omega
  have e2:aZ (((p * 64+0:Nat):Int)+2)=((p * 64+2:Nat):Int):=by rw [aK (by omega) (by omega)];omega
  have e3:aZ (((p * 64+0:Nat):Int)+3)=((p * 64+3:Nat):Int):=by rw [aK (by omega) (by omega)];omega
  have e8:aZ (((p * 64+0:Nat):Int)+8)=((p * 64+8:Nat):Int):=by rw [aK (by omega) (by omega)];omega
  have e64:aZ (((p * 64+0:Nat):Int)+64)=((p * 64+64:Nat):Int):=by rw [aK (by omega) (by omega)];omega
  unfold FA
  rw [U5 hs hp]
  simp only [Option.bind_some]
  by_cases hc:bO h p < 0
  · simp only [hc,decide_true,if_true,e0]
    have key:loop (mU h (p:Int)) (((p * 64+0:Nat)):Int)=some (if ∀x∈dF h p,x=0 then Out.brk () else Out.ret false):=by
      refine iJ (f:=mU h (p:Int)) (dF h p) (fun k=>((p * 64+k:Nat):Int)) (fun x=>x=0) _ _ (fun k hk hx=>?_) (fun k hk hx=>?_) ?_
      · simp only [mU,e0,e64]
        rw [if_pos (by simp;omega),aT (by omega),MJ hs hp (by omega),aK (by omega) (by omega)]
        simp only [Option.bind_some,hx];simp;omega
      · simp only [mU,e0,e64]
        rw [if_pos (by simp;omega),aT (by omega),MJ hs hp (by omega)]
        have hx':((dF h p)[k] != 0)=true:=by simpa using hx
        simp only [Option.bind_some,hx',if_true]
      · simp only [mU,e0,e64,hl]
        rw [if_neg (by simp)]
    rw [key]
    have hP:kV h p↔∀x∈dF h p,x=0:=by unfold kV;rw [if_pos hc]
    by_cases h4:∀x∈dF h p,x=0
    · rw [if_pos h4,decide_eq_true (hP.2 h4)];rfl
    · rw [if_neg h4,decide_eq_false (fun q=>h4 (hP.1 q))];rfl
  · have hP:kV h p↔((dF h p).getD 0 0=171∧(dF h p).getD 1 0=bO h p∧(dF h p).getD 2 0=bY (bO h p))∧(∀x∈((dF h p).drop 3).take 5,x=0)∧∀i,i < (bY (bO h p)).toNat→1≤ld h.Bytes (p * 64+8+i * (aS (bO h p)).toNat) 4∧ld h.Bytes (p * 64+8+i * (aS (bO h p)).toNat) 4≤7:=by unfold kV;rw [if_neg hc]
    simp only [hc,decide_false,Bool.false_eq_true,if_false,e0,e1,e2,W6 hs hp (show 0 < 64 by omega),W6 hs hp (show 1 < 64 by omega),W6 hs hp (show 2 < 64 by omega),Option.bind_some,fK]
    by_cases a0:(dF h p).getD 0 0=171
    · by_cases a1:(dF h p).getD 1 0=bO h p
      · by_cases a2:(dF h p).getD 2 0=bY (bO h p)
        · have n0:((dF h p).getD 0 0 != 171)=false:=by simp only [bne_eq_false_iff_eq];exact a0
          have n1:((dF h p).getD 1 0 != bO h p)=false:=by simp only [bne_eq_false_iff_eq];exact a1
          have n2:((dF h p).getD 2 0 != bY (bO h p))=false:=by simp only [bne_eq_false_iff_eq];exact a2
          simp only [n0,n1,n2,Bool.false_eq_true,if_false,iT,e0,e3]
          have hl5:(((dF h p).drop 3).take 5).length=5:=by simp [hl]
          have key:loop (mW h (p:Int)) (((p * 64+3:Nat)):Int)=some (if ∀x∈((dF h p).drop 3).take 5,x=0 then Out.brk () else Out.ret false):=by
            refine iJ (f:=mW h (p:Int)) (((dF h p).drop 3).take 5) (fun k=>((p * 64+(3+k):Nat):Int)) (fun x=>x=0) _ _ (fun k hk hx=>?_) (fun k hk hx=>?_) ?_
            · simp only [mW,e0,e8]
              rw [if_pos (by simp;omega),aT (by omega),MJ hs hp (by omega),aK (by omega) (by omega),←W5 hk (by omega),hx]
              simp;omega
            · simp only [mW,e0,e8]
              rw [if_pos (by simp;omega),aT (by omega),MJ hs hp (by omega),←W5 hk (by omega)]
              have hx':((((dF h p).drop 3).take 5)[k] != 0)=true:=by simp only [bne_iff_ne];exact hx
              simp only [Option.bind_some,hx',if_true]
            · simp only [mW,e0,e8,hl5]
              rw [if_neg (by simp)]
          rw [key]
          by_cases h4:∀x∈((dF h p).drop 3).take 5,x=0
          · rw [if_pos h4]
            simp only [Option.bind_some,LI,LH]
            have key2:loop (mV h (p:Int) (bO h p)) 0=some (if ∀i,i < (bY (bO h p)).toNat→1≤ld h.Bytes (p * 64+8+i * (aS (bO h p)).toNat) 4∧ld h.Bytes (p * 64+8+i * (aS (bO h p)).toNat) 4≤7 then Out.brk () else Out.ret false):=by
              have hle:=kY (bO h p)
              have hst:∀k:Nat,k < (bY (bO h p)).toNat→mV h (p:Int) (bO h p) (k:Int)=if 1≤ld h.Bytes (p * 64+8+k * (aS (bO h p)).toNat) 4∧ld h.Bytes (p * 64+8+k * (aS (bO h p)).toNat) 4≤7 then some (.next ((k+1:Nat):Int)) else some (.stop (Out.ret false)):=by
                intro k hk
                have hz:=sY hs hp rfl hk
                have s1:nQ (p:Int) (k:Int)=some ((p:Int) * 4+k):=by
                  unfold nQ qJ
                  rw [bQ,bQ]
                  have g1:(0:Int)≤p∧(p:Int)≤5:=by omega
                  have g2:(0:Int)≤k∧(k:Int)≤3:=by omega
                  simp only [Option.bind_some,g1,g2,and_self,decide_true,Bool.not_true,Bool.false_eq_true,if_false]
                  rw [aK (x:=(p:Int) * 4) (by omega) (by omega),aK (by omega) (by omega)]
                have l1:=yW hs.2.2.1 (a:=p * 64+(8+k * (aS (bO h p)).toNat)) (w:=4) (by omega) (by omega) (by omega)
                simp only [mV,fK,Option.bind_some]
                rw [if_pos (by simp;omega),s1]
                simp only [Option.bind_some,pP,aMH hs hp hk]
                rw [show((4:Nat):Int)=4 from rfl] at l1
                rw [l1,Nat.add_assoc,aK (x:=(k:Int)+1) (by omega) (by omega)]
                simp only [Option.bind_some,bQ]
                by_cases q:1≤ld h.Bytes (p * 64+(8+k * (aS (bO h p)).toNat)) 4∧ld h.Bytes (p * 64+(8+k * (aS (bO h p)).toNat)) 4≤7
                · rw [if_pos q,decide_eq_true q];rfl
                · rw [if_neg q,decide_eq_false q];rfl
              refine rL (f:=mV h (p:Int) (bO h p)) (bY (bO h p)).toNat (fun k=>(k:Int)) (fun i=>1≤ld h.Bytes (p * 64+8+i * (aS (bO h p)).toNat) 4∧ld h.Bytes (p * 64+8+i * (aS (bO h p)).toNat) 4≤7) _ _ (fun k hk hx=>?_) (fun k hk hx=>?_) ?_
              · rw [hst k hk,if_pos hx]
              · rw [hst k hk,if_neg hx]
              · simp only [mV,fK,Option.bind_some]
                rw [if_neg (by simp;omega)]
            rw [key2]
            by_cases h5:∀i,i < (bY (bO h p)).toNat→1≤ld h.Bytes (p * 64+8+i * (aS (bO h p)).toNat) 4∧ld h.Bytes (p * 64+8+i * (aS (bO h p)).toNat) 4≤7
            · rw [if_pos h5,decide_eq_true (hP.2 ⟨⟨a0,a1,a2⟩,h4,h5⟩)];rfl
            · rw [if_neg h5,decide_eq_false (fun q=>h5 (hP.1 q).2.2)];rfl
          · rw [if_neg h4,decide_eq_false (fun q=>h4 (hP.1 q).2.1)];rfl
        · have n0:((dF h p).getD 0 0 != 171)=false:=by simp only [bne_eq_false_iff_eq];exact a0
          have n1:((dF h p).getD 1 0 != bO h p)=false:=by simp only [bne_eq_false_iff_eq];exact a1
          have n2:((dF h p).getD 2 0 != bY (bO h p))=true:=by simp only [bne_iff_ne];exact a2
          simp only [n0,n1,n2,Bool.false_eq_true,if_false,iT,if_true]
          rw [decide_eq_false (fun q=>a2 (hP.1 q).1.2.2)]
      · have n0:((dF h p).getD 0 0 != 171)=false:=by simp only [bne_eq_false_iff_eq];exact a0
        have n1:((dF h p).getD 1 0 != bO h p)=true:=by simp only [bne_iff_ne];exact a1
        simp only [n0,n1,Bool.false_eq_true,if_false,iT,if_true]
        rw [decide_eq_false (fun q=>a1 (hP.1 q).1.2.1)]
    · have n0:((dF h p).getD 0 0 != 171)=true:=by simp only [bne_iff_ne];exact a0
      simp only [n0,Bool.false_eq_true,if_false,iT,if_true]
      rw [decide_eq_false (fun q=>a0 (hP.1 q).1.1)]
end
end Go.Gv
end
noncomputable section
set_option linter.unusedVariables false
set_option linter.unusedSimpArgs false
set_option linter.unusedSectionVars false
namespace Go.Gv
theorem ML{l:List Int}(hl:l.length≤maxLen):BH l=some (decide (∀x∈l,x=0)):=by
  unfold BH
  have e:(fun y0=>AH y0)=fun y:Int=>some (!decide (y=0)):=by
    funext y;simp [AH,bne];rfl
  rw [e,yX hl,AZ]
  simp
noncomputable section
variable {h:aC} (hs:d7 h) {p:Nat} (hp:p < 6)
include hs hp
theorem aP6:(h.Bytes.take ((p+1) * 64)).drop (p * 64)=dF h p:=by
  unfold dF
  rw [List.drop_take];congr 1;omega
theorem aO3{a:Nat}(ha:a+4≤64):ld (dF h p) a 4=ld h.Bytes (p * 64+a) 4:=by
  unfold ld dF
  rw [List.drop_take,List.take_take,List.drop_drop]
  congr 2;omega
theorem aF4{k:Nat}(hk:k < 64):idx (dF h p) (k:Int)=some ((dF h p).getD k 0):=by
  have:=EF hs hp
  rw [aT (by omega),List.getD_eq_getElem?_getD,List.getElem?_eq_getElem (by omega)];rfl
theorem MM:FH h (p:Int)=some (decide (kV h p)):=by
  have hb:=hs.1
  have hl:=EF hs hp
  have hm:(dF h p).length≤maxLen:=by rw [hl];simp [maxLen]
  have e0:aZ ((p:Int) * 64)=((p * 64:Nat):Int):=by rw [aK (by omega) (by omega)];omega
  have e1:aZ (aZ ((p:Int)+1) * 64)=(((p+1) * 64:Nat):Int):=by rw [aK (x:=(p:Int)+1) (by omega) (by omega),aK (by omega) (by omega)];omega
  have i0:=aF4 hs hp (show 0 < 64 by omega)
  have i1:=aF4 hs hp (show 1 < 64 by omega)
  have i2:=aF4 hs hp (show 2 < 64 by omega)
  rw [show((0:Nat):Int)=0 from rfl] at i0
  rw [show((1:Nat):Int)=1 from rfl] at i1
  rw [show((2:Nat):Int)=2 from rfl] at i2
  unfold FH
  rw [U5 hs hp]
  simp only [Option.bind_some,e0,e1,Int.toNat_natCast,aP6 hs hp]
  rw [aO (by omega)]
  by_cases hc:bO h p < 0
  · have hP:kV h p↔∀x∈dF h p,x=0:=by unfold kV;rw [if_pos hc]
    simp only [hc,decide_true,if_true,ML hm,Option.bind_some,hP]
  · have hP:kV h p↔((dF h p).getD 0 0=171∧(dF h p).getD 1 0=bO h p∧(dF h p).getD 2 0=bY (bO h p))∧(∀x∈((dF h p).drop 3).take 5,x=0)∧∀i,i < (bY (bO h p)).toNat→1≤ld h.Bytes (p * 64+8+i * (aS (bO h p)).toNat) 4∧ld h.Bytes (p * 64+8+i * (aS (bO h p)).toNat) 4≤7:=by unfold kV;rw [if_neg hc]
    simp only [hc,decide_false,Bool.false_eq_true,if_false,i0,i1,i2,Option.bind_some,vT]
    by_cases a0:(dF h p).getD 0 0=171
    · by_cases a1:(dF h p).getD 1 0=bO h p
      · by_cases a2:(dF h p).getD 2 0=bY (bO h p)
        · have n0:((dF h p).getD 0 0 != 171)=false:=by simp only [bne_eq_false_iff_eq];exact a0
          have n1:((dF h p).getD 1 0 != bO h p)=false:=by simp only [bne_eq_false_iff_eq];exact a1
          have n2:((dF h p).getD 2 0 != bY (bO h p))=false:=by simp only [bne_eq_false_iff_eq];exact a2
          have t8:((dF h p).take (8:Int).toNat).drop (3:Int).toNat=((dF h p).drop 3).take 5:=by
            rw [show(8:Int).toNat=8 from rfl,show(3:Int).toNat=3 from rfl,List.drop_take]
          simp only [n0,n1,n2,Bool.false_eq_true,if_false,gX,t8]
          rw [aO (by omega),ML (by simp [maxLen];omega)]
          by_cases h4:∀x∈((dF h p).drop 3).take 5,x=0
          · simp only [decide_eq_true h4,Option.bind_some,Bool.not_true,Bool.false_eq_true,if_false,vT]
            have key2:loop (m4 h (p:Int) (bO h p) (bY (bO h p))) 0=some (if ∀i,i < (bY (bO h p)).toNat→1≤ld h.Bytes (p * 64+8+i * (aS (bO h p)).toNat) 4∧ld h.Bytes (p * 64+8+i * (aS (bO h p)).toNat) 4≤7 then Out.brk () else Out.ret false):=by
              have hle:=kY (bO h p)
              have hst:∀k:Nat,k < (bY (bO h p)).toNat→m4 h (p:Int) (bO h p) (bY (bO h p)) (k:Int)=if 1≤ld h.Bytes (p * 64+8+k * (aS (bO h p)).toNat) 4∧ld h.Bytes (p * 64+8+k * (aS (bO h p)).toNat) 4≤7 then some (.next ((k+1:Nat):Int)) else some (.stop (Out.ret false)):=by
                intro k hk
                have hz:=sY hs hp rfl hk
                have e5:aZ (8+aZ ((k:Int) * aS (bO h p)))=((8+k * (aS (bO h p)).toNat:Nat):Int):=by
                  rw [aK (x:=(k:Int) * aS (bO h p)) (by omega) (by omega),aK (by omega) (by omega)];omega
                have l1:=vU (aIV hs hp) (a:=8+k * (aS (bO h p)).toNat) (w:=4) (by omega) (by omega) (by omega)
                rw [show((4:Nat):Int)=4 from rfl,aO3 hs hp (by omega)] at l1
                simp only [m4,H9,Option.bind_some,e0,e1,Int.toNat_natCast,aP6 hs hp,e5]
                rw [if_pos (by simp;omega),l1,Nat.add_assoc,aK (x:=(k:Int)+1) (by omega) (by omega)]
                simp only [Option.bind_some,dL]
                by_cases q:1≤ld h.Bytes (p * 64+(8+k * (aS (bO h p)).toNat)) 4∧ld h.Bytes (p * 64+(8+k * (aS (bO h p)).toNat)) 4≤7
                · rw [if_pos q,decide_eq_true q];rfl
                · rw [if_neg q,decide_eq_false q];rfl
              refine rL (f:=m4 h (p:Int) (bO h p) (bY (bO h p))) (bY (bO h p)).toNat (fun k=>(k:Int)) (fun i=>1≤ld h.Bytes (p * 64+8+i * (aS (bO h p)).toNat) 4∧ld h.Bytes (p * 64+8+i * (aS (bO h p)).toNat) 4≤7) _ _ (fun k hk hx=>?_) (fun k hk hx=>?_) ?_
              · rw [hst k hk,if_pos hx]
              · rw [hst k hk,if_neg hx]
              · simp only [m4]
                rw [if_neg (by simp;omega)]
            rw [key2]
            by_cases h5:∀i,i < (bY (bO h p)).toNat→1≤ld h.Bytes (p * 64+8+i * (aS (bO h p)).toNat) 4∧ld h.Bytes (p * 64+8+i * (aS (bO h p)).toNat) 4≤7
            · rw [if_pos h5,decide_eq_true (hP.2 ⟨⟨a0,a1,a2⟩,h4,h5⟩)];rfl
            · rw [if_neg h5,decide_eq_false (fun q=>h5 (hP.1 q).2.2)];rfl
          · simp only [decide_eq_false h4,Option.bind_some,Bool.not_false,if_true]
            rw [decide_eq_false (fun q=>h4 (hP.1 q).2.1)]
        · have n0:((dF h p).getD 0 0 != 171)=false:=by simp only [bne_eq_false_iff_eq];exact a0
          have n1:((dF h p).getD 1 0 != bO h p)=false:=by simp only [bne_eq_false_iff_eq];exact a1
          have n2:((dF h p).getD 2 0 != bY (bO h p))=true:=by simp only [bne_iff_ne];exact a2
          simp only [n0,n1,n2,Bool.false_eq_true,if_false,gX,if_true]
          rw [decide_eq_false (fun q=>a2 (hP.1 q).1.2.2)]
      · have n0:((dF h p).getD 0 0 != 171)=false:=by simp only [bne_eq_false_iff_eq];exact a0
        have n1:((dF h p).getD 1 0 != bO h p)=true:=by simp only [bne_iff_ne];exact a1
        simp only [n0,n1,Bool.false_eq_true,if_false,gX,if_true]
        rw [decide_eq_false (fun q=>a1 (hP.1 q).1.2.1)]
    · have n0:((dF h p).getD 0 0 != 171)=true:=by simp only [bne_iff_ne];exact a0
      simp only [n0,Bool.false_eq_true,if_false,gX,if_true]
      rw [decide_eq_false (fun q=>a0 (hP.1 q).1.1)]
end
instance (h:aC):Decidable (∀p,p < 6→kV h p):=Nat.decidableBallLT 6 fun p _=>kV h p
def Q6(h:aC):Prop:=d7 h∧∀p,p < 6→kV h p
instance (h:aC):Decidable (Q6 h):=by unfold Q6;infer_instance
theorem W7{h:aC}(hl:h.Bytes.length≤maxLen):FB h=some (decide (Q6 h)):=by
  unfold FB
  rw [T7 hl]
  by_cases hs:d7 h
  · have key:loop (qK h) 0=some (if ∀p,p < 6→kV h p then Out.brk () else Out.ret false):=by
      refine rL (f:=qK h) 6 (fun k=>(k:Int)) (fun p=>kV h p) _ _ (fun k hk hx=>?_) (fun k hk hx=>?_) ?_
      · simp only [qK]
        rw [if_pos (by simp;omega),MK hs hk,aK (by omega) (by omega),decide_eq_true hx];rfl
      · simp only [qK]
        rw [if_pos (by simp;omega),MK hs hk,decide_eq_false hx];rfl
      · rfl
    simp only [Option.bind_some,decide_eq_true hs,Bool.not_true,Bool.false_eq_true,if_false]
    rw [key]
    by_cases h4:∀p,p < 6→kV h p
    · rw [if_pos h4,decide_eq_true (show Q6 h from ⟨hs,h4⟩)];rfl
    · rw [if_neg h4,decide_eq_false (fun q:Q6 h=>h4 q.2)];rfl
  · rw [decide_eq_false (fun q:Q6 h=>hs q.1),decide_eq_false hs];rfl
theorem EG{h:aC}(hl:h.Bytes.length≤maxLen):BI h=some (decide (Q6 h)):=by
  unfold BI
  rw [rN hl]
  by_cases hs:d7 h
  · have key:loop (qV h) 0=some (if ∀p,p < 6→kV h p then Out.brk () else Out.ret false):=by
      refine rL (f:=qV h) 6 (fun k=>(k:Int)) (fun p=>kV h p) _ _ (fun k hk hx=>?_) (fun k hk hx=>?_) ?_
      · simp only [qV]
        rw [if_pos (by simp;omega),MM hs hk,aK (by omega) (by omega),decide_eq_true hx];rfl
      · simp only [qV]
        rw [if_pos (by simp;omega),MM hs hk,decide_eq_false hx];rfl
      · rfl
    simp only [Option.bind_some,decide_eq_true hs,Bool.not_true,Bool.false_eq_true,if_false]
    rw [key]
    by_cases h4:∀p,p < 6→kV h p
    · rw [if_pos h4,decide_eq_true (show Q6 h from ⟨hs,h4⟩)];rfl
    · rw [if_neg h4,decide_eq_false (fun q:Q6 h=>h4 q.2)];rfl
  · rw [decide_eq_false (fun q:Q6 h=>hs q.1),decide_eq_false hs];rfl
def aV(h:aC)(s:Int):Int:=if (0≤s∧s≤23)∧s % 4 < bY (bO h (s / 4).toNat) then bO h (s / 4).toNat else -1
theorem vV{h:aC}{s:Int}(hc:0≤aV h s):(0≤s∧s≤23)∧s % 4 < bY (bO h (s / 4).toNat)∧aV h s=bO h (s / 4).toNat:=by
  unfold aV at hc ⊢
  split at hc
  · rename_i h1;exact⟨h1.1,h1.2,by rw [if_pos h1]⟩
  · omega
theorem gC{h:aC}(hs:d7 h)(s:Int):jW h s=some (aV h s):=by
  unfold jW oR aV
  rw [MI,KJ]
  by_cases h1:0≤s∧s≤23
  · obtain⟨k,rfl⟩:=Int.eq_ofNat_of_zero_le h1.1
    have hk:k / 4 < 6:=by omega
    have e1:((k:Int) / 4)=((k / 4:Nat):Int):=by omega
    have hi:=U5 hs hk
    have n1:¬((k / 4:Nat):Int) < 0:=by omega
    simp only [h1,and_self,if_true,Option.bind_some,e1,n1,decide_false,Bool.false_eq_true,if_false,hi,Int.toNat_natCast,true_and]
    by_cases h2:bO h (k / 4) < 0
    · have h3:bY (bO h (k / 4))=0:=aBV (by omega)
      have h4:¬(k:Int) % 4 < 0:=by omega
      simp [h2,h3,h4]
    · by_cases h3:(k:Int) % 4 < bY (bO h (k / 4))
      · have h4:¬bY (bO h (k / 4))≤(k:Int) % 4:=by omega
        simp [h2,h3,h4,fK]
      · have h4:bY (bO h (k / 4))≤(k:Int) % 4:=by omega
        simp [h2,h3,h4,fK]
  · simp [h1]
theorem hU{h:aC}(hs:d7 h)(s:Int):j4 h s=some (aV h s):=by
  unfold j4 vH aV
  rw [rM]
  by_cases h1:0≤s∧s≤23
  · obtain⟨k,rfl⟩:=Int.eq_ofNat_of_zero_le h1.1
    have hk:k / 4 < 6:=by omega
    have e1:((k:Int) / 4)=((k / 4:Nat):Int):=by omega
    have hi:=U5 hs hk
    have e2:aZ (Int.tdiv (k:Int) 4)=((k / 4:Nat):Int):=by rw [BQ (by omega),aK (by omega) (by omega)];omega
    simp only [h1,and_self,decide_true,Bool.not_true,Bool.false_eq_true,if_true,Option.bind_some,e1,e2,if_false,hi,Int.toNat_natCast,true_and,uO]
    by_cases h3:(k:Int) % 4 < bY (bO h (k / 4))
    · have hm:=EE (c:=bO h (k / 4)) (by omega) h3
      have hg:¬eI (k:Int) (bO h (k / 4)) < 0:=by
        unfold eI;rw [if_pos ⟨h1,h3⟩];omega
      simp [h3,hg]
    · have hg:eI (k:Int) (bO h (k / 4)) < 0:=by
        unfold eI;rw [if_neg (fun q=>h3 q.2)];omega
      simp [h3,hg]
  · simp [h1]
def kO(h:aC)(s:Int):Int:=ld h.Bytes (eI s (aV h s)).toNat 4
theorem A0{h:aC}{s:Int}(hc:0≤aV h s):0≤eI s (aV h s)∧eI s (aV h s)+4≤384:=by
  obtain⟨h1,h2,h3⟩:=vV hc
  rw [h3]
  have hm:=EE (c:=bO h (s / 4).toNat) (by omega) h2
  have hst:0 < aS (bO h (s / 4).toNat):=by
    have:0≤bO h (s / 4).toNat∧bO h (s / 4).toNat≤2:=iX.1 (by omega)
    rcases fA this with e | e | e <;> rw [e] <;> decide
  have:4≤aS (bO h (s / 4).toNat):=by
    have:0≤bO h (s / 4).toNat∧bO h (s / 4).toNat≤2:=iX.1 (by omega)
    rcases fA this with e | e | e <;> rw [e] <;> decide
  unfold eI;rw [if_pos ⟨h1,h2⟩];omega
theorem mB{h:aC}(hs:d7 h){s:Int}(hc:0≤aV h s):qL h s=some (kO h s):=by
  have hg:=A0 hc
  unfold qL
  rw [gC hs]
  simp only [Option.bind_some,pP]
  have l1:=yW hs.2.2.1 (a:=(eI s (aV h s)).toNat) (w:=4) (by omega) (by have:=hs.1;omega) (by have:=hs.1;omega)
  rw [show((4:Nat):Int)=4 from rfl,Int.toNat_of_nonneg hg.1] at l1
  rw [l1];rfl
theorem A1{h:aC}(hs:d7 h){s:Int}(hc:0≤aV h s):wB h s=some (kO h s):=by
  have hg:=A0 hc
  have hm:h.Bytes.length≤maxLen:=by rw [hs.1];simp [maxLen]
  unfold wB n9
  rw [rN hm,hU hs]
  have l1:=vU hs.2.2.1 (a:=(eI s (aV h s)).toNat) (w:=4) (by omega) (by have:=hs.1;omega) (by have:=hs.1;omega)
  rw [show((4:Nat):Int)=4 from rfl,Int.toNat_of_nonneg hg.1] at l1
  have n1:¬aV h s < 0:=by omega
  simp [hs,n1,uO,l1,kO]
end Go.Gv
end
noncomputable section
set_option linter.unusedVariables false
set_option linter.unusedSimpArgs false
set_option linter.unusedSectionVars false
namespace Go.Gv
def cK(l:List aH):List Int:=l.flatMap aH.aP
def dC(l:aB):List Int:=cK l.Global++cK l.aX
def YK(l:aB):Prop:=l.Global.length=3∧l.aX.length=9∧(∀s∈l.aX,s.aP.length≤2)∧(∀x∈dC l,0≤x∧x≤23)∧(dC l).Nodup
instance (l:aB):Decidable (YK l):=by unfold YK;infer_instance
theorem IA{l:List aH}{k:Nat}(h:k < l.length):cK (l.take (k+1))=cK (l.take k)++l[k].aP:=by
  unfold cK
  rw [List.take_succ_eq_append_getElem h,List.flatMap_append];simp
theorem aBX(l:List aH)(k:Nat):(cK (l.take k)).length≤(cK l).length:=by
  have:cK l=cK (l.take k)++cK (l.drop k):=by
    unfold cK;rw [←List.flatMap_append,List.take_append_drop]
  rw [this];simp
theorem MN(l:List aH){k:Nat}(h:k < l.length):l[k].aP.length≤(cK l).length:=by
  have h1:=aBX l (k+1)
  rw [IA h] at h1
  simp at h1;omega
theorem N8{l:aB}(h:(dC l).length≤1073741824)(hg:l.Global.length≤maxLen)(ho:l.aX.length≤maxLen):DY l=some (dC l):=by
  have hsum:(cK l.Global).length+(cK l.aX).length≤1073741824:=by simpa [dC] using h
  unfold DY
  have k1:loop (tQ l) ([],0)=some (cK l.Global):=by
    refine f9 (f:=tQ l) l.Global.length (fun k=>(cK (l.Global.take k),(k:Int))) _ (fun k hk=>?_) ?_
    · have h1:=aBX l.Global (k+1)
      rw [IA hk] at h1
      simp only [tQ]
      rw [if_pos (by simp;omega),aT hk]
      simp only [Option.bind_some]
      rw [aO (by simp at h1;omega),IA hk,gQ (mR hk hg)]
    · simp [tQ]
  rw [k1]
  simp only [Option.bind_some,NS,NR]
  have k2:loop (tP l) (cK l.Global,0)=some (dC l):=by
    have:=f9 (f:=tP l) l.aX.length (fun k=>(cK l.Global++cK (l.aX.take k),(k:Int))) (dC l) (fun k hk=>?_) ?_
    · simpa [cK] using this
    · have h1:=aBX l.aX (k+1)
      rw [IA hk] at h1
      simp only [tP]
      rw [if_pos (by simp;omega),aT hk]
      simp only [Option.bind_some]
      rw [aO (by simp at h1 ⊢;omega),IA hk,gQ (mR hk ho),List.append_assoc]
    · simp [tP,dC]
  rw [k2];rfl
theorem GY{l:List Int}(hl:l.length≤maxLen)(x:Int):zR l x=some (decide (x∈l)):=by
  unfold zR
  have key:loop (pJ l x) 0=some (if ∀y∈l,y≠x then Out.brk () else Out.ret true):=by
    refine iJ (f:=pJ l x) l (fun k=>(k:Int)) (fun y=>y≠x) _ _ (fun k h hp=>?_) (fun k h hp=>?_) ?_
    · simp only [pJ]
      rw [if_pos (by simp;omega),aT h,gQ (mR h hl)]
      have:(l[k] == x)=false:=by simpa using hp
      simp only [Option.bind_some,this,Bool.false_eq_true,if_false]
    · simp only [pJ]
      rw [if_pos (by simp;omega),aT h]
      have:(l[k] == x)=true:=by simpa using hp
      simp only [Option.bind_some,this,if_true]
    · simp [pJ]
  rw [key]
  by_cases h:x∈l
  · rw [if_neg (fun q=>q x h rfl),decide_eq_true h];rfl
  · rw [if_pos (fun y hy (e:y=x)=>h (e ▸ hy)),decide_eq_false h];rfl
theorem JG(l:List Int):l.Nodup↔∀k (h:k < l.length),l[k]∉l.take k:=by
  unfold List.Nodup
  rw [List.pairwise_iff_getElem]
  constructor
  · intro h k hk hm
    obtain⟨i,hi,he⟩:=List.mem_take_iff_getElem.1 hm
    exact h i k (by omega) hk (by omega) he
  · intro h i j hi hj hij he
    exact h j hj (List.mem_take_iff_getElem.2 ⟨i,by omega,he⟩)
theorem T8{l:aB}(h:(dC l).length≤1073741824):CT l=some (decide (YK l)):=by
  unfold CT vA
  by_cases hg:l.Global.length=3
  · by_cases ho:l.aX.length=9
    · have n1:((l.Global.length:Int) != 3)=false:=by simp;omega
      have n2:((l.aX.length:Int) != 9)=false:=by simp;omega
      simp only [n1,n2,Bool.false_eq_true,if_false]
      have k1:loop (lI l) 0=some (if ∀s∈l.aX,s.aP.length≤2 then Out.brk () else Out.ret false):=by
        refine iJ (f:=lI l) l.aX (fun k=>(k:Int)) (fun s=>s.aP.length≤2) _ _ (fun k hk hp=>?_) (fun k hk hp=>?_) ?_
        · simp only [lI]
          rw [if_pos (by simp;omega),aT hk,aK (by omega) (by omega)]
          simp only [Option.bind_some]
          rw [if_neg (by simp;omega)];rfl
        · simp only [lI]
          rw [if_pos (by simp;omega),aT hk]
          simp only [Option.bind_some]
          rw [if_pos (by simp;omega)]
        · simp [lI]
      rw [k1]
      by_cases h2:∀s∈l.aX,s.aP.length≤2
      · rw [if_pos h2]
        simp only [Option.bind_some,J4,J3]
        rw [N8 h (by rw [hg];simp [maxLen]) (by rw [ho];simp [maxLen])]
        simp only [Option.bind_some]
        have k2:loop (lH (dC l)) 0=some (if ∀k,k < (dC l).length→(0≤(dC l).getD k 0∧(dC l).getD k 0≤23)∧(dC l).getD k 0∉(dC l).take k then Out.brk () else Out.ret false):=by
          have hst:∀k,k < (dC l).length→lH (dC l) (k:Int)=if (0≤(dC l).getD k 0∧(dC l).getD k 0≤23)∧(dC l).getD k 0∉(dC l).take k then some (.next ((k+1:Nat):Int)) else some (.stop (Out.ret false)):=by
            intro k hk
            have e:(dC l).getD k 0=(dC l)[k]:=by rw [List.getD_eq_getElem?_getD,List.getElem?_eq_getElem hk];rfl
            rw [e]
            simp only [lH]
            rw [if_pos (by simp;omega),aT hk]
            simp only [Option.bind_some,bQ,uZ]
            by_cases q:0≤(dC l)[k]∧(dC l)[k]≤23
            · rw [decide_eq_true q]
              simp only [Bool.not_true,Bool.false_eq_true,if_false,Int.toNat_natCast,List.drop_zero]
              rw [aO (by omega),GY (by simp [maxLen];omega),aK (by omega) (by omega)]
              by_cases q2:(dC l)[k]∈(dC l).take k
              · rw [if_neg (fun x=>x.2 q2),decide_eq_true q2];rfl
              · rw [if_pos ⟨q,q2⟩,decide_eq_false q2];rfl
            · rw [decide_eq_false q];simp only [Bool.not_false,if_true];rw [if_neg (fun x=>q x.1)]
          refine rL (f:=lH (dC l)) (dC l).length (fun k=>(k:Int)) (fun k=>(0≤(dC l).getD k 0∧(dC l).getD k 0≤23)∧(dC l).getD k 0∉(dC l).take k) _ _ (fun k hk hx=>?_) (fun k hk hx=>?_) ?_
          · rw [hst k hk,if_pos hx]
          · rw [hst k hk,if_neg hx]
          · simp [lH]
        rw [k2]
        have hiff:YK l↔∀k,k < (dC l).length→(0≤(dC l).getD k 0∧(dC l).getD k 0≤23)∧(dC l).getD k 0∉(dC l).take k:=by
          have e:∀k (hk:k < (dC l).length),(dC l).getD k 0=(dC l)[k]:=fun k hk=>by rw [List.getD_eq_getElem?_getD,List.getElem?_eq_getElem hk];rfl
          constructor
          · rintro⟨_,_,_,q1,q2⟩ k hk
            rw [e k hk]
            exact⟨q1 _ (List.getElem_mem hk),(JG _).1 q2 k hk⟩
          · intro q
            refine⟨hg,ho,h2,fun x hx=>?_,(JG _).2 fun k hk=>?_⟩
            · obtain⟨k,hk,rfl⟩:=List.mem_iff_getElem.1 hx
              have:=(q k hk).1;rw [e k hk] at this;exact this
            · have:=(q k hk).2;rw [e k hk] at this;exact this
        by_cases q:YK l
        · rw [if_pos (hiff.1 q),decide_eq_true q];rfl
        · rw [if_neg (fun x=>q (hiff.2 x)),decide_eq_false q];rfl
      · rw [if_neg h2,decide_eq_false (fun q:YK l=>h2 q.2.2.1)];rfl
    · have n1:((l.Global.length:Int) != 3)=false:=by simp;omega
      have n2:((l.aX.length:Int) != 9)=true:=by simp;omega
      simp only [n1,n2,Bool.false_eq_true,if_false,if_true]
      rw [decide_eq_false (fun q:YK l=>ho q.2.1)]
  · have n1:((l.Global.length:Int) != 3)=true:=by simp;omega
    simp only [n1,if_true]
    rw [decide_eq_false (fun q:YK l=>hg q.1)]
def uP:List Bool→List Int→Option (List Bool)
  | met,[]=>some met
  | met,x :: r=>if (0≤x∧x≤23)∧met.getD x.toNat true=false then uP (met.set x.toNat true) r else none
theorem aAH:∀{xs:List Int} {met m:List Bool},uP met xs=some m→m.length=met.length
  | [],met,m,h=>by simp [uP] at h;rw [h]
  | x :: r, met, m, h => by
    simp only [uP] at h
    split at h
    · have:=aAH h;simpa using this
    · cases h
theorem QG:∀(a b:List Int) (met:List Bool),uP met (a++b)=(uP met a).bind fun m=>uP m b
  | [],b,met=>rfl
  | x :: r, b, met => by
    simp only [List.cons_append,uP]
    split
    · exact QG r b _
    · rfl
theorem O5:∀(xs:List Int) (met:List Bool),met.length=24→((uP met xs).isSome=true↔(∀x∈xs,0≤x∧x≤23)∧xs.Nodup∧∀x∈xs,met.getD x.toNat true=false)
  | [],met,hm=>by simp [uP]
  | x :: r, met, hm => by
    simp only [uP]
    by_cases h:(0≤x∧x≤23)∧met.getD x.toNat true=false
    · rw [if_pos h,O5 r _ (by simpa using hm)]
      have hset:∀y,0≤y∧y≤23→(((met.set x.toNat true).getD y.toNat true=false)↔(y≠x∧met.getD y.toNat true=false)):=by
        intro y hy
        rw [List.getD_eq_getElem?_getD,List.getD_eq_getElem?_getD]
        by_cases e:y=x
        · subst e;rw [List.getElem?_set_self (by omega)];simp
        · rw [List.getElem?_set_ne (by omega)];simp [e]
      constructor
      · rintro⟨q1,q2,q3⟩
        refine⟨fun y hy=>?_,List.nodup_cons.2 ⟨fun hx=>?_,q2⟩,fun y hy=>?_⟩
        · rcases List.mem_cons.1 hy with rfl | hy
          · exact h.1
          · exact q1 y hy
        · exact((hset x h.1).1 (q3 x hx)).1 rfl
        · rcases List.mem_cons.1 hy with rfl | hy
          · exact h.2
          · exact((hset y (q1 y hy)).1 (q3 y hy)).2
      · rintro⟨q1,q2,q3⟩
        have q2:=List.nodup_cons.1 q2
        refine⟨fun y hy=>q1 y (List.mem_cons_of_mem _ hy),q2.2,fun y hy=>(hset y (q1 y (List.mem_cons_of_mem _ hy))).2 ⟨fun e=>q2.1 (e ▸ hy),q3 y (List.mem_cons_of_mem _ hy)⟩⟩
    · rw [if_neg h]
      constructor
      · intro q;cases q
      · rintro⟨q1,q2,q3⟩
        exact(h ⟨q1 x List.mem_cons_self,q3 x List.mem_cons_self⟩).elim
def aBY:Option (List Bool)→Out (List Bool) Bool
  | some m=>.brk m
  | none=>.ret false
theorem aS8{s:aH}(hl:s.aP.length≤maxLen):∀d k (met:List Bool),k+d=s.aP.length→met.length=24→loop (jH s) ((k:Int),met)=some (aBY (uP met (s.aP.drop k))):=by
  intro d
  induction d with
  | zero =>
    intro k met hk hm
    rw [bT (r:=Out.brk met) (by simp [jH];omega),List.drop_eq_nil_of_le (by omega)];rfl
  | succ d ih =>
    intro k met hk hm
    have hk':k < s.aP.length:=by omega
    have hd:s.aP.drop k=s.aP[k] :: s.aP.drop (k+1):=List.drop_eq_getElem_cons hk'
    have hst:jH s ((k:Int),met)=if (0≤s.aP[k]∧s.aP[k]≤23)∧met.getD s.aP[k].toNat true=false then some (.next (((k+1:Nat):Int),met.set s.aP[k].toNat true)) else some (.stop (Out.ret false)):=by
      simp only [jH]
      rw [if_pos (by simp;omega),aT hk']
      simp only [Option.bind_some,rM]
      generalize s.aP[k]=x
      by_cases q:0≤x∧x≤23
      · obtain⟨j,rfl⟩:=Int.eq_ofNat_of_zero_le q.1
        have hj:j < met.length:=by omega
        have e:met.getD j true=met[j]:=by rw [List.getD_eq_getElem?_getD,List.getElem?_eq_getElem hj];rfl
        simp only [q,and_self,decide_true,Bool.not_true,Bool.false_eq_true,if_false,lM,Int.toNat_natCast,true_and,e]
        rw [aO (by omega),aT hj]
        simp only [Option.bind_some]
        cases met[j]
        · simp only [Bool.false_eq_true,if_false,if_true]
          rw [aO (by omega),gQ (mR hk' hl)]
        · simp
      · rw [decide_eq_false q];simp only [Bool.not_false,if_true,lM];rw [if_neg (fun x=>q x.1)]
    rw [hd,uP]
    by_cases q:(0≤s.aP[k]∧s.aP[k]≤23)∧met.getD s.aP[k].toNat true=false
    · rw [if_pos q] at hst ⊢
      rw [bM hst,ih (k+1) _ (by omega) (by simpa using hm)]
    · rw [if_neg q] at hst ⊢
      rw [bT hst];rfl
def SN(l:List aH):Prop:=∀s∈l,s.aP.length≤2
instance (l:List aH):Decidable (SN l):=by unfold SN;infer_instance
theorem aS9{l:aB}(ho:l.aX.length=9)(hn:(l.aX++l.Global).length≤1000)(hs:∀s∈l.aX++l.Global,s.aP.length≤maxLen):∀d k (met:List Bool),k+d=(l.aX++l.Global).length→met.length=24 →
    loop (jJ l) ((k:Int),met)=some (if SN (((l.aX++l.Global).drop k).take (9 - k))∧(uP met (cK ((l.aX++l.Global).drop k))).isSome=true then Out.brk () else Out.ret false):=by
  intro d
  induction d with
  | zero =>
    intro k met hk hm
    rw [List.drop_eq_nil_of_le (by omega),if_pos ⟨by simp [SN],rfl⟩]
    refine bT ?_
    simp only [jJ]
    rw [if_neg (by simp;simp at hk;omega)]
  | succ d ih =>
    intro k met hk hm
    have hk':k < (l.aX++l.Global).length:=by omega
    have hd:(l.aX++l.Global).drop k=(l.aX++l.Global)[k] :: (l.aX++l.Global).drop (k+1):=List.drop_eq_getElem_cons hk'
    have hsk:=hs _ (List.getElem_mem hk')
    have hf:cK ((l.aX++l.Global).drop k)=(l.aX++l.Global)[k].aP++cK ((l.aX++l.Global).drop (k+1)):=by unfold cK;rw [hd,List.flatMap_cons]
    have hin:∀b:Bool,jI (k:Int) met (l.aX++l.Global)[k] b=if b then some (.stop (Out.ret false)) else (match uP met (l.aX++l.Global)[k].aP with | some m=>some (.next (((k+1:Nat):Int),m)) | none=>some (.stop (Out.ret false))):=by
      intro b
      have h4:=aS8 hsk _ 0 met (Nat.zero_add _) hm
      rw [show((0:Nat):Int)=0 from rfl,List.drop_zero] at h4
      unfold jI
      rw [h4]
      cases b
      · simp only [Bool.false_eq_true,if_false,Option.bind_some]
        cases uP met (l.aX++l.Global)[k].aP with
        | none=>rfl
        | some m=>simp only [aBY,KA,vF];rw [aK (by omega) (by omega)];rfl
      · rfl
    have hst:jJ l ((k:Int),met)=jI (k:Int) met (l.aX++l.Global)[k] (decide (k < 9∧2 < (l.aX++l.Global)[k].aP.length)):=by
      simp only [jJ]
      rw [if_pos (by simp;simp at hk';omega),aT hk']
      simp only [Option.bind_some]
      by_cases h9:k < 9
      · rw [if_pos (by simp;omega)]
        congr 1
        rw [Bool.eq_iff_iff];simp only [decide_eq_true_eq];omega
      · rw [if_neg (by simp;omega),decide_eq_false (by omega)]
    rw [hin] at hst
    by_cases h2:k < 9∧2 < (l.aX++l.Global)[k].aP.length
    · rw [decide_eq_true h2] at hst
      simp only [if_true] at hst
      rw [bT hst,if_neg]
      rintro⟨q,_⟩
      have e:9 - k=(9 - (k+1))+1:=by omega
      rw [hd,e,List.take_succ_cons] at q
      have:=q _ List.mem_cons_self
      omega
    · rw [decide_eq_false h2] at hst
      simp only [Bool.false_eq_true,if_false] at hst
      have hcond:SN (((l.aX++l.Global).drop k).take (9 - k))↔SN (((l.aX++l.Global).drop (k+1)).take (9 - (k+1))):=by
        unfold SN
        by_cases h9:k < 9
        · have e:9 - k=(9 - (k+1))+1:=by omega
          rw [hd,e,List.take_succ_cons,List.forall_mem_cons]
          exact⟨fun q=>q.2,fun q=>⟨by omega,q⟩⟩
        · have e:9 - k=0:=by omega
          have e':9 - (k+1)=0:=by omega
          rw [e,e'];simp
      rw [hf,QG]
      cases hg:uP met (l.aX++l.Global)[k].aP with
      | none =>
        rw [hg] at hst
        rw [bT hst,if_neg (by simp)]
      | some m =>
        rw [hg] at hst
        rw [bM hst,ih (k+1) m (by omega) (by rw [aAH hg];exact hm)]
        simp only [Option.bind_some,hcond]
theorem KK{l:aB}(h:(dC l).length≤1073741824):gU l=some (decide (YK l)):=by
  unfold gU oY
  by_cases hg:l.Global.length=3
  · by_cases ho:l.aX.length=9
    · have n1:((l.Global.length:Int) != 3)=false:=by simp;omega
      have n2:((l.aX.length:Int) != 9)=false:=by simp;omega
      simp only [n1,n2,Bool.false_eq_true,if_false]
      rw [aO (by omega)]
      have hsl:∀s∈l.aX++l.Global,s.aP.length≤maxLen:=by
        intro s hm
        have hsum:(cK l.Global).length+(cK l.aX).length≤1073741824:=by simpa [dC] using h
        have hb:(1073741824:Nat)≤maxLen:=by simp [maxLen]
        rcases List.mem_append.1 hm with hm | hm
        · obtain⟨k,hk,rfl⟩:=List.mem_iff_getElem.1 hm
          have:=MN l.aX hk;omega
        · obtain⟨k,hk,rfl⟩:=List.mem_iff_getElem.1 hm
          have:=MN l.Global hk;omega
      have key:=aS9 ho (by simp;omega) hsl (l.aX++l.Global).length 0 [false,false,false,false,false,false,false,false,false,false,false,false,false,false,false,false,false,false,false,false,false,false,false,false] (by omega) rfl
      rw [show((0:Nat):Int)=0 from rfl,List.drop_zero,Nat.sub_zero] at key
      rw [key]
      have et:(l.aX++l.Global).take 9=l.aX:=by rw [←ho];simp
      have ef:cK (l.aX++l.Global)=cK l.aX++cK l.Global:=by simp [cK]
      have hm0:∀j:Nat,j < 24→[false,false,false,false,false,false,false,false,false,false,false,false,false,false,false,false,false,false,false,false,false,false,false,false].getD j true=false:=by decide
      have hiff:YK l↔SN ((l.aX++l.Global).take 9)∧(uP [false,false,false,false,false,false,false,false,false,false,false,false,false,false,false,false,false,false,false,false,false,false,false,false] (cK (l.aX++l.Global))).isSome=true:=by
        rw [O5 _ _ rfl,et,ef]
        have hp:(cK l.aX++cK l.Global).Perm (dC l):=List.perm_append_comm
        constructor
        · rintro⟨_,_,q1,q2,q3⟩
          exact⟨q1,fun x hx=>q2 x (hp.mem_iff.1 hx),hp.nodup_iff.2 q3,fun x hx=>hm0 _ (by have:=q2 x (hp.mem_iff.1 hx);omega)⟩
        · rintro⟨q1,q2,q3,_⟩
          exact⟨hg,ho,q1,fun x hx=>q2 x (hp.mem_iff.2 hx),hp.nodup_iff.1 q3⟩
      by_cases q:YK l
      · rw [if_pos (hiff.1 q),decide_eq_true q];rfl
      · rw [if_neg (fun x=>q (hiff.2 x)),decide_eq_false q];rfl
    · have n1:((l.Global.length:Int) != 3)=false:=by simp;omega
      have n2:((l.aX.length:Int) != 9)=true:=by simp;omega
      simp only [n1,n2,Bool.false_eq_true,if_false,if_true]
      rw [decide_eq_false (fun q:YK l=>ho q.2.1)]
  · have n1:((l.Global.length:Int) != 3)=true:=by simp;omega
    simp only [n1,if_true]
    rw [decide_eq_false (fun q:YK l=>hg q.1)]
end Go.Gv
end
noncomputable section
set_option linter.unusedVariables false
set_option linter.unusedSimpArgs false
set_option linter.unusedSectionVars false
namespace Go.Gv
def yY(h:aC)(l:List Int)(c:Int):Prop:=∀x∈l,aV h x=c∧kO h x≤6
instance (h:aC) (l:List Int) (c:Int):Decidable (yY h l c):=by unfold yY;infer_instance
theorem IB{h:aC}(hs:d7 h){l:List Int}(hl:l.length≤maxLen){c:Int}(hc:0≤c):tR h l c=some (decide (yY h l c)):=by
  unfold tR
  have key:loop (kI h l c) 0=some (if ∀x∈l,aV h x=c∧kO h x≤6 then Out.brk () else Out.ret false):=by
    have hst:∀k (hk:k < l.length),kI h l c (k:Int)=if aV h l[k]=c∧kO h l[k]≤6 then some (.next ((k+1:Nat):Int)) else some (.stop (Out.ret false)):=by
      intro k hk
      simp only [kI]
      rw [if_pos (by simp;omega),aT hk]
      generalize l[k]=x
      simp only [Option.bind_some,gC hs,rY]
      by_cases q:aV h x=c
      · have n1:(aV h x != c)=false:=by simp only [bne_eq_false_iff_eq];exact q
        simp only [n1,Bool.false_eq_true,if_false,mB hs (show 0≤aV h x by omega),Option.bind_some,gQ (mR hk hl)]
        by_cases q2:kO h x≤6
        · rw [if_neg (by simp;omega),if_pos ⟨q,q2⟩]
        · rw [if_pos (by simp;omega),if_neg (fun x=>q2 x.2)]
      · have n1:(aV h x != c)=true:=by simp only [bne_iff_ne];exact q
        simp only [n1,if_true]
        rw [if_neg (fun x=>q x.1)]
    refine iJ (f:=kI h l c) l (fun k=>(k:Int)) (fun x=>aV h x=c∧kO h x≤6) _ _ (fun k hk hp=>?_) (fun k hk hp=>?_) ?_
    · rw [hst k hk,if_pos hp]
    · rw [hst k hk,if_neg hp]
    · simp [kI]
  rw [key]
  by_cases q:∀x∈l,aV h x=c∧kO h x≤6
  · rw [if_pos q,decide_eq_true (show yY h l c from q)];rfl
  · rw [if_neg q,decide_eq_false (show ¬yY h l c from q)];rfl
theorem IC{h:aC}(hs:d7 h){s:aH}(hl:s.aP.length≤maxLen){c:Int}(hc:0≤c):uC h s c=some (decide (yY h s.aP c)):=by
  unfold uC
  have key:loop (kK h s c) 0=some (if ∀x∈s.aP,aV h x=c∧kO h x≤6 then Out.brk () else Out.ret false):=by
    have hst:∀k (hk:k < s.aP.length),kK h s c (k:Int)=if aV h s.aP[k]=c∧kO h s.aP[k]≤6 then some (.next ((k+1:Nat):Int)) else some (.stop (Out.ret false)):=by
      intro k hk
      simp only [kK]
      rw [if_pos (by simp;omega),aT hk]
      generalize s.aP[k]=x
      simp only [Option.bind_some,hU hs,sK]
      by_cases q:aV h x=c
      · have n1:(aV h x != c)=false:=by simp only [bne_eq_false_iff_eq];exact q
        simp only [n1,Bool.false_eq_true,if_false,A1 hs (show 0≤aV h x by omega),Option.bind_some,gQ (mR hk hl)]
        by_cases q2:kO h x≤6
        · rw [if_neg (by simp;omega),if_pos ⟨q,q2⟩]
        · rw [if_pos (by simp;omega),if_neg (fun x=>q2 x.2)]
      · have n1:(aV h x != c)=true:=by simp only [bne_iff_ne];exact q
        simp only [n1,if_true]
        rw [if_neg (fun x=>q x.1)]
    refine iJ (f:=kK h s c) s.aP (fun k=>(k:Int)) (fun x=>aV h x=c∧kO h x≤6) _ _ (fun k hk hp=>?_) (fun k hk hp=>?_) ?_
    · rw [hst k hk,if_pos hp]
    · rw [hst k hk,if_neg hp]
    · simp [kK]
  rw [key]
  by_cases q:∀x∈s.aP,aV h x=c∧kO h x≤6
  · rw [if_pos q,decide_eq_true (show yY h s.aP c from q)];rfl
  · rw [if_neg q,decide_eq_false (show ¬yY h s.aP c from q)];rfl
def cL(l:List aH)(k:Nat):List Int:=(l.getD k ⟨[]⟩).aP
theorem cV{l:List aH}{k:Nat}(h:k < l.length):l[k].aP=cL l k:=by
  unfold cL;rw [List.getD_eq_getElem?_getD,List.getElem?_eq_getElem h];rfl
def EW(m:Mem)(k:Nat):Prop:=yY m.aC (cL m.aB.Global k) (k:Int)
def yZ(m:Mem)(k:Nat):Prop:=yY m.aC (cL m.aB.aX k) ((k % 3:Nat):Int)
instance (m:Mem) (k:Nat):Decidable (EW m k):=by unfold EW;infer_instance
instance (m:Mem) (k:Nat):Decidable (yZ m k):=by unfold yZ;infer_instance
instance (m:Mem):Decidable (∀k,k < 3→EW m k):=Nat.decidableBallLT 3 fun k _=>EW m k
instance (m:Mem):Decidable (∀k,k < 9→yZ m k):=Nat.decidableBallLT 9 fun k _=>yZ m k
instance (m:Mem) (c:Nat):Decidable (∀w,w < 3→yZ m (w * 3+c)):=Nat.decidableBallLT 3 fun w _=>yZ m (w * 3+c)
instance (m:Mem):Decidable (∀k,k < 3→EW m k∧∀w,w < 3→yZ m (w * 3+k)):=Nat.decidableBallLT 3 fun k _=>EW m k∧∀w,w < 3→yZ m (w * 3+k)
def oM(m:Mem):Prop:=(Q6 m.aC∧YK m.aB)∧(∀k,k < 3→EW m k)∧∀k,k < 9→yZ m k
instance (m:Mem):Decidable (oM m):=by unfold oM;infer_instance
theorem YK.SO{l:aB}(h:YK l)(hb:(dC l).length≤1073741824):(∀s∈l.Global,s.aP.length≤1073741824)∧∀s∈l.aX,s.aP.length≤1073741824:=by
  have hsum:(cK l.Global).length+(cK l.aX).length≤1073741824:=by simpa [dC] using hb
  constructor
  · intro s hm
    obtain⟨k,hk,rfl⟩:=List.mem_iff_getElem.1 hm
    have:=MN l.Global hk;omega
  · intro s hm
    obtain⟨k,hk,rfl⟩:=List.mem_iff_getElem.1 hm
    have:=MN l.aX hk;omega
theorem aH6{m:Mem}:(∀k,k < 3→EW m k∧∀w,w < 3→yZ m (w * 3+k))↔(∀k,k < 3→EW m k)∧∀k,k < 9→yZ m k:=by
  constructor
  · intro h
    refine⟨fun k hk=>(h k hk).1,fun k hk=>?_⟩
    have:=(h (k % 3) (by omega)).2 (k / 3) (by omega)
    have e:k / 3 * 3+k % 3=k:=by omega
    rwa [e] at this
  · rintro⟨h1,h2⟩ k hk
    exact⟨h1 k hk,fun w hw=>h2 _ (by omega)⟩
theorem GZ{m:Mem}(hb:m.aC.Bytes.length≤maxLen)(hl:(dC m.aB).length≤1073741824):DZ m=some (decide (oM m)):=by
  unfold DZ AB
  rw [W7 hb,T8 hl]
  by_cases h1:Q6 m.aC
  · by_cases h2:YK m.aB
    · have hmx:(1073741824:Nat)≤maxLen:=by simp [maxLen]
      have hsl:=YK.SO h2 hl
      simp only [decide_eq_true h1,decide_eq_true h2,Option.bind_some,Bool.not_true,Bool.false_eq_true,if_false]
      have k3:∀c:Nat,c < 3→loop (tT m (c:Int)) 0=some (if ∀w,w < 3→yZ m (w * 3+c) then Out.brk () else Out.ret false):=by
        intro c hc
        have hst:∀w:Nat,w < 3→tT m (c:Int) (w:Int)=if yZ m (w * 3+c) then some (.next ((w+1:Nat):Int)) else some (.stop (Out.ret false)):=by
          intro w hw
          have hk:w * 3+c < m.aB.aX.length:=by rw [h2.2.1];omega
          have e:qM (w:Int) (c:Int)=some ((w * 3+c:Nat):Int):=by
            unfold qM tS
            rw [bQ,bQ,decide_eq_true (by omega),decide_eq_true (by omega)]
            simp only [Option.bind_some,Bool.not_true,Bool.false_eq_true,if_false]
            rw [aK (x:=(w:Int) * 3) (by omega) (by omega),aK (by omega) (by omega)];rfl
          have hlen:=hsl.2 _ (List.getElem_mem hk)
          simp only [tT]
          rw [if_pos (by simp;omega),e]
          simp only [Option.bind_some,aT hk]
          rw [IB h1.1 (by omega) (by omega),cV hk]
          have em:(w * 3+c) % 3=c:=by omega
          have ho:yZ m (w * 3+c)↔yY m.aC (cL m.aB.aX (w * 3+c)) (c:Int):=by unfold yZ;rw [em]
          rw [aK (by omega) (by omega)]
          by_cases q:yZ m (w * 3+c)
          · rw [if_pos q,decide_eq_true (ho.1 q)];rfl
          · rw [if_neg q,decide_eq_false (fun x=>q (ho.2 x))];rfl
        refine rL (f:=tT m (c:Int)) 3 (fun k=>(k:Int)) (fun w=>yZ m (w * 3+c)) _ _ (fun k hk hx=>?_) (fun k hk hx=>?_) ?_
        · rw [hst k hk,if_pos hx]
        · rw [hst k hk,if_neg hx]
        · rfl
      have k2:loop (tU m) 0=some (if ∀k,k < 3→EW m k∧∀w,w < 3→yZ m (w * 3+k) then Out.brk () else Out.ret false):=by
        have hst:∀c:Nat,c < 3→tU m (c:Int)=if EW m c∧∀w,w < 3→yZ m (w * 3+c) then some (.next ((c+1:Nat):Int)) else some (.stop (Out.ret false)):=by
          intro c hc
          have hk:c < m.aB.Global.length:=by rw [h2.1];omega
          have hlen:=hsl.1 _ (List.getElem_mem hk)
          simp only [tU]
          rw [if_pos (by simp;omega)]
          simp only [Option.bind_some,aT hk]
          rw [IB h1.1 (by omega) (by omega),cV hk,k3 c hc]
          by_cases q:EW m c
          · have q':yY m.aC (cL m.aB.Global c) (c:Int):=q
            rw [decide_eq_true q']
            simp only [Option.bind_some,Bool.not_true,Bool.false_eq_true,if_false]
            by_cases q2:∀w,w < 3→yZ m (w * 3+c)
            · rw [if_pos q2,if_pos ⟨q,q2⟩]
              simp only [NU,NT]
              rw [aK (by omega) (by omega)];rfl
            · rw [if_neg q2,if_neg (fun x=>q2 x.2)];rfl
          · have q':¬yY m.aC (cL m.aB.Global c) (c:Int):=q
            rw [decide_eq_false q',if_neg (fun x:EW m c∧_=>q x.1)];rfl
        refine rL (f:=tU m) 3 (fun k=>(k:Int)) (fun k=>EW m k∧∀w,w < 3→yZ m (w * 3+k)) _ _ (fun k hk hx=>?_) (fun k hk hx=>?_) ?_
        · rw [hst k hk,if_pos hx]
        · rw [hst k hk,if_neg hx]
        · rfl
      rw [k2]
      by_cases q:∀k,k < 3→EW m k∧∀w,w < 3→yZ m (w * 3+k)
      · rw [if_pos q,decide_eq_true (show oM m from ⟨⟨h1,h2⟩,aH6.1 q⟩)];rfl
      · rw [if_neg q,decide_eq_false (fun x:oM m=>q (aH6.2 x.2))];rfl
    · rw [decide_eq_false (fun q:oM m=>h2 q.1.2),decide_eq_true h1,decide_eq_false h2];rfl
  · rw [decide_eq_false (fun q:oM m=>h1 q.1.1),decide_eq_false h1];rfl
theorem N9{m:Mem}(hb:m.aC.Bytes.length≤maxLen)(hl:(dC m.aB).length≤1073741824):D6 m=some (decide (oM m)):=by
  unfold D6 AI
  rw [EG hb,KK hl]
  by_cases h1:Q6 m.aC
  · by_cases h2:YK m.aB
    · have hmx:(1073741824:Nat)≤maxLen:=by simp [maxLen]
      have hsl:=YK.SO h2 hl
      simp only [decide_eq_true h1,decide_eq_true h2,Option.bind_some,Bool.not_true,Bool.false_eq_true,if_false]
      have k3:loop (pN m) 0=some (if ∀k,k < 9→yZ m k then Out.brk () else Out.ret false):=by
        have hst:∀w:Nat,w < 9→pN m (w:Int)=if yZ m w then some (.next ((w+1:Nat):Int)) else some (.stop (Out.ret false)):=by
          intro w hw
          have hk:w < m.aB.aX.length:=by rw [h2.2.1];omega
          have hlen:=hsl.2 _ (List.getElem_mem hk)
          have em:Int.tmod (w:Int) 3=((w % 3:Nat):Int):=by rw [uN (by omega)];omega
          simp only [pN]
          rw [if_pos (by simp;omega)]
          simp only [Option.bind_some,aT hk,em]
          rw [IC h1.1 (by omega) (by omega),cV hk,aK (by omega) (by omega)]
          by_cases q:yZ m w
          · rw [if_pos q,decide_eq_true (show yY m.aC (cL m.aB.aX w) ((w % 3:Nat):Int) from q)];rfl
          · rw [if_neg q,decide_eq_false (show ¬yY m.aC (cL m.aB.aX w) ((w % 3:Nat):Int) from q)];rfl
        refine rL (f:=pN m) 9 (fun k=>(k:Int)) (fun w=>yZ m w) _ _ (fun k hk hx=>?_) (fun k hk hx=>?_) ?_
        · rw [hst k hk,if_pos hx]
        · rw [hst k hk,if_neg hx]
        · simp [pN,h2.2.1]
      have k2:loop (pO m) 0=some (if ∀k,k < 3→EW m k then Out.brk () else Out.ret false):=by
        have hst:∀w:Nat,w < 3→pO m (w:Int)=if EW m w then some (.next ((w+1:Nat):Int)) else some (.stop (Out.ret false)):=by
          intro w hw
          have hk:w < m.aB.Global.length:=by rw [h2.1];omega
          have hlen:=hsl.1 _ (List.getElem_mem hk)
          simp only [pO]
          rw [if_pos (by simp;omega)]
          simp only [Option.bind_some,aT hk]
          rw [IC h1.1 (by omega) (by omega),cV hk,aK (by omega) (by omega)]
          by_cases q:EW m w
          · rw [if_pos q,decide_eq_true (show yY m.aC (cL m.aB.Global w) (w:Int) from q)];rfl
          · rw [if_neg q,decide_eq_false (show ¬yY m.aC (cL m.aB.Global w) (w:Int) from q)];rfl
        refine rL (f:=pO m) 3 (fun k=>(k:Int)) (fun w=>EW m w) _ _ (fun k hk hx=>?_) (fun k hk hx=>?_) ?_
        · rw [hst k hk,if_pos hx]
        · rw [hst k hk,if_neg hx]
        · simp [pO,h2.1]
      rw [k2]
      by_cases q:∀k,k < 3→EW m k
      · rw [if_pos q]
        simp only [Option.bind_some,N0,NZ]
        rw [k3]
        by_cases q2:∀k,k < 9→yZ m k
        · rw [if_pos q2,decide_eq_true (show oM m from ⟨⟨h1,h2⟩,q,q2⟩)];rfl
        · rw [if_neg q2,decide_eq_false (fun x:oM m=>q2 x.2.2)];rfl
      · rw [if_neg q,decide_eq_false (fun x:oM m=>q x.2.1)];rfl
    · rw [decide_eq_false (fun q:oM m=>h2 q.1.2),decide_eq_true h1,decide_eq_false h2];rfl
  · rw [decide_eq_false (fun q:oM m=>h1 q.1.1),decide_eq_false h1];rfl
end Go.Gv
end
noncomputable section
set_option linter.unusedVariables false
set_option linter.unusedSimpArgs false
set_option linter.unusedSectionVars false
namespace Go.Gv
theorem BR{l:List aH}{s:aH}(h:s∈l):s.aP.length≤(cK l).length:=by
  obtain⟨k,hk,rfl⟩:=List.mem_iff_getElem.1 h
  exact MN l hk
theorem nE(l:aB):(dC l).length=(cK l.Global).length+(cK l.aX).length:=by simp [dC]
def tM(m:Mem):Prop:=m.aC.Bytes.length≤1048576∧m.aC.Class.length≤1048576∧m.aB.Global.length≤1048576∧m.aB.aX.length≤1048576∧(dC m.aB).length≤1048576
theorem tM.SO{m:Mem}(h:tM m):(∀s∈m.aB.Global,s.aP.length≤1048576)∧∀s∈m.aB.aX,s.aP.length≤1048576:=by
  have:=nE m.aB
  have h5:=h.2.2.2.2
  exact⟨fun s hm=>by have:=BR hm;omega,fun s hm=>by have:=BR hm;omega⟩
end Go.Gv
end
noncomputable section
set_option linter.unusedVariables false
set_option linter.unusedSimpArgs false
set_option linter.unusedSectionVars false
namespace Go.Gv
def POk(e:Int)(p:gR):Prop:=(0≤p.aG∧p.aG≤e)∧(0≤p.Seen∧p.Seen≤2)∧(p.On=false→p=⟨false,0,false,0⟩)
instance (e:Int) (p:gR):Decidable (POk e p):=by unfold POk;infer_instance
def FR(c:aD):Prop:=(0≤c.aG∧c.aG≤100000)∧c.aQ.length=3∧∀p∈c.aQ,POk c.aG p
instance (c:aD):Decidable (FR c):=by unfold FR;infer_instance
theorem fL(c:aD):jU c=some (decide (FR c)):=by
  unfold jU
  rw [bQ]
  by_cases h1:0≤c.aG∧c.aG≤100000
  · by_cases h2:c.aQ.length=3
    · simp only [Option.bind_some,h1,h2,lE]
      have key:∀k:Nat,k≤3→loop (oP c) (k:Int)=some (if ∀p∈c.aQ.drop k,POk c.aG p then Out.brk () else Out.ret false):=by
        refine aA4 3 _ fun k hk=>?_
        by_cases h3:k < 3
        · have hd:c.aQ.drop k=c.aQ[k] :: c.aQ.drop (k+1):=List.drop_eq_getElem_cons (by omega)
          simp only [oP]
          rw [if_pos (by simp;omega),aT (by omega)]
          simp only [Option.bind_some,bQ,jG,hd]
          rw [gQ (by simp [maxLen];omega)]
          generalize c.aQ[k]=p
          have hp:POk c.aG p↔decide (0≤p.aG∧p.aG≤c.aG)=true∧decide (0≤p.Seen∧p.Seen≤2)=true∧(p.On=false→decide (p=⟨false,0,false,0⟩)=true):=by simp only [POk,decide_eq_true_eq]
          simp only [List.forall_mem_cons,hp]
          generalize decide (0≤p.aG∧p.aG≤c.aG)=b1
          generalize decide (0≤p.Seen∧p.Seen≤2)=b2
          generalize decide (p=⟨false,0,false,0⟩)=b3
          generalize p.On=b4
          cases b1 <;> cases b2 <;> cases b3 <;> cases b4 <;> simp [h3]
        · left
          obtain rfl:k=3:=by omega
          simp [oP,List.drop_eq_nil_of_le (show c.aQ.length≤3 by omega)]
      have:=key 0 (by omega)
      simp only [Int.ofNat_zero,List.drop_zero] at this
      have e:decide (FR c)=if ∀p∈c.aQ,POk c.aG p then true else false:=by
        have:FR c↔∀p∈c.aQ,POk c.aG p:=⟨fun h=>h.2.2,fun h=>⟨h1,h2,h⟩⟩
        simp [this]
      rw [e]
      simp only [Int.cast_ofNat_Int] at *
      have t0:loop (oP c) 0=_:=this
      by_cases h5:∀p∈c.aQ,POk c.aG p
      · rw [if_pos h5] at t0 ⊢;rw [t0];simp [BZ,J1]
      · rw [if_neg h5] at t0 ⊢;rw [t0];simp [BZ]
    · simp [h1,h2,lE,FR]
      omega
  · simp [h1,lE,FR]
theorem aD3(p:gR)(c:aD):qT p c=some (!decide (POk c.aG p)):=by
  unfold qT i9
  rw [dL,dL]
  have hp:decide (POk c.aG p)=(decide (0≤p.aG∧p.aG≤c.aG) && (decide (0≤p.Seen∧p.Seen≤2) && (p.On || decide (p=⟨false,0,false,0⟩)))):=by
    rw [Bool.eq_iff_iff];simp only [POk,decide_eq_true_eq,Bool.and_eq_true,Bool.or_eq_true]
    by_cases h:p.On=true
    · simp [h]
    · simp [(by simpa using h:p.On=false)]
  rw [hp]
  generalize decide (0≤p.aG∧p.aG≤c.aG)=b1
  generalize decide (0≤p.Seen∧p.Seen≤2)=b2
  generalize decide (p=⟨false,0,false,0⟩)=b3
  generalize p.On=b4
  cases b1 <;> cases b2 <;> cases b3 <;> cases b4 <;> rfl
theorem aB0{l:List gR}(hl:l.length≤maxLen)(f:gR→Bool):i7 l (fun x=>some (f x))=some (l.any f):=by
  unfold i7 qS
  have key:∀k:Nat,k≤l.length→loop (gJ l (fun x=>some (f x))) (k:Int)=some (if (l.drop k).any f then Out.ret ((k+(l.drop k).findIdx f:Nat):Int) else Out.brk ()):=by
    refine aA4 l.length _ fun k hk=>?_
    by_cases h3:k < l.length
    · have hd:l.drop k=l[k] :: l.drop (k+1):=List.drop_eq_getElem_cons h3
      simp only [gJ]
      rw [if_pos (by simp;omega),aT h3,gQ (mR h3 hl),hd]
      simp only [Option.bind_some,List.any_cons,List.findIdx_cons]
      by_cases h4:f l[k]=true
      · left;simp [h4]
      · right
        have h4:f l[k]=false:=by simpa using h4
        refine⟨h3,by simp [h4],?_⟩
        simp only [h4,Bool.false_or,cond_false]
        congr 2;omega
    · left
      obtain rfl:k=l.length:=by omega
      simp [gJ]
  have t0:loop (gJ l (fun x=>some (f x))) 0=_:=key 0 (by omega)
  rw [t0]
  simp only [List.drop_zero]
  by_cases h:l.any f=true
  · simp [h,mZ]
  · have h:l.any f=false:=by simpa using h
    simp [h,mZ,wR]
theorem lP{c:aD}(hc:c.aQ.length≤maxLen):jX c=some (decide (FR c)):=by
  unfold jX oX
  rw [dL]
  have e:(fun y0=>qT y0 c)=fun y0=>some (!decide (POk c.aG y0)):=funext fun y=>aD3 y c
  rw [e,aB0 hc]
  by_cases h1:0≤c.aG∧c.aG≤100000
  · by_cases h2:c.aQ.length=3
    · have:FR c↔∀p∈c.aQ,POk c.aG p:=⟨fun h=>h.2.2,fun h=>⟨h1,h2,h⟩⟩
      have e2:(c.aQ.any fun y0=>!decide (POk c.aG y0))=!decide (∀p∈c.aQ,POk c.aG p):=by
        rw [Bool.eq_iff_iff];simp
      simp [h1,h2,this,e2]
    · have:¬(c.aQ.length:Int)=3:=by omega
      simp [h1,this,h2,FR]
  · simp [h1,FR]
end Go.Gv
end
noncomputable section
set_option linter.unusedVariables false
set_option linter.unusedSimpArgs false
set_option linter.unusedSectionVars false
namespace Go.Gv
def bE(l:List aR):List cT:=l.flatMap aR.Rows
theorem EH{l:List aR}{k:Nat}(h:k < l.length):bE (l.take (k+1))=bE (l.take k)++l[k].Rows:=by
  unfold bE
  rw [List.take_succ_eq_append_getElem h,List.flatMap_append];simp
theorem W8(l:List aR)(k:Nat):(bE (l.take k)).length≤(bE l).length:=by
  have:bE l=bE (l.take k)++bE (l.drop k):=by
    unfold bE;rw [←List.flatMap_append,List.take_append_drop]
  rw [this];simp
theorem aIW(l:List aR){k:Nat}(h:k < l.length):l[k].Rows.length≤(bE l).length:=by
  have h1:=W8 l (k+1)
  rw [EH h] at h1
  simp at h1;omega
theorem R0{l:List aR}{s:aR}(h:s∈l):s.Rows.length≤(bE l).length:=by
  obtain⟨k,hk,rfl⟩:=List.mem_iff_getElem.1 h
  exact aIW l hk
theorem EI{l:List aR}(h:(bE l).length≤1073741824)(hl:l.length≤maxLen):wQ l=some (bE l):=by
  unfold wQ
  have k1:loop (qN l) ([],0)=some (bE l):=by
    refine f9 (f:=qN l) l.length (fun k=>(bE (l.take k),(k:Int))) _ (fun k hk=>?_) ?_
    · have h1:=W8 l (k+1)
      rw [EH hk] at h1
      simp only [qN]
      rw [if_pos (by simp;omega),aT hk]
      simp only [Option.bind_some]
      rw [aO (by simp at h1;omega),EH hk,gQ (mR hk hl)]
    · simp [qN]
  rw [k1];rfl
def kA(h:Int):Prop:=(32≤h∧h≤223)∧h % 32 < 24
instance (h:Int):Decidable (kA h):=by unfold kA;infer_instance
theorem dM(h:Int):fI h=some (decide (kA h)):=by
  unfold fI rZ kA
  rw [bQ]
  by_cases q:32≤h∧h≤223
  · simp [q,uN (show 0≤h by omega)]
  · simp [q]
theorem gM(h:Int):fJ h=some (decide (kA h)):=by
  unfold fJ kL kA
  rw [dL]
  by_cases q:32≤h∧h≤223
  · simp [q,uN (show 0≤h by omega)]
  · simp [q]
theorem kA.mod{h:Int}(q:kA h):Int.tmod h 32=h % 32∧0≤h % 32∧h % 32≤23:=by
  unfold kA at q
  exact⟨uN (by omega),by omega,by omega⟩
theorem cM(h:Int):d9 h=some (if kA h then h % 32 else -1):=by
  unfold d9
  rw [dM]
  by_cases q:kA h
  · simp [q,q.mod.1]
  · simp [q]
def uQ(r:cT):Prop:=kA r.Handle∧0≤r.aG∧r.aG≤100000
instance (r:cT):Decidable (uQ r):=by unfold uQ;infer_instance
def iY(r:cT):Int:=r.Handle % 32
def nF(l:List aR):Prop:=l.length=3∧(bE l).length≤24∧(∀r∈bE l,uQ r)∧((bE l).map iY).Nodup
instance (l:List aR):Decidable (nF l):=by unfold nF;infer_instance
def goR:List Bool→List cT→Option (List Bool)
  | met,[]=>some met
  | met,r :: t=>if uQ r∧met.getD (iY r).toNat true=false then goR (met.set (iY r).toNat true) t else none
theorem aH7:∀{xs:List cT} {met m:List Bool},goR met xs=some m→m.length=met.length
  | [],met,m,h=>by simp [goR] at h;rw [h]
  | x :: r, met, m, h => by
    simp only [goR] at h
    split at h
    · have:=aH7 h;simpa using this
    · cases h
theorem W9:∀(a b:List cT) (met:List Bool),goR met (a++b)=(goR met a).bind fun m=>goR m b
  | [],b,met=>rfl
  | x :: r, b, met => by
    simp only [List.cons_append,goR]
    split
    · exact W9 r b _
    · rfl
theorem aD4:∀(xs:List cT) (met:List Bool),(goR met xs).isSome=true↔(∀r∈xs,uQ r)∧(uP met (xs.map iY)).isSome=true
  | [],met=>by simp [goR,uP]
  | x :: r, met => by
    simp only [goR,List.map_cons,uP]
    by_cases h:uQ x
    · have hm:=h.1.mod
      have hs:0≤iY x∧iY x≤23:=hm.2
      by_cases h2:met.getD (iY x).toNat true=false
      · rw [if_pos ⟨h,h2⟩,if_pos ⟨hs,h2⟩,aD4 r _]
        simp [h]
      · rw [if_neg (fun q=>h2 q.2),if_neg (fun q=>h2 q.2)];simp
    · rw [if_neg (fun q=>h q.1)]
      constructor
      · intro q;cases q
      · rintro⟨q,_⟩;exact(h (q x List.mem_cons_self)).elim
theorem aIX{s:aR}(hl:s.Rows.length≤maxLen):∀d k (met:List Bool),k+d=s.Rows.length→met.length=24→loop (jK s) ((k:Int),met)=some (aBY (goR met (s.Rows.drop k))):=by
  intro d
  induction d with
  | zero =>
    intro k met hk hm
    rw [bT (r:=Out.brk met) (by simp [jK];omega),List.drop_eq_nil_of_le (by omega)];rfl
  | succ d ih =>
    intro k met hk hm
    have hk':k < s.Rows.length:=by omega
    have hd:s.Rows.drop k=s.Rows[k] :: s.Rows.drop (k+1):=List.drop_eq_getElem_cons hk'
    have hst:jK s ((k:Int),met)=if uQ s.Rows[k]∧met.getD (iY s.Rows[k]).toNat true=false then some (.next (((k+1:Nat):Int),met.set (iY s.Rows[k]).toNat true)) else some (.stop (Out.ret false)):=by
      simp only [jK]
      rw [if_pos (by simp;omega),aT hk']
      simp only [Option.bind_some,gM,dL]
      generalize s.Rows[k]=x
      by_cases q:kA x.Handle
      · by_cases q2:0≤x.aG∧x.aG≤100000
        · have hm2:=q.mod
          obtain⟨j,hj0⟩:=Int.eq_ofNat_of_zero_le hm2.2.1
          have hj:j < met.length:=by omega
          have e:met.getD j true=met[j]:=by rw [List.getD_eq_getElem?_getD,List.getElem?_eq_getElem hj];rfl
          have hr:uQ x:=⟨q,q2⟩
          simp only [q,q2,and_self,decide_true,Bool.not_true,Bool.false_eq_true,if_false,hJ,hm2.1,hj0,Int.toNat_natCast,hr,true_and,iY,e]
          rw [aO (by omega),aT hj]
          simp only [Option.bind_some]
          cases met[j]
          · simp only [Bool.false_eq_true,if_false,if_true]
            rw [aO (by omega),gQ (mR hk' hl)]
          · simp
        · rw [decide_eq_true q,decide_eq_false q2];simp only [Bool.not_true,Bool.not_false,Bool.false_eq_true,if_false,if_true,hJ];rw [if_neg (fun y:uQ x∧_=>q2 y.1.2)]
      · rw [decide_eq_false q];simp only [Bool.not_false,if_true,hJ];rw [if_neg (fun y:uQ x∧_=>q y.1.1)]
    rw [hd,goR]
    by_cases q:uQ s.Rows[k]∧met.getD (iY s.Rows[k]).toNat true=false
    · rw [if_pos q] at hst ⊢
      rw [bM hst,ih (k+1) _ (by omega) (by simpa using hm)]
    · rw [if_neg q] at hst ⊢
      rw [bT hst];rfl
theorem aIY{l:List aR}(hn:l.length≤1000)(hs:∀s∈l,s.Rows.length≤maxLen):∀d k (met:List Bool),k+d=l.length→met.length=24 →
    loop (jL l) ((k:Int),met)=some (if (goR met (bE (l.drop k))).isSome=true then Out.brk () else Out.ret false):=by
  intro d
  induction d with
  | zero =>
    intro k met hk hm
    rw [List.drop_eq_nil_of_le (by omega),if_pos (show(goR met (bE [])).isSome=true from rfl)]
    refine bT ?_
    simp only [jL]
    rw [if_neg (by simp;omega)]
  | succ d ih =>
    intro k met hk hm
    have hk':k < l.length:=by omega
    have hd:l.drop k=l[k] :: l.drop (k+1):=List.drop_eq_getElem_cons hk'
    have hsk:=hs _ (List.getElem_mem hk')
    have hf:bE (l.drop k)=l[k].Rows++bE (l.drop (k+1)):=by unfold bE;rw [hd,List.flatMap_cons]
    have h4:=aIX hsk _ 0 met (Nat.zero_add _) hm
    rw [show((0:Nat):Int)=0 from rfl,List.drop_zero] at h4
    have hst:jL l ((k:Int),met)=(match goR met l[k].Rows with | some m=>some (.next (((k+1:Nat):Int),m)) | none=>some (.stop (Out.ret false))):=by
      simp only [jL]
      rw [if_pos (by simp;omega),aT hk']
      simp only [Option.bind_some]
      rw [h4]
      cases goR met l[k].Rows with
      | none=>rfl
      | some m=>simp only [Option.bind_some,aBY,KB,vJ];rw [aK (by omega) (by omega)];rfl
    rw [hf,W9]
    cases hg:goR met l[k].Rows with
    | none =>
      rw [hg] at hst
      rw [bT hst,if_neg (by simp)]
    | some m =>
      rw [hg] at hst
      rw [bM hst,ih (k+1) m (by omega) (by rw [aH7 hg];exact hm)]
      simp only [Option.bind_some]
theorem FT{l:List aR}(hn:l.length≤1000)(h:(bE l).length≤1073741824):kS l=some ((bE l).length:Int):=by
  unfold kS
  have key:loop (gY l) (0,0)=some ((bE l).length:Int):=by
    refine f9 (f:=gY l) l.length (fun k=>(((bE (l.take k)).length:Int),(k:Int))) _ (fun k hk=>?_) ?_
    · have h1:=W8 l (k+1)
      rw [EH hk,List.length_append] at h1
      simp only [gY]
      rw [if_pos (by simp;omega),aT hk]
      simp only [Option.bind_some]
      rw [aK (by omega) (by omega),aK (by omega) (by omega),EH hk,List.length_append]
      simp
    · simp [gY]
  rw [key];rfl
theorem vW{l:List aR}(h:(bE l).length≤1073741824):j5 l=some (decide (nF l)):=by
  unfold j5
  by_cases h3:l.length=3
  · have n1:((l.length:Int) != 3)=false:=by simp;omega
    have hb:(1073741824:Nat)≤maxLen:=by simp [maxLen]
    simp only [n1,Bool.false_eq_true,if_false]
    have key:=aIY (l:=l) (by omega) (fun s hs=>by have:=R0 hs;omega) l.length 0 [false,false,false,false,false,false,false,false,false,false,false,false,false,false,false,false,false,false,false,false,false,false,false,false] (by omega) rfl
    rw [show((0:Nat):Int)=0 from rfl,List.drop_zero] at key
    rw [key]
    have hm0:∀j:Nat,j < 24→[false,false,false,false,false,false,false,false,false,false,false,false,false,false,false,false,false,false,false,false,false,false,false,false].getD j true=false:=by decide
    have hiff:nF l↔(bE l).length≤24∧(goR [false,false,false,false,false,false,false,false,false,false,false,false,false,false,false,false,false,false,false,false,false,false,false,false] (bE l)).isSome=true:=by
      rw [aD4,O5 _ _ rfl]
      have hr:(∀r∈bE l,uQ r)→∀x∈(bE l).map iY,0≤x∧x≤23:=by
        intro q x hx
        obtain⟨r,hr,rfl⟩:=List.mem_map.1 hx
        exact(q r hr).1.mod.2
      constructor
      · rintro⟨_,q1,q2,q3⟩
        exact⟨q1,q2,hr q2,q3,fun x hx=>hm0 _ (by have:=hr q2 x hx;omega)⟩
      · rintro⟨q1,q2,_,q3,_⟩
        exact⟨h3,q1,q2,q3⟩
    by_cases q:(goR [false,false,false,false,false,false,false,false,false,false,false,false,false,false,false,false,false,false,false,false,false,false,false,false] (bE l)).isSome=true
    · rw [if_pos q]
      simp only [Option.bind_some,KC,vI]
      rw [FT (by omega) h]
      simp only [Option.bind_some]
      congr 1
      rw [Bool.eq_iff_iff];simp only [decide_eq_true_eq]
      rw [hiff]
      exact⟨fun a=>⟨by omega,q⟩,fun a=>by omega⟩
    · rw [if_neg q,decide_eq_false (fun x=>q (hiff.1 x).2)];rfl
  · have n1:((l.length:Int) != 3)=true:=by simp;omega
    simp only [n1,if_true]
    rw [decide_eq_false (fun q:nF l=>h3 q.1)]
def cS(h:Int):Prop:=h=0∨kA h
instance (h:Int):Decidable (cS h):=by unfold cS;infer_instance
def EX(z:List Int):Prop:=z.length=3∧∀h∈z,cS h
instance (z:List Int):Decidable (EX z):=by unfold EX;infer_instance
theorem uR{z:List Int}(hl:z.length≤maxLen):zS z=some (decide (EX z)):=by
  unfold zS
  have hst:∀k (hk:k < z.length),tV z (k:Int)=if cS z[k] then some (.next ((k+1:Nat):Int)) else some (.stop (Out.ret false)):=by
    intro k hk
    simp only [tV,AD]
    rw [if_pos (by simp;omega),aT hk,gQ (mR hk hl)]
    simp only [Option.bind_some,dM]
    generalize z[k]=x
    by_cases q:x=0
    · have n:(x != 0)=false:=by simp only [bne_eq_false_iff_eq];exact q
      rw [n,if_pos (show cS x from .inl q)];rfl
    · have n:(x != 0)=true:=by simp only [bne_iff_ne];exact q
      by_cases q2:kA x
      · rw [n,decide_eq_true q2,if_pos (show cS x from .inr q2)];rfl
      · rw [n,decide_eq_false q2,if_neg (fun a:cS x=>a.elim q q2)];rfl
  have key:=iJ (f:=tV z) z (fun k=>(k:Int)) cS (Out.brk ()) (Out.ret false) (fun k hk hx=>by rw [hst k hk,if_pos hx]) (fun k hk hx=>by rw [hst k hk,if_neg hx]) (by simp [tV])
  rw [show((0:Nat):Int)=0 from rfl] at key
  rw [key]
  by_cases q:∀x∈z,cS x
  · rw [if_pos q]
    have:EX z↔z.length=3:=⟨fun a=>a.1,fun a=>⟨a,q⟩⟩
    simp only [Option.bind_some,NW,NV,this]
    congr 1;rw [Bool.eq_iff_iff];simp only [beq_iff_eq,decide_eq_true_eq];omega
  · rw [if_neg q,decide_eq_false (fun a:EX z=>q a.2)];rfl
theorem G0{z:List Int}(hl:z.length≤maxLen):zV z=some (decide (EX z)):=by
  unfold zV AJ
  have e:(fun y0=>C2 y0)=fun y:Int=>some (!decide (cS y)):=by
    funext y
    unfold C2 nR qX
    rw [gM]
    by_cases q:y=0
    · have n:(y == 0)=true:=by simp only [beq_iff_eq];exact q
      rw [n,decide_eq_true (show cS y from .inl q)];rfl
    · have n:(y == 0)=false:=by simp only [beq_eq_false_iff_ne];exact q
      by_cases q2:kA y
      · rw [n,decide_eq_true q2,decide_eq_true (show cS y from .inr q2)];rfl
      · rw [n,decide_eq_false q2,decide_eq_false (fun a:cS y=>a.elim q q2)];rfl
  rw [e,yX hl,AZ]
  by_cases h3:z.length=3
  · have n:((z.length:Int) == 3)=true:=by simp;omega
    have:EX z↔∀h∈z,cS h:=⟨fun a=>a.2,fun a=>⟨h3,a⟩⟩
    simp only [n,if_true,Option.bind_some,Bool.not_not,this]
  · have n:((z.length:Int) == 3)=false:=by simp;omega
    simp only [n,Bool.false_eq_true,if_false]
    rw [decide_eq_false (fun a:EX z=>h3 a.1)]
end Go.Gv
end
noncomputable section
set_option linter.unusedVariables false
set_option linter.unusedSimpArgs false
set_option linter.unusedSectionVars false
namespace Go.Gv
theorem EJ{α:Type}(l:List α)(f:α→Bool){body:Int→Option (Step Int (Out Unit Int))}(hb:∀k (hk:k < l.length),body (k:Int)=if f l[k] then some (.stop (.ret (k:Int))) else some (.next ((k+1:Nat):Int)))(he:body (l.length:Int)=some (.stop (.brk ()))) :
    ∃o,loop body 0=some o∧match o with | .brk _=>l.any f=false | .ret r=>0≤r∧l.any f=true:=by
  have key:=aIU (f:=body) l.length (fun k=>(k:Int)) (fun k=>if (l.drop k).any f then Out.ret ((k+(l.drop k).findIdx f:Nat):Int) else Out.brk ()) (fun k hk=>by
    by_cases h:k < l.length
    · have hd:l.drop k=l[k] :: l.drop (k+1):=List.drop_eq_getElem_cons h
      rw [hb k h,hd]
      simp only [List.any_cons,List.findIdx_cons]
      by_cases h4:f l[k]=true
      · left;simp [h4]
      · right
        have h4:f l[k]=false:=by simpa using h4
        refine⟨h,by simp [h4],?_⟩
        simp only [h4,Bool.false_or,cond_false]
        congr 2;omega
    · left
      obtain rfl:k=l.length:=by omega
      rw [he];simp) 0 (Nat.zero_le _)
  rw [show((0:Nat):Int)=0 from rfl,List.drop_zero] at key
  refine⟨_,key,?_⟩
  by_cases h:l.any f=true
  · rw [if_pos h];exact⟨by omega,h⟩
  · rw [if_neg h];simpa using h
theorem OA{l:List cT}(hl:l.length≤maxLen)(f:cT→Bool):f7 l (fun x=>some (f x))=some (l.any f):=by
  obtain⟨o,e,h⟩:=EJ l f (body:=iM l (fun x=>some (f x))) (fun k hk=>by
    simp only [iM]
    rw [if_pos (by simp;omega),aT hk,gQ (mR hk hl)];rfl) (by simp [iM])
  unfold f7 pS
  rw [e]
  cases o with
  | brk u=>simp only at h;simp [l9,uD,h]
  | ret r=>simp only at h;simp [l9,h]
theorem MO{l:List aR}(hl:l.length≤maxLen)(f:aR→Bool)(g:aR→Option Bool)(hg:∀x∈l,g x=some (f x)):fQ l g=some (l.any f):=by
  obtain⟨o,e,h⟩:=EJ l f (body:=iC l g) (fun k hk=>by
    simp only [iC]
    rw [if_pos (by simp;omega),aT hk,gQ (mR hk hl)]
    simp only [Option.bind_some,hg _ (List.getElem_mem hk)]) (by simp [iC])
  unfold fQ oA
  rw [e]
  cases o with
  | brk u=>simp only at h;simp [lA,tE,h]
  | ret r=>simp only at h;simp [lA,h]
theorem MP{l:List aH}(hl:l.length≤maxLen)(f:aH→Bool)(g:aH→Option Bool)(hg:∀x∈l,g x=some (f x)):fS l g=some (l.any f):=by
  obtain⟨o,e,h⟩:=EJ l f (body:=iD l g) (fun k hk=>by
    simp only [iD]
    rw [if_pos (by simp;omega),aT hk,gQ (mR hk hl)]
    simp only [Option.bind_some,hg _ (List.getElem_mem hk)]) (by simp [iD])
  unfold fS oB
  rw [e]
  cases o with
  | brk u=>simp only at h;simp [lB,tF,h]
  | ret r=>simp only at h;simp [lB,h]
theorem contains_eq{l:List Int}(hl:l.length≤maxLen)(v:Int):mH l v=some (decide (v∈l)):=by
  obtain⟨o,e,h⟩:=EJ l (fun x=>v == x) (body:=dT l v) (fun k hk=>by
    simp only [dT]
    rw [if_pos (by simp;omega),aT hk,gQ (mR hk hl)];rfl) (by simp [dT])
  have ha:l.any (fun x=>v == x)=decide (v∈l):=by
    rw [Bool.eq_iff_iff];simp
  rw [ha] at h
  unfold mH kM
  rw [e]
  cases o with
  | brk u=>simp only at h;simp [mG,CL,h]
  | ret r=>simp only at h;simp [mG,h]
theorem NH{l:List aH}{x:Int}:x∈cK l↔∃s∈l,x∈s.aP:=List.mem_flatMap
noncomputable section
variable {m:Mem} (hsh:d7 m.aC) (hl:(dC m.aB).length≤1073741824) (hg:m.aB.Global.length≤maxLen) (ho:m.aB.aX.length≤maxLen)
include hl hg ho
theorem XA(s:Int):FC m.aB s=some (decide (s∈dC m.aB)):=by
  have hb:(1073741824:Nat)≤maxLen:=by simp [maxLen]
  unfold FC
  rw [N8 hl hg ho]
  simp only [Option.bind_some]
  rw [GY (by omega)];rfl
theorem MQ(s:Int):BJ m.aB s=some (decide (s∈dC m.aB)):=by
  have hb:(1073741824:Nat)≤maxLen:=by simp [maxLen]
  have hal:=nE m.aB
  have e1:∀x∈m.aB.Global,mA x s=some (decide (s∈x.aP)):=fun x hx=>by
    have:=BR hx
    unfold mA;rw [contains_eq (by omega)];rfl
  have e2:∀x∈m.aB.aX,mA x s=some (decide (s∈x.aP)):=fun x hx=>by
    have:=BR hx
    unfold mA;rw [contains_eq (by omega)];rfl
  unfold BJ xU
  rw [MP hg (fun x=>decide (s∈x.aP)) _ e1,MP ho (fun x=>decide (s∈x.aP)) _ e2]
  have a1:(m.aB.Global.any fun x=>decide (s∈x.aP))=decide (s∈cK m.aB.Global):=by
    rw [Bool.eq_iff_iff];simp [NH]
  have a2:(m.aB.aX.any fun x=>decide (s∈x.aP))=decide (s∈cK m.aB.aX):=by
    rw [Bool.eq_iff_iff];simp [NH]
  rw [a1,a2]
  simp only [Option.bind_some,dC,List.mem_append]
  by_cases q:s∈cK m.aB.Global <;> simp [q]
def fV(m:Mem)(s:Int):Int:=if aV m.aC s < 0 then 0 else if s∈dC m.aB then 1 else if 6 < kO m.aC s then 2 else 3
include hsh
theorem T9(s:Int):CU m s=some (fV m s):=by
  unfold CU fV
  rw [gC hsh,XA hl hg ho]
  simp only [Option.bind_some]
  by_cases q:aV m.aC s < 0
  · simp [q]
  · rw [mB hsh (by omega)]
    by_cases q2:s∈dC m.aB
    · simp [q,q2]
    · by_cases q3:6 < kO m.aC s <;> simp [q,q2,q3]
theorem KL(s:Int):xV m s=some (fV m s):=by
  unfold xV fV
  rw [hU hsh,MQ hl hg ho]
  simp only [Option.bind_some]
  by_cases q:aV m.aC s < 0
  · simp [q]
  · rw [A1 hsh (by omega)]
    by_cases q2:s∈dC m.aB
    · simp [q,q2]
    · by_cases q3:6 < kO m.aC s <;> simp [q,q2,q3]
def nG(m:Mem)(h:Int):Prop:=kA h∧fV m (h % 32)=3∧kO m.aC (h % 32)=h / 32
instance (m:Mem) (h:Int):Decidable (nG m h):=by unfold nG;infer_instance
omit hl hg ho hsh in
theorem wW{m:Mem}{s:Int}(h:fV m s=3):0≤aV m.aC s:=by
  unfold fV at h
  split at h
  · omega
  · omega
theorem o9(h:Int):r9 m h=some (decide (nG m h)):=by
  unfold r9 oS
  rw [dM,cM]
  by_cases q:kA h
  · have hm:=q.mod
    rw [decide_eq_true q,if_pos q]
    simp only [Option.bind_some,if_true,T9 hsh hl hg ho]
    by_cases q2:fV m (h % 32)=3
    · have n:(fV m (h % 32) == 3)=true:=by simpa using q2
      have eg:w6 h=some (h / 32):=by
        unfold w6
        unfold kA at q
        rw [dM,decide_eq_true (show kA h from q),BQ (by omega),aK (by omega) (by omega)];rfl
      rw [n,mB hsh (wW q2),eg]
      simp only [if_true,Option.bind_some]
      congr 1;rw [Bool.eq_iff_iff];simp only [beq_iff_eq,decide_eq_true_eq]
      exact⟨fun a=>⟨q,q2,a⟩,fun a=>a.2.2⟩
    · have n:(fV m (h % 32) == 3)=false:=by simpa using q2
      rw [n,decide_eq_false (fun a:nG m h=>q2 a.2.1)];rfl
  · rw [decide_eq_false q,decide_eq_false (fun a:nG m h=>q a.1)];rfl
theorem EK(h:Int):wV m h=some (decide (nG m h)):=by
  unfold wV qY
  rw [gM]
  by_cases q:kA h
  · have hm:=q.mod
    rw [decide_eq_true q,hm.1]
    simp only [Option.bind_some,if_true,KL hsh hl hg ho]
    by_cases q2:fV m (h % 32)=3
    · have n:(fV m (h % 32) == 3)=true:=by simpa using q2
      have eg:aZ (Int.tdiv h 32)=h / 32:=by
        unfold kA at q
        rw [BQ (by omega),aK (by omega) (by omega)]
      rw [n,A1 hsh (wW q2),eg]
      simp only [if_true,Option.bind_some]
      congr 1;rw [Bool.eq_iff_iff];simp only [beq_iff_eq,decide_eq_true_eq]
      exact⟨fun a=>⟨q,q2,a⟩,fun a=>a.2.2⟩
    · have n:(fV m (h % 32) == 3)=false:=by simpa using q2
      rw [n,decide_eq_false (fun a:nG m h=>q2 a.2.1)];rfl
  · rw [decide_eq_false q,decide_eq_false (fun a:nG m h=>q a.1)];rfl
end
def sZ(b:aA)(r:cT):Prop:=nG b.Mem r.Handle∧r.aG≤b.aD.aG
instance (b:aA) (r:cT):Decidable (sZ b r):=by unfold sZ;infer_instance
def l7(b:aA):Prop:=(oM b.Mem∧FR b.aD∧nF b.aJ∧EX b.dI)∧∀r∈bE b.aJ,sZ b r
instance (b:aA):Decidable (l7 b):=by unfold l7;infer_instance
def R1(b:aA):Prop:=tM b.Mem∧b.aD.aQ.length≤1048576∧b.aJ.length≤1048576∧(bE b.aJ).length≤1048576∧b.dI.length≤1048576
noncomputable section
variable {b:aA} (hf:b.Mem.aC.Bytes.length≤maxLen∧(dC b.Mem.aB).length≤1073741824∧b.aD.aQ.length≤maxLen∧b.aJ.length≤maxLen∧(bE b.aJ).length≤1073741824∧b.dI.length≤maxLen)
include hf
theorem EL:qZ b=some (decide (l7 b)):=by
  obtain⟨f1,f2,f3,f4,f5,f6⟩:=hf
  unfold qZ m5
  rw [N9 f1 f2,lP f3,vW f5,G0 f6]
  by_cases q1:oM b.Mem
  · by_cases q2:FR b.aD
    · by_cases q3:nF b.aJ
      · by_cases q4:EX b.dI
        · have hg:b.Mem.aB.Global.length≤maxLen:=by rw [q1.1.2.1];simp [maxLen]
          have ho:b.Mem.aB.aX.length≤maxLen:=by rw [q1.1.2.2.1];simp [maxLen]
          have hmx:(1073741824:Nat)≤maxLen:=by simp [maxLen]
          simp only [decide_eq_true q1,decide_eq_true q2,decide_eq_true q3,decide_eq_true q4,Option.bind_some,Bool.not_true,Bool.false_eq_true,if_false]
          have e1:(fun y0=>vK y0 b)=fun r:cT=>some (!decide (sZ b r)):=by
            funext r
            unfold vK oC
            rw [EK q1.1.1.1 f2 hg ho]
            by_cases a1:nG b.Mem r.Handle
            · by_cases a2:r.aG≤b.aD.aG
              · rw [decide_eq_true a1,decide_eq_true (show sZ b r from ⟨a1,a2⟩),decide_eq_false (show ¬b.aD.aG < r.aG by omega)];rfl
              · rw [decide_eq_true a1,decide_eq_false (fun x:sZ b r=>a2 x.2),decide_eq_true (show b.aD.aG < r.aG by omega)];rfl
            · rw [decide_eq_false a1,decide_eq_false (fun x:sZ b r=>a1 x.1)];rfl
          have e2:∀l∈b.aJ,(fun y0=>AK y0 b) l=some (!decide (∀r∈l.Rows,sZ b r)):=fun l hl=>by
            have:=R0 hl
            simp only [AK]
            rw [e1,OA (by omega),AZ];rfl
          rw [MO f4 _ _ e2,AZ]
          have hiff:l7 b↔∀l∈b.aJ,∀r∈l.Rows,sZ b r:=by
            constructor
            · intro x l hl r hr
              exact x.2 r (List.mem_flatMap.2 ⟨l,hl,hr⟩)
            · intro x
              refine⟨⟨q1,q2,q3,q4⟩,fun r hr=>?_⟩
              obtain⟨l,hl,hr⟩:=List.mem_flatMap.1 hr
              exact x l hl r hr
          simp only [Option.bind_some,Bool.not_not,hiff]
        · rw [decide_eq_false (fun x:l7 b=>q4 x.1.2.2.2),decide_eq_true q1,decide_eq_true q2,decide_eq_true q3,decide_eq_false q4];rfl
      · rw [decide_eq_false (fun x:l7 b=>q3 x.1.2.2.1),decide_eq_true q1,decide_eq_true q2,decide_eq_false q3];rfl
    · rw [decide_eq_false (fun x:l7 b=>q2 x.1.2.1),decide_eq_true q1,decide_eq_false q2];rfl
  · rw [decide_eq_false (fun x:l7 b=>q1 x.1.1),decide_eq_false q1];rfl
end
end Go.Gv
end
noncomputable section
set_option linter.unusedVariables false
set_option linter.unusedSimpArgs false
namespace Go.Gv
theorem QH{α:Type}{f:(List α×Int)→Option (Step (List α×Int) (List α))}(l:List α)
    (h:∀k (hk:k < l.length),f (l.take k,(k:Int))=some (.next (l.take k ++ [l[k]],((k+1:Nat):Int)))) (he:f (l,(l.length:Int))=some (.stop l)):loop f ([],0)=some l:=by
  have:=f9 (f:=f) l.length (fun k=>(l.take k,(k:Int))) l (fun k hk=>by rw [h k hk,List.take_succ_eq_append_getElem hk]) (by rw [List.take_length];exact he)
  simpa using this
theorem aAJ{α:Type}{f:(Int×List α)→Option (Step (Int×List α) (List α))}(l:List α)
    (h:∀k (hk:k < l.length),f ((k:Int),l.take k)=some (.next (((k+1:Nat):Int),l.take k ++ [l[k]]))) (he:f ((l.length:Int),l)=some (.stop l)):loop f (0,[])=some l:=by
  have:=f9 (f:=f) l.length (fun k=>((k:Int),l.take k)) l (fun k hk=>by rw [h k hk,List.take_succ_eq_append_getElem hk]) (by rw [List.take_length];exact he)
  simpa using this
theorem zZ{l:List Int}(h:l.length≤1073741824):qP l=some l:=by
  unfold qP;rw [aO (by simpa using h)];rfl
theorem tA{l:List Int}(h:l.length≤1073741824):fO l=some l:=by
  unfold fO;rw [aO (by simpa using h)];rfl
theorem aB1{l:List gR}(h:l.length≤1073741824):sJ l=some l:=by
  unfold sJ;rw [aO (by simpa using h)];rfl
theorem ZG{l:List cT}(h:l.length≤1073741824):pZ l=some l:=by
  unfold pZ;rw [aO (by simpa using h)];rfl
theorem aAK{l:List aH}(hl:l.length≤1048576)(hs:∀s∈l,s.aP.length≤1048576):FD l=some l:=by
  unfold FD
  rw [QH l]
  · rfl
  · intro k hk
    have:=hs _ (List.getElem_mem hk)
    simp only [D0]
    rw [if_pos (by simp;omega),aT hk]
    simp only [Option.bind_some]
    rw [zZ (by omega),Option.bind_some,aO (by simp;omega),aK (by omega) (by omega)];rfl
  · simp [D0]
theorem ZH{l:aB}(h1:l.Global.length≤1048576)(h2:l.aX.length≤1048576)(h3:∀s∈l.Global,s.aP.length≤1048576)(h4:∀s∈l.aX,s.aP.length≤1048576):LK l=some l:=by
  unfold LK;rw [aAK h1 h3,aAK h2 h4];rfl
theorem G3{l:aB}(h1:l.Global.length≤1048576)(h2:l.aX.length≤1048576)(h3:∀s∈l.Global,s.aP.length≤1048576)(h4:∀s∈l.aX,s.aP.length≤1048576):fZ l=some l:=by
  unfold fZ
  rw [aAJ l.Global]
  · simp only [Option.bind_some,FG,FF]
    rw [aAJ l.aX]
    · rfl
    · intro k hk
      have:=h4 _ (List.getElem_mem hk)
      simp only [xN]
      rw [if_pos (by simp;omega),aT hk]
      simp only [Option.bind_some]
      rw [tA (by omega),Option.bind_some,aO (by simp;omega),xM,aK (by omega) (by omega)];rfl
    · simp [xN]
  · intro k hk
    have:=h3 _ (List.getElem_mem hk)
    simp only [xP]
    rw [if_pos (by simp;omega),aT hk]
    simp only [Option.bind_some]
    rw [tA (by omega),Option.bind_some,aO (by simp;omega),xO,aK (by omega) (by omega)];rfl
  · simp [xP]
theorem aB2{h:aC}(h1:h.Bytes.length≤1048576)(h2:h.Class.length≤1048576):LJ h=some h:=by
  unfold LJ;rw [zZ (by omega),zZ (by omega)];rfl
theorem JH{h:aC}(h1:h.Bytes.length≤1048576)(h2:h.Class.length≤1048576):pL h=some h:=by
  unfold pL;rw [tA (by omega),tA (by omega)];rfl
theorem SP{m:Mem}(h:tM m):LL m=some m:=by
  have a:=aB2 h.1 h.2.1
  have b:=ZH h.2.2.1 h.2.2.2.1 h.SO.1 h.SO.2
  unfold LL;rw [a,b];rfl
theorem aD5{m:Mem}(h:tM m):C0 m=some m:=by
  have a:=JH h.1 h.2.1
  have b:=G3 h.2.2.1 h.2.2.2.1 h.SO.1 h.SO.2
  unfold C0;rw [a,b];rfl
theorem kG{c:aD}(h:c.aQ.length≤1048576):sA c=some c:=by
  unfold sA;rw [aO (by simp;omega)];rfl
theorem A2{c:aD}(h:c.aQ.length≤1048576):kQ c=some c:=by
  unfold kQ;rw [aB1 (by omega)];rfl
theorem OB{l:List aR}(hl:l.length≤1048576)(hs:∀s∈l,s.Rows.length≤1048576):kR l=some l:=by
  unfold kR
  rw [QH l]
  · rfl
  · intro k hk
    have:=hs _ (List.getElem_mem hk)
    simp only [xQ]
    rw [if_pos (by simp;omega),aT hk]
    simp only [Option.bind_some]
    rw [ZG (by omega),Option.bind_some,aO (by simp;omega),aK (by omega) (by omega)];rfl
  · simp [xQ]
end Go.Gv
end
noncomputable section
set_option linter.unusedVariables false
set_option linter.unusedSimpArgs false
namespace Go.Gv
theorem hY(w:Int):d5 w=some (decide (0≤w∧w≤2)):=by
  unfold d5;rw [dL];rfl
noncomputable section
variable {c:aD} (hc:FR c) {w:Int} (hw:0≤w∧w≤2)
include hc
theorem FR.small:c.aQ.length≤1048576∧c.aQ.length≤maxLen:=by
  have:=hc.2.1;simp only [maxLen];omega
theorem FR.aB3{k:Nat}{p:gR}(hp:POk c.aG p):FR ⟨c.aG,c.aQ.set k p⟩:=⟨hc.1,by simpa using hc.2.1,fun q hq=>(List.mem_or_eq_of_mem_set hq).elim (hc.2.2 q) (fun e=>e ▸ hp)⟩
theorem FR.aTA(h:c.aG+1≤100000):FR ⟨c.aG+1,c.aQ⟩:=by
  have h1:=hc.1
  exact⟨⟨by simp only;omega,h⟩,hc.2.1,fun q hq=>by
    obtain⟨a,b,d⟩:=hc.2.2 q hq
    exact⟨⟨a.1,by simp only;omega⟩,b,d⟩⟩
include hw
theorem R2:∃p,idx c.aQ w=some p∧POk c.aG p:=by
  have h3:=hc.2.1
  rw [eO hw.1 (by omega)]
  exact⟨_,rfl,hc.2.2 _ (List.getElem_mem _)⟩
theorem aIZ(e:Int):∃r,BA c w e=some r∧FJ c w e=some r∧FR r.1∧r.1.aG=c.aG:=by
  obtain⟨p,hp,h1,⟨hs0,hs1⟩,h2⟩:=R2 hc hw
  have h3:=hc.2.1
  unfold BA FJ
  rw [kG hc.small.1,A2 hc.small.1,fL,lP hc.small.2,hY,bQ,decide_eq_true hc,decide_eq_true hw]
  simp only [Option.bind_some,Bool.not_true,Bool.false_eq_true,if_false,xE,yD,hp]
  cases h4:p.On
  · exact⟨_,rfl,rfl,hc,rfl⟩
  · cases h5:p.cR
    · by_cases h6:p.aG=e
      · simp only [mX,m7,h6,beq_self_eq_true,if_true,Bool.not_true,Bool.false_eq_true,if_false]
        exact⟨_,rfl,rfl,hc,rfl⟩
      · have h6':(p.aG == e)=false:=by simpa using h6
        simp only [mX,m7,h6',Bool.not_true,Bool.false_eq_true,if_false,hp,Option.bind_some]
        by_cases h7:p.Seen=2
        · simp only [h7,beq_self_eq_true,if_true,show ¬((2:Int) < 2) by omega,decide_false,Bool.false_eq_true,if_false]
          exact⟨_,rfl,rfl,hc.aB3 ⟨h1,by simp,fun q=>by simp [h4] at q⟩,rfl⟩
        · have h7':(p.Seen == 2)=false:=by simpa using h7
          simp only [h7',show p.Seen < 2 by omega,decide_true,if_true,Bool.false_eq_true,if_false]
          have hw7:aZ (p.Seen+1)=p.Seen+1:=aK (by omega) (by omega)
          exact⟨_,rfl,rfl,hc.aB3 ⟨h1,by simp only [hw7];omega,fun q=>by simp [h4] at q⟩,rfl⟩
    · exact⟨_,rfl,rfl,hc,rfl⟩
theorem aMI(e:Int):∃r,D4 c w e=some r∧I2 c w e=some r∧(FR r.1∧r.1.aG=c.aG)∧(r.2=false→r.1=c):=by
  obtain⟨p,hp,hpk⟩:=R2 hc hw
  have h3:=hc.2.1
  unfold D4 I2
  rw [kG hc.small.1,A2 hc.small.1,fL,lP hc.small.2,hY,bQ,bQ,dL,decide_eq_true hc,decide_eq_true hw]
  simp only [Option.bind_some,Bool.not_true,Bool.false_eq_true,if_false,tZ,uG,hp]
  by_cases h:0≤e∧e≤c.aG
  · simp only [decide_eq_true h,Bool.not_true,Bool.false_eq_true,if_false]
    exact⟨_,rfl,rfl,⟨hc.aB3 ⟨h,by simp,fun q=>by cases q⟩,rfl⟩,fun q=>by cases q⟩
  · simp only [decide_eq_false h,Bool.not_false,if_true]
    exact⟨_,rfl,rfl,⟨hc,rfl⟩,fun _=>rfl⟩
omit hw in
theorem aO4(e:Int):∃r,HN c e=some r∧NF c e=some r∧FR r.1∧c.aG≤r.1.aG:=by
  have h3:=hc.2.1
  unfold HN NF
  rw [kG hc.small.1,A2 hc.small.1,fL,lP hc.small.2,decide_eq_true hc]
  simp only [Option.bind_some,Bool.not_true,Bool.false_eq_true,if_false,xF,yE]
  by_cases h:c.aG=e
  · subst h
    simp only [bne_self_eq_false,Bool.false_eq_true,if_false]
    by_cases h:c.aG=100000
    · simp only [h,beq_self_eq_true,if_true];exact⟨_,rfl,rfl,hc,by simp [h]⟩
    · have h':(c.aG == 100000)=false:=by simpa using h
      have hE:=hc.1
      have hw7:aZ (c.aG+1)=c.aG+1:=aK (by omega) (by omega)
      simp only [h',Bool.false_eq_true,if_false,hw7];exact⟨_,rfl,rfl,hc.aTA (by omega),by simp only;omega⟩
  · have h':(c.aG != e)=true:=by simpa using h
    simp only [h',if_true];exact⟨_,rfl,rfl,hc,Int.le_refl _⟩
end
theorem aRO{b:aA}(hc:FR b.aD){w:Int}(hw:0≤w∧w≤2)(s:Sub) :
    ∃x y,BD b w s=some (x,y)∧sS s b w=some (y,x)∧∃cl,x=⟨b.Mem,cl,b.aJ,b.dI⟩∧FR cl∧b.aD.aG≤cl.aG:=by
  obtain⟨r,e1,e2,h3,h4⟩:=aMI hc hw s.E
  unfold BD sS
  rw [e1,e2]
  simp only [bC,bA,tK,Option.bind_some]
  by_cases p0:s.Pc=0
  · simp only [p0,beq_self_eq_true,if_true];exact⟨_,_,rfl,rfl,_,rfl,hc,by omega⟩
  · have p0':(s.Pc == 0)=false:=by simpa using p0
    simp only [p0',Bool.false_eq_true,if_false]
    by_cases p1:s.Pc=1
    · simp only [p1,beq_self_eq_true,if_true]
      cases h:r.2
      · rw [h4 h];exact⟨_,_,rfl,rfl,_,rfl,hc,by omega⟩
      · exact⟨_,_,rfl,rfl,_,rfl,h3.1,by rw [h3.2];exact Int.le_refl _⟩
    · have p1':(s.Pc == 1)=false:=by simpa using p1
      simp only [p1',Bool.false_eq_true,if_false]
      by_cases p2:s.Pc=2
      · simp only [p2,beq_self_eq_true,if_true]
        by_cases q:b.aD.aG=s.E
        · simp only [q,beq_self_eq_true,if_true];exact⟨_,_,rfl,rfl,_,rfl,hc,by omega⟩
        · have q':(b.aD.aG == s.E)=false:=by simpa using q
          simp only [q',Bool.false_eq_true,if_false];exact⟨_,_,rfl,rfl,_,rfl,hc,by omega⟩
      · have p2':(s.Pc == 2)=false:=by simpa using p2
        simp only [p2',Bool.false_eq_true,if_false];exact⟨_,_,rfl,rfl,_,rfl,hc,by omega⟩
theorem aF5{b:aA}(hc:FR b.aD)(s:Sub) :
    ∃x y,oT b s=some (x,y)∧lZ s b=some (y,x)∧∃cl,x=⟨b.Mem,cl,b.aJ,b.dI⟩∧FR cl∧b.aD.aG≤cl.aG:=by
  obtain⟨r2,e3,e4,h4⟩:=aO4 hc s.E
  unfold oT lZ jB
  rw [e3,e4,bQ,hY]
  simp only [bC,bA,nV,nW,jA,Option.bind_some]
  by_cases p0:s.Pc=0
  · simp only [p0,beq_self_eq_true,if_true];exact⟨_,_,rfl,rfl,_,rfl,hc,by omega⟩
  · have p0':(s.Pc == 0)=false:=by simpa using p0
    simp only [p0',Bool.false_eq_true,if_false]
    by_cases p1:s.Pc=1
    · simp only [p1,beq_self_eq_true,if_true,show((1:Int) == 2)=false from rfl,Bool.false_eq_true,if_false]
      by_cases hB:0≤s.B∧s.B≤2
      · obtain⟨r,e1,e2,h3,h3'⟩:=aIZ hc hB s.E
        simp only [decide_eq_true hB,Bool.not_true,Bool.false_eq_true,if_false,if_true,e1,e2,Option.bind_some]
        cases h:r.2
        · exact⟨_,_,rfl,rfl,_,rfl,h3,by rw [h3'];exact Int.le_refl _⟩
        · by_cases q:aZ (s.B+1)=3
          · simp only [q,beq_self_eq_true,if_true,Bool.not_true,Bool.false_eq_true,if_false];exact⟨_,_,rfl,rfl,_,rfl,h3,by rw [h3'];exact Int.le_refl _⟩
          · have q':(aZ (s.B+1) == 3)=false:=by simpa using q
            simp only [q',Bool.not_true,Bool.false_eq_true,if_false];exact⟨_,_,rfl,rfl,_,rfl,h3,by rw [h3'];exact Int.le_refl _⟩
      · simp only [decide_eq_false hB,Bool.not_false,Bool.false_eq_true,if_false,if_true]
        exact⟨_,_,rfl,rfl,_,rfl,hc,by omega⟩
    · have p1':(s.Pc == 1)=false:=by simpa using p1
      simp only [p1',Bool.false_eq_true,if_false]
      by_cases p2:s.Pc=2
      · simp only [p2,beq_self_eq_true,if_true]
        cases h:r2.2
        · simp only [Bool.false_eq_true,if_false];exact⟨_,_,rfl,rfl,_,rfl,h4⟩
        · simp only [if_true];exact⟨_,_,rfl,rfl,_,rfl,h4⟩
      · have p2':(s.Pc == 2)=false:=by simpa using p2
        simp only [p2',Bool.false_eq_true,if_false];exact⟨_,_,rfl,rfl,_,rfl,hc,by omega⟩
end Go.Gv
end
noncomputable section
set_option linter.unusedVariables false
set_option linter.unusedSimpArgs false
namespace Go.Gv
theorem aF6:∀(n:Nat) (l:List Int),l.Nodup→(∀x∈l,0≤x∧x < (n:Int))→l.length≤n
  | 0, l, _, h => by
    cases l with
    | nil=>simp
    | cons a t=>have:=h a (by simp);omega
  | n + 1, l, hn, h => by
    have ih:=aF6 n (l.erase (n:Int)) (hn.erase _) (fun x hx=>by
      have h1:=(hn.mem_erase_iff).1 hx
      have h2:=h x h1.2
      have:=h1.1
      omega)
    have:=List.length_erase (a:=(n:Int)) (l:=l)
    split at this <;> omega
theorem aB4(a b:List aR):bE (a++b)=bE a++bE b:=by simp [bE]
theorem aB5(a b:List aH):cK (a++b)=cK a++cK b:=by simp [cK]
theorem ID{l:List aR}{k:Nat}(hk:k < l.length)(x:aR):bE (l.set k x)=bE (l.take k)++(x.Rows++bE (l.drop (k+1))):=by
  rw [List.set_eq_take_append_cons_drop,if_pos hk,aB4];simp [bE]
theorem FU{l:List aR}{k:Nat}(hk:k < l.length):bE l=bE (l.take k)++(l[k].Rows++bE (l.drop (k+1))):=by
  conv=>lhs;rw [←List.set_getElem_self hk,ID hk]
theorem DQ{l:List aH}{k:Nat}(hk:k < l.length)(x:aH):cK (l.set k x)=cK (l.take k)++(x.aP++cK (l.drop (k+1))):=by
  rw [List.set_eq_take_append_cons_drop,if_pos hk,aB5];simp [cK]
theorem BS{l:List aH}{k:Nat}(hk:k < l.length):cK l=cK (l.take k)++(l[k].aP++cK (l.drop (k+1))):=by
  conv=>lhs;rw [←List.set_getElem_self hk,DQ hk]
def K6(l:List aR)(s:Int):Prop:=∃r∈bE l,kA r.Handle∧r.Handle % 32=s
instance (l:List aR) (s:Int):Decidable (K6 l s):=by unfold K6;infer_instance
noncomputable section
variable {l:List aR} (hl:nF l)
include hl
theorem nF.small:(bE l).length≤1073741824∧l.length≤maxLen∧l.length≤1048576∧∀s∈l,s.Rows.length≤24:=by
  have:=hl.1;have h2:=hl.2.1
  refine⟨by omega,by simp only [maxLen];omega,by omega,fun s hs=>?_⟩
  have:=R0 hs;omega
theorem KM(s:Int):IX l s=some (decide (K6 l s)):=by
  have hm:=hl.small
  unfold IX
  rw [EI hm.1 hm.2.1,Option.bind_some]
  have key:=iJ (f:=lL s (bE l)) (bE l) (fun k=>(k:Int)) (fun r=>¬(kA r.Handle∧r.Handle % 32=s)) (Out.brk ()) (Out.ret true)
    (fun k hk hp=>by
      have hk':=hl.2.1
      simp only [lL,vD]
      rw [if_pos (by simp;omega),aT hk,gQ (show k < maxLen by simp only [maxLen];omega)]
      simp only [Option.bind_some,dM,cM]
      by_cases q:kA (bE l)[k].Handle
      · have:((bE l)[k].Handle % 32 == s)=false:=by simpa using fun a=>hp ⟨q,a⟩
        simp [q,this]
      · simp [q])
    (fun k hk hp=>by
      have hp:=Classical.not_not.1 hp
      simp only [lL,vD]
      rw [if_pos (by simp;omega),aT hk]
      simp [dM,cM,hp.1,hp.2])
    (by simp [lL])
  have key':loop (lL s (bE l)) 0=_:=key
  rw [key']
  by_cases q:K6 l s
  · rw [if_neg (fun a=>by obtain⟨r,hr,e⟩:=q;exact a r hr e),decide_eq_true q];rfl
  · rw [if_pos (fun r hr e=>q ⟨r,hr,e⟩),decide_eq_false q];rfl
theorem KN(s:Int):yC l s=some (decide (K6 l s)):=by
  have hm:=hl.small
  unfold yC
  have e1:∀(r:cT),m6 r s=some (decide (kA r.Handle∧r.Handle % 32=s)):=by
    intro r
    unfold m6 mJ
    rw [gM]
    by_cases q:kA r.Handle
    · rw [q.mod.1];simp [q];rfl
    · simp [q]
  have e2:∀x∈l,yB x s=some (x.Rows.any fun r=>decide (kA r.Handle∧r.Handle % 32=s)):=by
    intro x hx
    unfold yB
    have:x.Rows.length≤maxLen:=by have:=hm.2.2.2 x hx;simp only [maxLen];omega
    rw [show(fun y0=>m6 y0 s)=fun r=>some (decide (kA r.Handle∧r.Handle % 32=s)) from funext e1,OA this];rfl
  rw [MO hm.2.1 (fun x=>x.Rows.any fun r=>decide (kA r.Handle∧r.Handle % 32=s)) _ e2]
  simp only [Option.bind_some]
  congr 1
  rw [Bool.eq_iff_iff,decide_eq_true_iff]
  simp only [List.any_eq_true,decide_eq_true_eq,K6,bE,List.mem_flatMap]
  constructor
  · rintro⟨x,hx,r,hr,h⟩;exact⟨r,⟨x,hx,hr⟩,h⟩
  · rintro⟨r,⟨x,hx,hr⟩,h⟩;exact⟨x,hx,r,hr,h⟩
theorem nF.more{k:Nat}(hk:k < l.length){r:cT}(hr:uQ r)(hn:¬K6 l (r.Handle % 32)):nF (l.set k ⟨l[k].Rows ++ [r]⟩):=by
  have e:=ID hk (⟨l[k].Rows ++ [r]⟩:aR)
  have p:(bE (l.set k ⟨l[k].Rows ++ [r]⟩)).Perm (r :: bE l):=by
    rw [e,FU hk]
    refine List.Perm.trans ?_ List.perm_middle
    simp only [List.append_assoc]
    exact List.Perm.append_left _ (by simp only [List.singleton_append];exact(List.perm_middle (l₁:=l[k].Rows) (l₂:=bE (l.drop (k+1))) (a:=r)))
  have h1:∀x∈bE (l.set k ⟨l[k].Rows ++ [r]⟩),uQ x:=fun x hx=>by
    rcases List.mem_cons.1 (p.mem_iff.1 hx) with rfl | h
    · exact hr
    · exact hl.2.2.1 x h
  have h2:((bE (l.set k ⟨l[k].Rows ++ [r]⟩)).map iY).Nodup:=by
    refine(List.Perm.nodup_iff (p.map iY)).2 ?_
    rw [List.map_cons,List.nodup_cons]
    refine⟨fun h=>hn ?_,hl.2.2.2⟩
    obtain⟨x,hx,e⟩:=List.mem_map.1 h
    exact⟨x,hx,(hl.2.2.1 x hx).1,e⟩
  refine⟨by simpa using hl.1,?_,h1,h2⟩
  have:=aF6 24 _ h2 (fun x hx=>by
    obtain⟨y,hy,rfl⟩:=List.mem_map.1 hx
    have:=(h1 y hy).1.mod
    unfold iY;omega)
  simpa using this
end
theorem aI0{b:aA}(hb:l7 b)(hs:R1 b){w:Int}(hw:0≤w∧w≤2)(s:Sub) :
    ∃x y,qQ b w s=some (x,y)∧mK s b w=some (y,x)∧∃L,x=⟨b.Mem,b.aD,L,b.dI⟩∧nF L∧∀r∈bE L,sZ b r:=by
  have hL:=hb.1.2.2.1
  have hm:=hb.1.1
  have hlen:w.toNat < b.aJ.length:=by have:=hL.1;omega
  have hx:idx b.aJ w=some b.aJ[w.toNat]:=eO hw.1 (by omega)
  have hg:b.Mem.aB.Global.length≤maxLen:=by rw [hm.1.2.1];simp [maxLen]
  have ho:b.Mem.aB.aX.length≤maxLen:=by rw [hm.1.2.2.1];simp [maxLen]
  have hall:(dC b.Mem.aB).length≤1073741824:=by have:=hs.1.2.2.2.2;omega
  have hrow:=hL.small.2.2.2 _ (List.getElem_mem hlen)
  have he:=hb.1.2.1.1
  unfold qQ mK j9
  rw [bQ,dL,o9 hm.1.1.1 hall hg ho,EK hm.1.1.1 hall hg ho,cM]
  simp only [bC,bA,Option.bind_some,pY,xD,j8]
  by_cases p0:s.Pc=0
  · simp only [p0,beq_self_eq_true,if_true];exact⟨_,_,rfl,rfl,_,rfl,hL,hb.2⟩
  · have p0' : (s.Pc == 0) = false := by simpa using p0
    simp only [p0',Bool.false_eq_true,if_false]
    by_cases p1:s.Pc=1
    · simp only [p1,beq_self_eq_true,bne_self_eq_false,Bool.false_eq_true,if_false,if_true]
      by_cases q1:0≤s.E∧s.E≤b.aD.aG
      · simp only [decide_eq_true q1,Bool.not_true,Bool.false_eq_true,if_false]
        by_cases q2:nG b.Mem s.A
        · have hh:=q2.1
          simp only [decide_eq_true q2,Bool.not_true,Bool.false_eq_true,if_false,if_pos hh,hh.mod.1,KM hL,KN hL,Option.bind_some]
          by_cases q3:K6 b.aJ (s.A % 32)
          · simp only [decide_eq_true q3,if_true];exact⟨_,_,rfl,rfl,_,rfl,hL,hb.2⟩
          · have hmore:=hL.more hlen (r:=⟨s.A,s.E⟩) ⟨hh,q1.1,by simp only;omega⟩ q3
            have e:AQ b.aJ w s.A s.E=some (b.aJ.set w.toNat ⟨b.aJ[w.toNat].Rows ++ [⟨s.A,s.E⟩]⟩,true):=by
              unfold AQ sP
              rw [vW hL.small.1,hY,OB hL.small.2.2.1 (fun s h=>by have:=hL.small.2.2.2 s h;omega)]
              simp only [decide_eq_true hL,decide_eq_true hw,Option.bind_some,Bool.not_true,Bool.false_eq_true,if_false,hx]
              rw [aO (by simp;omega),vW hmore.small.1,decide_eq_true hmore];rfl
            simp only [decide_eq_false q3,Bool.false_eq_true,if_false,hx,e,Option.bind_some]
            rw [aO (by simp;omega)]
            refine⟨_,_,rfl,rfl,_,rfl,hmore,fun r hr=>?_⟩
            rw [ID hlen] at hr
            have hsp:=FU hlen
            rcases List.mem_append.1 hr with h | h
            · exact hb.2 r (by rw [hsp];exact List.mem_append_left _ h)
            · rcases List.mem_append.1 h with h | h
              · rcases List.mem_append.1 h with h | h
                · exact hb.2 r (by rw [hsp];exact List.mem_append_right _ (List.mem_append_left _ h))
                · simp at h;subst h;exact⟨q2,q1.2⟩
              · exact hb.2 r (by rw [hsp];exact List.mem_append_right _ (List.mem_append_right _ h))
        · simp only [decide_eq_false q2,Bool.not_false,if_true];exact⟨_,_,rfl,rfl,_,rfl,hL,hb.2⟩
      · simp only [decide_eq_false q1,Bool.not_false,if_true];exact⟨_,_,rfl,rfl,_,rfl,hL,hb.2⟩
    · have p1':(s.Pc == 1)=false:=by simpa using p1
      have p1'':(s.Pc != 1)=true:=by simpa using p1
      simp only [p1',p1'',Bool.false_eq_true,if_false,if_true];exact⟨_,_,rfl,rfl,_,rfl,hL,hb.2⟩
end Go.Gv
end
noncomputable section
set_option linter.unusedVariables false
set_option linter.unusedSimpArgs false
namespace Go.Gv
def XB(b:List Int)(a:Nat)(n:Int):List Int:=(((b.set a 0).set (a+1) 0).set (a+2) 0).set (a+3) n
theorem A3(b:List Int)(a:Nat)(n:Int):(XB b a n).length=b.length:=by simp [XB]
theorem aD6{b:List Int}(h:qC b)(a:Nat){n:Int}(hn:0≤n∧n≤255):qC (XB b a n):=by
  have key:∀{l:List Int} (i:Nat) (v:Int),qC l→0≤v∧v≤255→qC (l.set i v):=fun i v hl hv x hx=>by
    rcases List.mem_or_eq_of_mem_set hx with h | rfl
    · exact hl x h
    · exact hv
  exact key _ _ (key _ _ (key _ _ (key _ _ h (by omega)) (by omega)) (by omega)) hn
theorem aMJ{n:Int}(hn:0≤n∧n≤255):((u8 n).toNat:Int)=n:=by
  obtain⟨m,rfl⟩:=Int.eq_ofNat_of_zero_le hn.1
  unfold u8
  rw [UInt8.toNat_ofNat'];omega
theorem QI{l:List Int}(i:Nat){v:Int}(hl:qC l)(hv:0≤v∧v≤255):qC (l.set i v):=fun x hx=>by
  rcases List.mem_or_eq_of_mem_set hx with h | rfl
  · exact hl x h
  · exact hv
def EY(b:List Int)(a:Nat)(n:Int):List Int:=(((b.set a (n / 16777216)).set (a+1) (n / 65536 % 256)).set (a+2) (n / 256 % 256)).set (a+3) (n % 256)
theorem QJ(b:List Int)(a:Nat)(n:Int):(EY b a n).length=b.length:=by simp [EY]
theorem aI1{b:List Int}(h:qC b)(a:Nat){n:Int}(hn:0≤n∧n≤4294967295):qC (EY b a n):=by
  unfold EY
  exact QI _ (QI _ (QI _ (QI _ h (by omega)) (by omega)) (by omega)) (by omega)
theorem aI2(b:List Int)(a:Nat)(x y z u:Int):(((b.set (a+3) u).set (a+2) z).set (a+1) y).set a x=(((b.set a x).set (a+1) y).set (a+2) z).set (a+3) u:=by
  refine List.ext_getElem (by simp) fun j h1 h2=>?_
  simp only [List.getElem_set]
  by_cases j0:a=j
  · subst j0;simp
  · by_cases j1:a+1=j
    · subst j1;simp
    · by_cases j2:a+2=j
      · subst j2;simp
      · by_cases j3:a+3=j
        · subst j3;simp
        · simp [j0,j1,j2,j3]
theorem R3{b:List Int}{a:Nat}(h:a+4≤b.length)(hl:b.length≤100000){n:Int}(hn:0≤n∧n≤4294967295):sC b (a:Int) 4 n=some (EY b a n):=by
  have st:∀(c:List Int) (m:Int) (i:Nat),c.length=b.length→0≤m→m≤4294967295→i < 4→vB (a:Int) (c,m,(i:Int))=some (.next (c.set (a+i) (m % 256),m / 256,(i:Int) - 1)):=fun c m i hc h0 h1 hi=>by
    simp only [vB]
    rw [if_pos (by simp),aK (x:=(a:Int)+i) (by omega) (by omega),show(a:Int)+i=((a+i:Nat):Int) by omega,aT (by omega),Option.bind_some,uN h0,BQ h0,aK (x:=m / 256) (by omega) (by omega),aK (x:=(i:Int) - 1) (by omega) (by omega),Int.toNat_natCast]
  unfold sC
  rw [show aZ (4 - 1)=((3:Nat):Int) from by rw [aK (by omega) (by omega)];rfl]
  rw [bM (st b n 3 rfl hn.1 hn.2 (by omega)),show((3:Nat):Int) - 1=((2:Nat):Int) by rfl,
    bM (st _ _ 2 (by simp) (by omega) (by omega) (by omega)),show((2:Nat):Int) - 1=((1:Nat):Int) by rfl,
    bM (st _ _ 1 (by simp) (by omega) (by omega) (by omega)),show((1:Nat):Int) - 1=((0:Nat):Int) by rfl,
    bM (st _ _ 0 (by simp) (by omega) (by omega) (by omega)),bT (r:=EY b a n)]
  · rfl
  · simp only [vB]
    rw [if_neg (by simp)]
    have e1:n / 256 / 256=n / 65536:=by omega
    have e2:n / 256 / 256 / 256=n / 16777216:=by omega
    have e3:n / 16777216 % 256=n / 16777216:=by omega
    rw [e1,show n / 65536 / 256=n / 16777216 by omega,e3]
    unfold EY
    simp only [Nat.add_zero]
    rw [aI2]
def OC(n:Int):List UInt8:=[u8 (n / 16777216),u8 (n / 65536),u8 (n / 256),u8 n]
theorem XC{n:Int}(hn:0≤n∧n≤4294967295):wC n 4=some (OC n):=by
  have hw:iN 4=some true:=by unfold iN;rw [dL];rfl
  unfold wC
  rw [hw]
  have e1:IntKind.u64.wrap (aZ (8 * 4))=32:=by decide
  have e2:Z1 .i64 1 32=4294967296:=by decide
  simp only [Option.bind_some,Bool.not_true,Bool.false_eq_true,if_false,e1,e2]
  rw [if_neg (by simp;omega),aO (by omega),decide_eq_false (by omega)]
  simp only [uE,Bool.false_eq_true,if_false]
  rw [aO (by omega),show aZ (4 - 1)=((3:Nat):Int) from by rw [aK (by omega) (by omega)];rfl]
  have st:∀(m:Int) (c:List UInt8) (i:Nat),i < c.length→i < 4→0≤m→AN (m,c,(i:Int))=some (.next (m / 256,c.set i (u8 m),(i:Int) - 1)):=fun m c i hc hi h0=>by
    simp only [AN]
    rw [if_pos (by simp),aT hc,Option.bind_some,show(8:Int)=((8:Nat):Int) from rfl,aO2 h0 (by omega),aK (by omega) (by omega),Int.toNat_natCast];rfl
  rw [bM (st n _ 3 (by simp) (by omega) hn.1),show((3:Nat):Int) - 1=((2:Nat):Int) by rfl,
    bM (st _ _ 2 (by simp) (by omega) (by omega)),show((2:Nat):Int) - 1=((1:Nat):Int) by rfl,
    bM (st _ _ 1 (by simp) (by omega) (by omega)),show((1:Nat):Int) - 1=((0:Nat):Int) by rfl,
    bM (st _ _ 0 (by simp) (by omega) (by omega)),bT (r:=OC n)]
  · rfl
  · simp only [AN]
    rw [if_neg (by simp)]
    have e1:n / 256 / 256=n / 65536:=by omega
    rw [e1,show n / 65536 / 256=n / 16777216 by omega]
    rfl
theorem aB6{n:Int}(hn:0≤n):((u8 n).toNat:Int)=n % 256:=by
  have:u8 n=u8 (n % 256):=by
    unfold u8
    congr 1
    omega
  rw [this,aMJ (by omega)]
theorem XD{b:List Int}{a:Nat}(h:a+4≤b.length)(hl:b.length≤100000){n:Int}(hn:0≤n∧n≤4294967295):rB b (a:Int) (OC n)=some (EY b a n):=by
  have st:∀(c:List Int) (i:Nat) (v:UInt8),c.length=b.length→i < 4→idx (OC n) (i:Int)=some v→xZ b (a:Int) (OC n) (c,(i:Int))=some (.next (c.set (a+i) (v.toNat:Int),((i+1:Nat):Int))):=fun c i v hc hi hv=>by
    simp only [xZ]
    rw [aO hc,if_pos (by simp [OC];omega),hv,Option.bind_some,aK (x:=(a:Int)+i) (by omega) (by omega),show(a:Int)+i=((a+i:Nat):Int) by omega,aT (by omega),Option.bind_some,aK (by omega) (by omega),Int.toNat_natCast];rfl
  unfold rB
  rw [show(0:Int)=((0:Nat):Int) from rfl,bM (st b 0 _ rfl (by omega) rfl),bM (st _ 1 _ (by simp) (by omega) rfl),bM (st _ 2 _ (by simp) (by omega) rfl),bM (st _ 3 _ (by simp) (by omega) rfl),bT (r:=EY b a n)]
  · simp only [Option.bind_some,LS,LR]
    rw [aO (QJ b a n)]
  · simp only [xZ]
    rw [aO (by simp),if_neg (by simp [OC])]
    simp only [aB6 hn.1,aB6 (show 0≤n / 16777216 by omega),aB6 (show 0≤n / 65536 by omega),aB6 (show 0≤n / 256 by omega)]
    rw [show n / 16777216 % 256=n / 16777216 by omega]
    rfl
theorem aMK{b:List Int}{a:Nat}{n:Int}(hn:0≤n∧n≤255):EY b a n=XB b a n:=by
  unfold EY XB
  rw [show n / 16777216=0 by omega,show n / 65536 % 256=0 by omega,show n / 256 % 256=0 by omega,show n % 256=n by omega]
theorem CC{b:List Int}{a:Nat}(h:a+4≤b.length)(hl:b.length≤100000){n:Int}(hn:0≤n∧n≤255):sC b (a:Int) 4 n=some (XB b a n):=by
  rw [R3 h hl ⟨hn.1,by omega⟩,aMK hn]
theorem aTB{n:Int}(hn:0≤n∧n≤255):OC n=[0,0,0,u8 n]:=by
  unfold OC
  rw [show n / 16777216=0 by omega,show n / 65536=0 by omega,show n / 256=0 by omega];rfl
theorem OD{n:Int}(hn:0≤n∧n≤255):wC n 4=some [0,0,0,u8 n]:=by
  rw [XC ⟨hn.1,by omega⟩,aTB hn]
theorem MR{b:List Int}{a:Nat}(h:a+4≤b.length)(hl:b.length≤100000){n:Int}(hn:0≤n∧n≤255):rB b (a:Int) [0,0,0,u8 n]=some (XB b a n):=by
  rw [←aTB hn,XD h hl ⟨hn.1,by omega⟩,aMK hn]
end Go.Gv
end
noncomputable section
set_option linter.unusedVariables false
set_option linter.unusedSimpArgs false
set_option linter.unusedSectionVars false
namespace Go.Gv
theorem aP7{x y z:Int}:∀(a:Nat) (l:List Int),a+3≤l.length→cX l a [x,y,z]=((l.set a x).set (a+1) y).set (a+2) z
  | 0, l, h => by
    match l,h with
    | _ :: _ :: _ :: t,_=>simp [cX]
  | a + 1, l, h => by
    match l,h with
    | u :: t, h =>
      have ih:=aP7 (x:=x) (y:=y) (z:=z) a t (by simp at h;omega)
      simp only [List.set_cons_succ,←ih]
      simp [cX,Nat.add_right_comm]
def aML(p k:Nat)(c:Int):Nat:=(eI ((p:Int) * 4+k) c).toNat
def gB(b:List Int)(p:Nat)(c:Int):Nat→List Int
  | 0=>((b.set (p * 64) 171).set (p * 64+1) c).set (p * 64+2) (bY c)
  | k+1=>XB (gB b p c k) (aML p k c) 1
theorem G4(b:List Int)(p:Nat)(c:Int):∀k,(gB b p c k).length=b.length
  | 0=>by simp [gB]
  | k+1=>by rw [gB,A3,G4 b p c k]
theorem XE{l:List Int}(i:Nat){v:Int}(hl:qC l)(hv:0≤v∧v≤255):qC (l.set i v):=fun x hx=>by
  rcases List.mem_or_eq_of_mem_set hx with h | rfl
  · exact hl x h
  · exact hv
theorem aB7{b:List Int}(hb:qC b)(p:Nat){c:Int}(hc:0≤c∧c≤2):∀k,qC (gB b p c k)
  | 0 => by
    have:=kY c
    exact XE _ (XE _ (XE _ hb (by omega)) (by omega)) (by omega)
  | k+1=>aD6 (aB7 hb p hc k) _ (by omega)
def gS(p:Nat)(n:Nat):List Int:=(List.range n).map fun(i:Nat)=>(p:Int) * 4+(i:Int)
theorem G5(p n:Nat):(gS p n).length=n:=by simp [gS]
theorem aH8(p n:Nat):gS p (n+1)=gS p n ++ [(p:Int) * 4+(n:Int)]:=by simp [gS,List.range_succ]
theorem aB8{p k:Nat}{c:Int}(hp:p < 6)(hk:(k:Int) < bY c):eI ((p:Int) * 4+k) c=(aML p k c:Int)∧aML p k c+4≤384:=by
  have h4:=kY c
  have hm:=EE (c:=c) (i:=(k:Int)) (by omega) hk
  have hst:4≤aS c:=by
    have:0≤c∧c≤2:=iX.1 (by omega)
    rcases fA this with e | e | e <;> rw [e] <;> decide
  have e:eI ((p:Int) * 4+k) c=(p:Int) * 64+8+(k:Int) * aS c:=by
    unfold eI
    rw [if_pos ⟨by omega,by omega⟩,show((p:Int) * 4+k) / 4=p by omega,show((p:Int) * 4+k) % 4=k by omega]
  unfold aML
  rw [e];omega
theorem aAL{p k:Nat}(hp:p < 6)(hk:k < 4):nQ (p:Int) (k:Int)=some ((p:Int) * 4+k)∧FI (p:Int) (k:Int)=some ((p:Int) * 4+k):=by
  have a:0≤(p:Int)∧(p:Int)≤5:=by omega
  have b:0≤(k:Int)∧(k:Int)≤3:=by omega
  have e1:aZ ((p:Int) * 4)=(p:Int) * 4:=aK (by omega) (by omega)
  have e2:aZ ((p:Int) * 4+k)=(p:Int) * 4+k:=aK (by omega) (by omega)
  constructor
  · unfold nQ qJ;rw [bQ,bQ,decide_eq_true a,decide_eq_true b,e1,e2];rfl
  · unfold FI yA;rw [dL,dL,decide_eq_true a,decide_eq_true b,e1,e2];rfl
noncomputable section
variable {b:List Int} (hb:b.length=384) {p:Nat} (hp:p < 6) {c:Int} (hc:0≤c∧c≤2)
include hb hp hc
theorem XF:loop (vC c (p:Int)) ([],0,gB b p c 0)=some (gS p (bY c).toNat,gB b p c (bY c).toNat):=by
  have h4:=kY c
  refine f9 (bY c).toNat (fun k=>(gS p k,(k:Int),gB b p c k)) _ (fun k hk=>?_) ?_
  · have ho:=aB8 (c:=c) hp (k:=k) (by omega)
    simp only [vC,J9,fK,Option.bind_some]
    rw [if_pos (by simp;omega),(aAL hp (by omega)).1]
    simp only [Option.bind_some,pP,ho.1]
    rw [CC (by rw [G4];omega) (by rw [G4];omega) (by omega)]
    simp only [Option.bind_some]
    rw [aO (by rw [G5];simp;omega),aK (by omega) (by omega),aH8];rfl
  · simp only [vC,fK,Option.bind_some]
    rw [if_neg (by simp;omega)]
theorem aF7:loop (AO c (p:Int) (bY c)) ([],0,gB b p c 0)=some (gS p (bY c).toNat,gB b p c (bY c).toNat):=by
  have h4:=kY c
  refine f9 (bY c).toNat (fun k=>(gS p k,(k:Int),gB b p c k)) _ (fun k hk=>?_) ?_
  · have ho:=aB8 (c:=c) hp (k:=k) (by omega)
    simp only [AO,GC]
    rw [if_pos (by simp;omega),(aAL hp (by omega)).2]
    simp only [Option.bind_some,uO,ho.1]
    rw [OD (by omega),Option.bind_some,MR (by rw [G4];omega) (by rw [G4];omega) (by omega)]
    simp only [Option.bind_some]
    rw [aO (by rw [G5];simp;omega),aK (by omega) (by omega),aH8];rfl
  · simp only [AO]
    rw [if_neg (by simp;omega)]
end
theorem aMM{h:aC}(hh:Q6 h){c:Int}(hc:0≤c∧c≤2) :
    (nT h c=some (h,[])∧zX h c=some (h,[])) ∨
    ∃p,p < 6∧bO h p < 0∧nT h c=some (⟨gB h.Bytes p c (bY c).toNat,h.Class.set p c⟩,gS p (bY c).toNat)∧zX h c=some (⟨gB h.Bytes p c (bY c).toNat,h.Class.set p c⟩,gS p (bY c).toNat):=by
  have hs:=hh.1
  have h6:=hs.2.1
  have h384:=hs.1
  have hp4:=kY c
  have hcp:=JH (h:=h) (by omega) (by omega)
  have hne:∀j (hj:j < 6),j < h.Class.findIdx (fun x=>decide (x = -1))→h.Class[j]≠-1:=fun j hj hlt=>by
    have:=List.not_of_lt_findIdx hlt
    simpa using this
  generalize hq:h.Class.findIdx (fun x=>decide (x = -1))=q at hne
  have hq6:q≤6:=by rw [←hq,←h6];exact List.findIdx_le_length
  have s1:∀k (hk:k < q),dW h c (k:Int)=some (.next ((k+1:Nat):Int)):=fun k hk=>by
    have:=hne k (by omega) hk
    have n:(h.Class[k] != -1)=true:=by simpa using this
    simp only [dW,B5]
    rw [if_pos (by simp;omega),aT (by omega),Option.bind_some,n,if_pos rfl,aK (by omega) (by omega)];rfl
  have s2:∀k (hk:k < q),dT h.Class (-1) (k:Int)=some (.next ((k+1:Nat):Int)):=fun k hk=>by
    have:=hne k (by omega) hk
    have n:((-1:Int) == h.Class[k])=false:=by simpa using fun a=>this a.symm
    simp only [dT]
    rw [if_pos (by simp;omega),aT (by omega),Option.bind_some,n,aK (by omega) (by omega)];rfl
  have hm:h.Bytes.length≤maxLen:=by rw [h384];simp [maxLen]
  by_cases h5:q=6
  · left
    have a1:loop (dW h c) 0=some (Out.brk ()):=f9 q (fun k=>(k:Int)) _ s1 (by simp only [dW];rw [if_neg (by simp;omega)])
    have a2:loop (dT h.Class (-1)) 0=some (Out.brk ()):=f9 q (fun k=>(k:Int)) _ s2 (by simp only [dT];rw [if_neg (by simp;omega)])
    constructor
    · unfold nT;rw [a1];rfl
    · unfold zX kM
      rw [a2,hcp,EG hm,gA,decide_eq_true hh,decide_eq_true hc];rfl
  · right
    have hq5:q < 6:=by omega
    have he:h.Class[q] = -1:=by
      have:=List.findIdx_getElem (xs:=h.Class) (p:=fun x=>decide (x = -1)) (w:=by rw [hq];omega)
      simp only [hq,decide_eq_true_eq] at this
      exact this
    refine⟨q,hq5,by rw [←NG hs hq5,he];omega,?_,?_⟩
    · have a1:loop (dW h c) 0=some (Out.ret (⟨gB h.Bytes q c (bY c).toNat,h.Class.set q c⟩,gS q (bY c).toNat)):=f9 q (fun k=>(k:Int)) _ s1 (by
        have e0:aZ ((q:Int) * 64)=((q * 64:Nat):Int):=by rw [aK (by omega) (by omega)];omega
        have e1:aZ (((q * 64:Nat):Int)+1)=((q * 64+1:Nat):Int):=by rw [aK (by omega) (by omega)];omega
        have e2:aZ (((q * 64:Nat):Int)+2)=((q * 64+2:Nat):Int):=by rw [aK (by omega) (by omega)];omega
        have n:(h.Class[q] != -1)=false:=by simpa using he
        simp only [dW,e0,e1,e2,Int.toNat_natCast]
        rw [if_pos (by simp;omega),aT (by omega),Option.bind_some,n,if_neg (by simp),aT (by omega),Option.bind_some,aT (by simp;omega),Option.bind_some,fK,Option.bind_some,aT (by simp;omega),Option.bind_some]
        have:=XF h384 hq5 hc
        simp only [gB] at this
        rw [this];rfl)
      unfold nT;rw [a1];rfl
    · have a2:loop (dT h.Class (-1)) 0=some (Out.ret (q:Int)):=f9 q (fun k=>(k:Int)) _ s2 (by
        have n:((-1:Int) == h.Class[q])=true:=by rw [he];rfl
        simp only [dT]
        rw [if_pos (by simp;omega),aT (by omega),Option.bind_some,n];rfl)
      unfold zX kM
      rw [a2,hcp,EG hm,gA,decide_eq_true hh,decide_eq_true hc]
      have e0:aZ ((q:Int) * 64)=((q * 64:Nat):Int):=by rw [aK (by omega) (by omega)];omega
      simp only [Option.bind_some,mG,Bool.not_true,Bool.false_eq_true,if_false,uF,e0,vT,GD,Int.toNat_natCast]
      rw [decide_eq_false (by omega),if_neg (by simp),aT (by omega),Option.bind_some,aO (by omega),aP7 _ _ (by omega)]
      have:=aF7 h384 hq5 hc
      simp only [gB] at this
      rw [this];rfl
theorem YK.count{l:aB}(h:YK l):(dC l).length≤24:=aF6 24 _ h.2.2.2.2 (fun x hx=>by have:=h.2.2.2.1 x hx;omega)
theorem aI3{m:Mem}(hs:d7 m.aC){s:Int}(hc:0≤aV m.aC s):∃h,tX m s=some h∧AP m s=some h:=by
  unfold tX AP F9 GF sD sO
  rw [mB hs hc,A1 hs hc,Option.bind_some,Option.bind_some,bQ,bQ,rM,dL]
  have h1:=(vV hc).1
  simp only [decide_eq_true h1,Option.bind_some,Bool.not_true,Bool.false_eq_true,if_false]
  by_cases q:1≤kO m.aC s∧kO m.aC s≤6
  · simp only [decide_eq_true q,Bool.not_true,Bool.false_eq_true,if_false];exact⟨_,rfl,rfl⟩
  · simp only [decide_eq_false q,Bool.not_false,if_true];exact⟨_,rfl,rfl⟩
theorem O6{l:List aH}{k:Nat}(hk:k < l.length)(t:List Int):(cK (l.set k ⟨l[k].aP++t⟩)).length=(cK l).length+t.length:=by
  rw [DQ hk,BS hk];simp;omega
end Go.Gv
end
noncomputable section
set_option linter.unusedVariables false
set_option linter.unusedSimpArgs false
set_option linter.unusedSectionVars false
namespace Go.Gv
def bt(b:List Int)(i:Nat):Int:=b.getD i 0
theorem XG{b:List Int}{i:Nat}(h:i < b.length):b[i]=bt b i:=by
  unfold bt;rw [List.getD_eq_getElem?_getD,List.getElem?_eq_getElem h];rfl
theorem ld4{b:List Int}{a:Nat}(h:a+4≤b.length):ld b a 4=((bt b a * 256+bt b (a+1)) * 256+bt b (a+2)) * 256+bt b (a+3):=by
  unfold ld
  rw [List.drop_eq_getElem_cons (by omega),List.drop_eq_getElem_cons (by omega),List.drop_eq_getElem_cons (by omega),List.drop_eq_getElem_cons (by omega)]
  simp only [List.take_succ_cons,List.take_zero,ldF,List.foldl_cons,List.foldl_nil,XG (b:=b) (i:=a) (by omega),XG (b:=b) (i:=a+1) (by omega),XG (b:=b) (i:=a+1+1) (by omega),XG (b:=b) (i:=a+1+1+1) (by omega)]
  simp only [Nat.add_assoc,Nat.reduceAdd];omega
theorem EM{b:List Int}{i j:Nat}{v:Int}(hi:i < b.length):bt (b.set i v) j=if j=i then v else bt b j:=by
  unfold bt
  rw [List.getD_eq_getElem?_getD,List.getD_eq_getElem?_getD,List.getElem?_set]
  by_cases h:i=j
  · subst h;simp [hi]
  · have h':¬j=i:=fun q=>h q.symm
    simp [h,h']
theorem wI{b:List Int}{a:Nat}{n:Int}(h:a+4≤b.length)(j:Nat):bt (XB b a n) j=if j=a+3 then n else if a≤j∧j < a+3 then 0 else bt b j:=by
  unfold XB
  rw [EM (by simp;omega),EM (by simp;omega),EM (by simp;omega),EM (by omega)]
  by_cases h1:j=a+3
  · simp [h1]
  · rw [if_neg h1,if_neg h1]
    by_cases h2:a≤j∧j < a+3
    · rw [if_pos h2]
      by_cases h3:j=a+2
      · simp [h3]
      · rw [if_neg h3]
        by_cases h4:j=a+1
        · simp [h4]
        · rw [if_neg h4,if_pos (by omega)]
    · rw [if_neg h2,if_neg (by omega),if_neg (by omega),if_neg (by omega)]
theorem aF8{b:List Int}{a:Nat}{n:Int}(h:a+4≤b.length):ld (XB b a n) a 4=n:=by
  rw [ld4 (by rw [A3];exact h),wI h,wI h,wI h,wI h,if_neg (by omega),if_pos (by omega),if_neg (by omega),if_pos (by omega),if_neg (by omega),if_pos (by omega),if_pos rfl]
  omega
theorem NI{b b':List Int}{a:Nat}(h:a+4≤b.length)(hl:b'.length=b.length)(hs:∀j,a≤j→j < a+4→bt b' j=bt b j):ld b' a 4=ld b a 4:=by
  rw [ld4 (by omega),ld4 h,hs a (by omega) (by omega),hs (a+1) (by omega) (by omega),hs (a+2) (by omega) (by omega),hs (a+3) (by omega) (by omega)]
def UA(h:aC)(p:Nat):Prop:=
  if bO h p < 0 then ∀k,k < 64→bt h.Bytes (p * 64+k)=0
  else ((bt h.Bytes (p * 64)=171∧bt h.Bytes (p * 64+1)=bO h p∧bt h.Bytes (p * 64+2)=bY (bO h p))∧(∀k,3≤k→k < 8→bt h.Bytes (p * 64+k)=0)∧∀i,i < (bY (bO h p)).toNat→1≤ld h.Bytes (p * 64+8+i * (aS (bO h p)).toNat) 4∧ld h.Bytes (p * 64+8+i * (aS (bO h p)).toNat) 4≤7)
theorem aAM{h:aC}(hs:d7 h){p:Nat}(hp:p < 6){k:Nat}(hk:k < 64):(dF h p).getD k 0=bt h.Bytes (p * 64+k):=by
  rw [←aAG hs hp hk,XG (by have:=hs.1;omega)]
theorem QK{l:List Int}{x:Int}:x∈l↔∃k,k < l.length∧l.getD k 0=x:=by
  rw [List.mem_iff_getElem]
  constructor
  · rintro⟨k,hk,e⟩
    exact⟨k,hk,by rw [List.getD_eq_getElem?_getD,List.getElem?_eq_getElem hk];exact e⟩
  · rintro⟨k,hk,e⟩
    exact⟨k,hk,by rw [List.getD_eq_getElem?_getD,List.getElem?_eq_getElem hk] at e;exact e⟩
theorem IE{h:aC}(hs:d7 h){p:Nat}(hp:p < 6):kV h p↔UA h p:=by
  unfold kV UA
  have hl:=EF hs hp
  split
  · constructor
    · intro q k hk
      rw [←aAM hs hp hk]
      exact q _ (QK.2 ⟨k,by omega,rfl⟩)
    · intro q x hx
      obtain⟨k,hk,rfl⟩:=QK.1 hx
      rw [aAM hs hp (by omega)];exact q k (by omega)
  · rw [aAM hs hp (by omega),aAM hs hp (by omega),aAM hs hp (by omega)]
    have e:(∀x∈((dF h p).drop 3).take 5,x=0)↔∀k,3≤k→k < 8→bt h.Bytes (p * 64+k)=0:=by
      have g:∀j,j < 5→(((dF h p).drop 3).take 5).getD j 0=bt h.Bytes (p * 64+(3+j)):=fun j hj=>by
        rw [←aAM hs hp (by omega),List.getD_eq_getElem?_getD,List.getD_eq_getElem?_getD,List.getElem?_take,if_pos hj,List.getElem?_drop]
      constructor
      · intro q k h3 h8
        have:=q _ (QK.2 ⟨k - 3,by simp [hl];omega,rfl⟩)
        rw [g _ (by omega)] at this
        rw [show 3+(k - 3)=k by omega] at this;exact this
      · intro q x hx
        obtain⟨k,hk,rfl⟩:=QK.1 hx
        simp [hl] at hk
        rw [g _ hk];exact q _ (by omega) (by omega)
    rw [e];rfl
theorem UA.same{h h':aC}{p:Nat}(hp:p < 6)(hs:d7 h)(hl:h'.Bytes.length=h.Bytes.length)(hc:bO h' p=bO h p)(hb:∀k,k < 64→bt h'.Bytes (p * 64+k)=bt h.Bytes (p * 64+k))(q:UA h p):UA h' p:=by
  have h1:=hs.1
  unfold UA at q ⊢
  rw [hc]
  split
  · rename_i q0;rw [if_pos q0] at q
    exact fun k hk=>by rw [hb k hk];exact q k hk
  · rename_i q0;rw [if_neg q0] at q
    obtain⟨⟨a1,a2,a3⟩,a4,a5⟩:=q
    have b0:=hb 0 (by omega);have b1:=hb 1 (by omega);have b2:=hb 2 (by omega)
    simp only [Nat.add_zero] at b0
    refine⟨⟨by rw [b0];exact a1,by rw [b1];exact a2,by rw [b2];exact a3⟩,fun k k3 k8=>by rw [hb k (by omega)];exact a4 k k3 k8,fun i hi=>?_⟩
    have hz:=sY hs hp (c:=bO h p) rfl hi
    rw [NI (b:=h.Bytes) (by omega) hl fun j j1 j2=>by
      have:=hb (j - p * 64) (by omega)
      rw [show p * 64+(j - p * 64)=j by omega] at this;exact this]
    exact a5 i hi
theorem BT{h:aC}{s:Int}(hc:0≤aV h s):∃p i,p < 6∧i < (bY (bO h p)).toNat∧s=(p:Int) * 4+i∧aV h s=bO h p∧(eI s (aV h s)).toNat=p * 64+8+i * (aS (bO h p)).toNat∧(s / 4).toNat=p:=by
  obtain⟨h1,h2,h3⟩:=vV hc
  have hle:=kY (bO h (s / 4).toNat)
  refine⟨(s / 4).toNat,(s % 4).toNat,by omega,by omega,by omega,h3,?_,rfl⟩
  rw [h3]
  unfold eI
  rw [if_pos ⟨h1,by omega⟩]
  have hst:=(O4 (bO h (s / 4).toNat)).1
  have e:s % 4 * aS (bO h (s / 4).toNat)=(((s % 4).toNat * (aS (bO h (s / 4).toNat)).toNat:Nat):Int):=by
    rw [Int.natCast_mul,Int.toNat_of_nonneg (by omega),Int.toNat_of_nonneg hst]
  omega
theorem JJ{c:Int}{i j:Nat}(hi:i < (bY c).toNat)(hj:j < (bY c).toNat)(hn:i≠j):i * (aS c).toNat+4≤j * (aS c).toNat∨j * (aS c).toNat+4≤i * (aS c).toNat:=by
  have hc:0≤c∧c≤2:=iX.1 (by omega)
  have h12:12≤(aS c).toNat:=by rcases fA hc with rfl | rfl | rfl <;> decide
  rcases Nat.lt_or_gt_of_ne hn with q | q
  · left
    have:(i+1) * (aS c).toNat≤j * (aS c).toNat:=Nat.mul_le_mul_right _ q
    rw [Nat.add_mul] at this;omega
  · right
    have:(j+1) * (aS c).toNat≤i * (aS c).toNat:=Nat.mul_le_mul_right _ q
    rw [Nat.add_mul] at this;omega
theorem Q6.aRP{h:aC}(hh:Q6 h){s g:Int}(hc:0≤aV h s)(hg:1≤g∧g≤7) :
    Q6 ⟨XB h.Bytes (eI s (aV h s)).toNat g,h.Class⟩∧∀t,0≤aV h t→kO ⟨XB h.Bytes (eI s (aV h s)).toNat g,h.Class⟩ t=if t=s then g else kO h t:=by
  obtain⟨hs,hp⟩:=hh
  have h384:=hs.1
  have hs':d7 ⟨XB h.Bytes (eI s (aV h s)).toNat g,h.Class⟩:=⟨by rw [A3];exact hs.1,hs.2.1,aD6 hs.2.2.1 _ (by omega),hs.2.2.2⟩
  obtain⟨p,i,p6,hi,es,ec,eo,ep⟩:=BT hc
  have hz:=sY hs p6 rfl hi
  have h4:=kY (bO h p)
  refine⟨⟨hs',fun q hq=>?_⟩,fun t ht=>?_⟩
  · rw [IE hs' hq]
    have hold:=(IE hs hq).1 (hp q hq)
    by_cases e:q=p
    · subst e
      have hpos:0 < bY (bO h q):=by omega
      have hcl:¬bO h q < 0:=by have:=iX.1 hpos;omega
      unfold UA at hold ⊢
      have hcl':bO ⟨XB h.Bytes (eI s (aV h s)).toNat g,h.Class⟩ q=bO h q:=rfl
      rw [hcl']
      rw [if_neg hcl] at hold ⊢
      obtain⟨⟨a1,a2,a3⟩,a4,a5⟩:=hold
      have bs:∀k,k < 8→bt (XB h.Bytes (eI s (aV h s)).toNat g) (q * 64+k)=bt h.Bytes (q * 64+k):=fun k hk=>by
        rw [wI (by omega),if_neg (by omega),if_neg (by omega)]
      have b0:=bs 0 (by omega);have b1:=bs 1 (by omega);have b2:=bs 2 (by omega)
      simp only [Nat.add_zero] at b0
      refine⟨⟨by rw [b0];exact a1,by rw [b1];exact a2,by rw [b2];exact a3⟩,fun k k3 k8=>by rw [bs k k8];exact a4 k k3 k8,fun j hj=>?_⟩
      have hzj:=sY hs p6 rfl hj
      by_cases ej:j=i
      · subst ej
        simp only [eo]
        rw [aF8 (by omega)];exact hg
      · rw [NI (b:=h.Bytes) (by omega) (by simp only [A3]) fun k k1 k2=>?_]
        · exact a5 j hj
        · simp only [eo]
          have:=JJ hi hj (fun q=>ej q.symm)
          rw [wI (by omega),if_neg (by omega),if_neg (by omega)]
    · refine UA.same hq hs (by simp only [A3]) rfl (fun k hk=>?_) hold
      rw [wI (by omega),if_neg (by omega),if_neg (by omega)]
  · have e2:aV ⟨XB h.Bytes (eI s (aV h s)).toNat g,h.Class⟩ t=aV h t:=rfl
    unfold kO
    rw [e2]
    by_cases e:t=s
    · subst e;rw [if_pos rfl];simp only;rw [aF8 (by omega)]
    · rw [if_neg e]
      obtain⟨p',i',p6',hi',es',ec',eo',ep'⟩:=BT ht
      have hz':=sY hs p6' rfl hi'
      rw [NI (b:=h.Bytes) (by omega) (by simp only [A3]) fun k k1 k2=>?_]
      simp only
      by_cases ee:p'=p
      · subst ee
        have:=JJ hi hi' (fun q=>e (by rw [es,es',q]))
        rw [wI (by omega),if_neg (by omega),if_neg (by omega)]
      · have h4':=kY (bO h p')
        rw [wI (by omega),if_neg (by omega),if_neg (by omega)]
theorem U6{p k:Nat}{c:Int}(hp:p < 6)(hk:(k:Int) < bY c):aML p k c=p * 64+8+k * (aS c).toNat∧8+k * (aS c).toNat+4≤64:=by
  have hc:0≤c∧c≤2:=iX.1 (by omega)
  have h1:=aB8 (c:=c) hp hk
  have hle:=kY c
  have e:=h1.1
  unfold eI at e
  rw [if_pos (by omega)] at e
  have e1:((p:Int) * 4+k) / 4=p:=by omega
  have e2:((p:Int) * 4+k) % 4=k:=by omega
  rw [e1,e2] at e
  rcases fA hc with rfl | rfl | rfl
  · rw [show aS 0=12 from rfl] at e ⊢
    rw [show bY 0=4 from rfl] at hk
    rw [show(12:Int).toNat=12 from rfl]
    omega
  · rw [show aS 1=20 from rfl] at e ⊢
    rw [show bY 1=2 from rfl] at hk
    rw [show(20:Int).toNat=20 from rfl]
    omega
  · rw [show aS 2=44 from rfl] at e ⊢
    rw [show bY 2=1 from rfl] at hk
    rw [show(44:Int).toNat=44 from rfl]
    omega
theorem aP8{b:List Int}{p:Nat}{c:Int}(hl:b.length=384)(hp:p < 6)(hc:0≤c∧c≤2):∀k:Nat,(k:Int)≤bY c→∀j,(j < p * 64∨p * 64+64≤j→bt (gB b p c k) j=bt b j)∧(3≤j→j < 8→bt (gB b p c k) (p * 64+j)=bt b (p * 64+j))∧bt (gB b p c k) (p * 64)=171∧bt (gB b p c k) (p * 64+1)=c∧bt (gB b p c k) (p * 64+2)=bY c
  | 0, hk, j => by
    have key:∀i,bt (gB b p c 0) i=if i=p * 64+2 then bY c else if i=p * 64+1 then c else if i=p * 64 then 171 else bt b i:=fun i=>by
      unfold gB
      rw [EM (by simp;omega),EM (by simp;omega),EM (by omega)]
    refine⟨fun h=>?_,fun h1 h2=>?_,?_,?_,?_⟩
    · rw [key,if_neg (by omega),if_neg (by omega),if_neg (by omega)]
    · rw [key,if_neg (by omega),if_neg (by omega),if_neg (by omega)]
    · rw [key,if_neg (by omega),if_neg (by omega),if_pos rfl]
    · rw [key,if_neg (by omega),if_pos rfl]
    · rw [key,if_pos rfl]
  | k + 1, hk, j => by
    have ih:=aP8 hl hp hc k (by omega)
    have hoff:=U6 (c:=c) hp (by omega:(k:Int) < bY c)
    have hbl:=G4 b p c k
    unfold gB
    refine⟨fun h=>?_,fun h1 h2=>?_,?_,?_,?_⟩
    · rw [wI (by omega),if_neg (by omega),if_neg (by omega)];exact(ih j).1 h
    · rw [wI (by omega),if_neg (by omega),if_neg (by omega)];exact(ih j).2.1 h1 h2
    · rw [wI (by omega),if_neg (by omega),if_neg (by omega)];exact(ih j).2.2.1
    · rw [wI (by omega),if_neg (by omega),if_neg (by omega)];exact(ih j).2.2.2.1
    · rw [wI (by omega),if_neg (by omega),if_neg (by omega)];exact(ih j).2.2.2.2
theorem aMN{b:List Int}{p:Nat}{c:Int}(hl:b.length=384)(hp:p < 6):∀k:Nat,(k:Int)≤bY c→∀i,i < k→ld (gB b p c k) (p * 64+8+i * (aS c).toNat) 4=1
  | 0,_,i,h=>absurd h (by omega)
  | k + 1, hk, i, h => by
    have hbl:=G4 b p c k
    have ho:=U6 (c:=c) hp (by omega:(k:Int) < bY c)
    unfold gB
    by_cases e:i=k
    · subst e;rw [←ho.1];exact aF8 (by omega)
    · have hoi:=U6 (c:=c) hp (by omega:(i:Int) < bY c)
      have ha:=JJ (c:=c) (i:=i) (j:=k) (by omega) (by omega) e
      rw [NI (b:=gB b p c k) (by omega) (by rw [A3]) fun j j1 j2=>by rw [wI (by omega),if_neg (by omega),if_neg (by omega)]]
      exact aMN hl hp k (by omega) i (by omega)
theorem QL{h:aC}(hs:d7 h){B:List Int}{p q:Nat}(hq:q < 6){c:Int}:bO ⟨B,h.Class.set p c⟩ q=if q=p then c else bO h q:=by
  have h6:=hs.2.1
  unfold bO
  rw [List.getD_eq_getElem?_getD,List.getD_eq_getElem?_getD,List.getElem?_set]
  by_cases e:p=q
  · subst e;simp [h6,hq]
  · have e':¬q=p:=fun z=>e z.symm
    simp [e,e']
theorem Q6.aTC{h:aC}(hh:Q6 h){p:Nat}(hp:p < 6)(hun:bO h p < 0){c:Int}(hc:0≤c∧c≤2) :
    Q6 ⟨gB h.Bytes p c (bY c).toNat,h.Class.set p c⟩∧(∀t,(t / 4).toNat≠p→aV ⟨gB h.Bytes p c (bY c).toNat,h.Class.set p c⟩ t=aV h t)∧(∀t,0≤aV h t→(t / 4).toNat≠p∧kO ⟨gB h.Bytes p c (bY c).toNat,h.Class.set p c⟩ t=kO h t) ∧
      ∀i,i < (bY c).toNat→aV ⟨gB h.Bytes p c (bY c).toNat,h.Class.set p c⟩ ((p:Int) * 4+i)=c∧kO ⟨gB h.Bytes p c (bY c).toNat,h.Class.set p c⟩ ((p:Int) * 4+i)=1:=by
  obtain⟨hs,hpg⟩:=hh
  have h384:=hs.1
  have hle:=kY c
  have hpn:((bY c).toNat:Int)≤bY c:=by omega
  have hb:=aP8 h384 hp hc (bY c).toNat hpn
  have hbl:=G4 h.Bytes p c (bY c).toNat
  have hs':d7 ⟨gB h.Bytes p c (bY c).toNat,h.Class.set p c⟩:=⟨by simp only [hbl];exact h384,by simp only [List.length_set];exact hs.2.1,aB7 hs.2.2.1 p hc _,fun x hx=>by
    rcases List.mem_or_eq_of_mem_set hx with q | rfl
    · exact hs.2.2.2 x q
    · omega⟩
  have hcls:∀t:Int,(t / 4).toNat≠p→aV ⟨gB h.Bytes p c (bY c).toNat,h.Class.set p c⟩ t=aV h t:=fun t ht=>by
    unfold aV
    by_cases q:0≤t∧t≤23
    · rw [QL hs (by omega),if_neg ht]
    · rw [if_neg (fun z=>q z.1),if_neg (fun z=>q z.1)]
  refine⟨⟨hs',fun q hq=>?_⟩,hcls,fun t ht=>?_,fun i hi=>?_⟩
  · rw [IE hs' hq]
    have hold:=(IE hs hq).1 (hpg q hq)
    by_cases e:q=p
    · subst e
      unfold UA at hold ⊢
      rw [if_pos hun] at hold
      rw [QL hs hq,if_pos rfl,if_neg (by omega)]
      refine⟨(hb 0).2.2,fun k k3 k8=>?_,fun i hi=>?_⟩
      · simp only;rw [(hb k).2.1 k3 k8];exact hold k (by omega)
      · simp only;rw [aMN h384 hp _ hpn i hi];omega
    · refine UA.same hq hs (by simp only [hbl]) (by rw [QL hs hq,if_neg e]) (fun k hk=>?_) hold
      exact(hb _).1 (by omega)
  · obtain⟨p',i',p6',hi',es',ec',eo',ep'⟩:=BT ht
    have hne:(t / 4).toNat≠p:=fun z=>by rw [ec',←ep',z] at ht;omega
    refine⟨hne,?_⟩
    have hz':=sY hs p6' rfl hi'
    unfold kO
    rw [hcls t hne,NI (b:=h.Bytes) (by omega) (by simp only [hbl]) fun k k1 k2=>(hb k).1 (by omega)]
  · have e1:((p:Int) * 4+i) / 4=p:=by omega
    have e2:((p:Int) * 4+i) % 4=i:=by omega
    have ec:aV ⟨gB h.Bytes p c (bY c).toNat,h.Class.set p c⟩ ((p:Int) * 4+i)=c:=by
      unfold aV
      rw [e1,e2,Int.toNat_natCast,QL hs hp,if_pos rfl,if_pos (by omega)]
    refine⟨ec,?_⟩
    unfold kO
    rw [ec]
    have ho:=U6 (c:=c) hp (by omega:(i:Int) < bY c)
    have:(eI ((p:Int) * 4+i) c).toNat=p * 64+8+i * (aS c).toNat:=ho.1
    rw [this]
    exact aMN h384 hp _ hpn i hi
def tG(m m':Mem)(k:Int):Prop:=oM m'∧∀s,fV m s=3→s≠k→fV m' s=3∧kO m'.aC s=kO m.aC s∧aV m'.aC s=aV m.aC s
theorem tG.refl{m:Mem}(h:oM m)(k:Int):tG m m k:=⟨h,fun _ h _=>⟨h,rfl,rfl⟩⟩
theorem tG.live{m m':Mem}{k h:Int}(q:tG m m' k)(hl:nG m h)(hn:h % 32≠k):nG m' h:=by
  obtain⟨h1,h2,h3⟩:=hl
  obtain⟨a,b,_⟩:=q.2 _ h2 hn
  exact⟨h1,a,by rw [b];exact h3⟩
theorem FV{l:List aH}{k j:Nat}(hk:k < l.length){t:aH}:cL (l.set k t) j=if j=k then t.aP else cL l j:=by
  unfold cL
  rw [List.getD_eq_getElem?_getD,List.getD_eq_getElem?_getD,List.getElem?_set]
  by_cases e:k=j
  · subst e;simp [hk]
  · have e':¬j=k:=fun z=>e z.symm
    simp [e,e']
theorem aAN{l:List aH}{k:Nat}(hk:k < l.length){t:aH}(ht:t.aP.Sublist l[k].aP):(cK (l.set k t)).Sublist (cK l):=by
  rw [DQ hk,BS hk]
  exact(List.Sublist.refl _).append (ht.append (List.Sublist.refl _))
theorem QM{l:List aH}{k:Nat}(hk:k < l.length){xs:List Int}{s:Int}:s∈cK (l.set k ⟨l[k].aP++xs⟩)↔s∈cK l∨s∈xs:=by
  rw [DQ hk,BS hk]
  simp only [List.mem_append]
  constructor
  · rintro(h | (h | h) | h)
    · exact .inl (.inl h)
    · exact .inl (.inr (.inl h))
    · exact .inr h
    · exact .inl (.inr (.inr h))
  · rintro((h | h | h) | h)
    · exact .inl h
    · exact .inr (.inl (.inl h))
    · exact .inr (.inr h)
    · exact .inr (.inl (.inr h))
theorem MS{l:List aH}{k:Nat}(hk:k < l.length){xs r q:List Int}(h:(q++(cK l++r)).Nodup)(hx:xs.Nodup)(hd:∀x∈xs,x∉q++(cK l++r)):(q++(cK (l.set k ⟨l[k].aP++xs⟩)++r)).Nodup:=by
  have hp:(q++(cK (l.set k ⟨l[k].aP++xs⟩)++r)).Perm (xs++(q++(cK l++r))):=by
    rw [DQ hk,BS hk]
    have e1:q++(cK (l.take k)++(l[k].aP++xs++cK (l.drop (k+1)))++r)=(q++cK (l.take k)++l[k].aP)++(xs++(cK (l.drop (k+1))++r)):=by simp
    have e2:xs++(q++(cK (l.take k)++(l[k].aP++cK (l.drop (k+1)))++r))=xs++((q++cK (l.take k)++l[k].aP)++(cK (l.drop (k+1))++r)):=by simp
    rw [e1,e2]
    exact List.perm_append_comm_assoc _ _ _
  rw [hp.nodup_iff,List.nodup_append]
  exact⟨hx,h,fun a ha b hb e=>hd a ha (e ▸ hb)⟩
theorem pA{m:Mem}{s:Int}:fV m s=3↔0≤aV m.aC s∧s∉dC m.aB∧kO m.aC s≤6:=by
  unfold fV
  constructor
  · intro h
    split at h
    · omega
    · split at h
      · omega
      · split at h
        · omega
        · exact⟨by omega,by assumption,by omega⟩
  · rintro⟨a,b,c⟩
    rw [if_neg (by omega),if_neg b,if_neg (by omega)]
noncomputable section
variable {m:Mem} (hm:oM m)
include hm
theorem oM.aRQ{k:Nat}(hk:k < 9){t:aH}(ht:t.aP.Sublist (cL m.aB.aX k)):tG m ⟨m.aC,⟨m.aB.Global,m.aB.aX.set k t⟩⟩ (-1):=by
  obtain⟨⟨hh,h3,h9,h2,hr,hn⟩,hg,ho⟩:=hm
  have hk':k < m.aB.aX.length:=by omega
  have ht':t.aP.Sublist m.aB.aX[k].aP:=by rw [cV hk'];exact ht
  have hsub:(dC ⟨m.aB.Global,m.aB.aX.set k t⟩).Sublist (dC m.aB):=(List.Sublist.refl _).append (aAN hk' ht')
  refine⟨⟨⟨hh,h3,by simpa using h9,fun s hs=>?_,fun x hx=>hr x (hsub.subset hx),hsub.nodup hn⟩,hg,fun j hj=>?_⟩,fun s hs _=>⟨?_,rfl,rfl⟩⟩
  · rcases List.mem_or_eq_of_mem_set hs with q | rfl
    · exact h2 s q
    · have:=ht'.length_le;have:=h2 _ (List.getElem_mem hk');omega
  · unfold yZ
    simp only [FV hk']
    split
    · rename_i e;subst e
      exact fun x hx=>ho j hj x (ht.subset hx)
    · exact ho j hj
  · rw [pA] at hs ⊢
    exact⟨hs.1,fun q=>hs.2.1 (hsub.subset q),hs.2.2⟩
theorem oM.aI4{k:Nat}(hk:k < 3){t:aH}(ht:t.aP.Sublist (cL m.aB.Global k)):tG m ⟨m.aC,⟨m.aB.Global.set k t,m.aB.aX⟩⟩ (-1):=by
  obtain⟨⟨hh,h3,h9,h2,hr,hn⟩,hg,ho⟩:=hm
  have hk':k < m.aB.Global.length:=by omega
  have ht':t.aP.Sublist m.aB.Global[k].aP:=by rw [cV hk'];exact ht
  have hsub:(dC ⟨m.aB.Global.set k t,m.aB.aX⟩).Sublist (dC m.aB):=(aAN hk' ht').append (List.Sublist.refl _)
  refine⟨⟨⟨hh,by simpa using h3,h9,h2,fun x hx=>hr x (hsub.subset hx),hsub.nodup hn⟩,fun j hj=>?_,ho⟩,fun s hs _=>⟨?_,rfl,rfl⟩⟩
  · unfold EW
    simp only [FV hk']
    split
    · rename_i e;subst e
      exact fun x hx=>hg j hj x (ht.subset hx)
    · exact hg j hj
  · rw [pA] at hs ⊢
    exact⟨hs.1,fun q=>hs.2.1 (hsub.subset q),hs.2.2⟩
theorem oM.aO5{k:Nat}(hk:k < 9){xs:List Int}(hl:(cL m.aB.aX k).length+xs.length≤2)(hx:xs.Nodup)(hf:yY m.aC xs ((k % 3:Nat):Int))(hd:∀x∈xs,x∉dC m.aB)(hk':k < m.aB.aX.length) :
    oM ⟨m.aC,⟨m.aB.Global,m.aB.aX.set k ⟨m.aB.aX[k].aP++xs⟩⟩⟩∧∀s,s∉xs→fV m s=3→fV ⟨m.aC,⟨m.aB.Global,m.aB.aX.set k ⟨m.aB.aX[k].aP++xs⟩⟩⟩ s=3:=by
  obtain⟨⟨hh,h3,h9,h2,hr,hn⟩,hg,ho⟩:=hm
  have hmem:∀s,s∈dC ⟨m.aB.Global,m.aB.aX.set k ⟨m.aB.aX[k].aP++xs⟩⟩↔s∈dC m.aB∨s∈xs:=fun s=>by
    unfold dC;simp only [List.mem_append,QM hk'];rw [or_assoc]
  have hcl:∀x∈xs,0≤x∧x≤23:=fun x h=>by
    have:=(hf x h).1
    exact(vV (h:=m.aC) (s:=x) (by omega)).1
  refine⟨⟨⟨hh,h3,by simpa using h9,fun s hs=>?_,fun x hx=>?_,?_⟩,hg,fun j hj=>?_⟩,fun s hs h3=>?_⟩
  · rcases List.mem_or_eq_of_mem_set hs with q | rfl
    · exact h2 s q
    · rw [←cV hk'] at hl;simpa using hl
  · rcases(hmem x).1 hx with q | q
    · exact hr x q
    · exact hcl x q
  · have:=MS (q:=cK m.aB.Global) (r:=[]) hk' (by simpa [dC] using hn) hx (by simpa [dC] using hd)
    simpa [dC] using this
  · unfold yZ
    simp only [FV hk']
    split
    · rename_i e;subst e
      intro x hx
      rcases List.mem_append.1 hx with q | q
      · rw [cV hk'] at q;exact ho j hj x q
      · exact hf x q
    · exact ho j hj
  · rw [pA] at h3 ⊢
    exact⟨h3.1,fun q=>(((hmem s).1 q).elim h3.2.1 hs),h3.2.2⟩
theorem oM.XH{k:Nat}(hk:k < 3){xs:List Int}(hx:xs.Nodup)(hf:yY m.aC xs (k:Int))(hd:∀x∈xs,x∉dC m.aB)(hk':k < m.aB.Global.length) :
    oM ⟨m.aC,⟨m.aB.Global.set k ⟨m.aB.Global[k].aP++xs⟩,m.aB.aX⟩⟩∧∀s,s∉xs→fV m s=3→fV ⟨m.aC,⟨m.aB.Global.set k ⟨m.aB.Global[k].aP++xs⟩,m.aB.aX⟩⟩ s=3:=by
  obtain⟨⟨hh,h3,h9,h2,hr,hn⟩,hg,ho⟩:=hm
  have hmem:∀s,s∈dC ⟨m.aB.Global.set k ⟨m.aB.Global[k].aP++xs⟩,m.aB.aX⟩↔s∈dC m.aB∨s∈xs:=fun s=>by
    unfold dC;simp only [List.mem_append,QM hk'];rw [or_right_comm]
  have hcl:∀x∈xs,0≤x∧x≤23:=fun x h=>by
    have:=(hf x h).1
    exact(vV (h:=m.aC) (s:=x) (by omega)).1
  refine⟨⟨⟨hh,by simpa using h3,h9,h2,fun x hx=>?_,?_⟩,fun j hj=>?_,ho⟩,fun s hs h3=>?_⟩
  · rcases(hmem x).1 hx with q | q
    · exact hr x q
    · exact hcl x q
  · have:=MS (q:=[]) (r:=cK m.aB.aX) hk' (by simpa [dC] using hn) hx (by simpa [dC] using hd)
    simpa [dC] using this
  · unfold EW
    simp only [FV hk']
    split
    · rename_i e;subst e
      intro x hx
      rcases List.mem_append.1 hx with q | q
      · rw [cV hk'] at q;exact hg j hj x q
      · exact hf x q
    · exact hg j hj
  · rw [pA] at h3 ⊢
    exact⟨h3.1,fun q=>(((hmem s).1 q).elim h3.2.1 hs),h3.2.2⟩
theorem oM.G6{x:Int}(hx:x∈dC m.aB):0≤aV m.aC x∧kO m.aC x≤6:=by
  obtain⟨⟨hh,h3,h9,h2,hr,hn⟩,hg,ho⟩:=hm
  have key:∀(l:List aH),x∈cK l→∃k,k < l.length∧x∈cL l k:=fun l h=>by
    obtain⟨s,h1,h2⟩:=NH.1 h
    obtain⟨k,hk,rfl⟩:=List.mem_iff_getElem.1 h1
    exact⟨k,hk,by rw [←cV hk];exact h2⟩
  rcases List.mem_append.1 hx with q | q
  · obtain⟨k,hk,h⟩:=key _ q
    have:=hg k (by omega) x h
    exact⟨by omega,this.2⟩
  · obtain⟨k,hk,h⟩:=key _ q
    have:=ho k (by omega) x h
    exact⟨by omega,this.2⟩
theorem oM.heap{h':aC}(hh:Q6 h')(hs:∀x∈dC m.aB,aV h' x=aV m.aC x∧kO h' x=kO m.aC x):oM ⟨h',m.aB⟩:=by
  obtain⟨⟨_,hl⟩,hg,ho⟩:=hm
  have key:∀(l:List aH) k x,x∈cL l k→x∈cK l:=fun l k x h=>by
    unfold cL at h
    rw [List.getD_eq_getElem?_getD] at h
    cases hk:l[k]? with
    | none=>rw [hk] at h;simp at h
    | some s=>rw [hk] at h;exact NH.2 ⟨s,List.mem_of_getElem? hk,h⟩
  refine⟨⟨hh,hl⟩,fun k hk x hx=>?_,fun k hk x hx=>?_⟩
  · obtain⟨a,b⟩:=hs x (List.mem_append_left _ (key _ k x hx))
    show aV h' x=_∧kO h' x≤6
    rw [a,b];exact hg k hk x hx
  · obtain⟨a,b⟩:=hs x (List.mem_append_right _ (key _ k x hx))
    show aV h' x=_∧kO h' x≤6
    rw [a,b];exact ho k hk x hx
theorem oM.aUE{s g:Int}(hu:fV m s=3)(hg:1≤g∧g≤7):tG m ⟨⟨XB m.aC.Bytes (eI s (aV m.aC s)).toNat g,m.aC.Class⟩,m.aB⟩ s∧kO ⟨XB m.aC.Bytes (eI s (aV m.aC s)).toNat g,m.aC.Class⟩ s=g:=by
  have hu':=pA.1 hu
  obtain⟨a,b⟩:=Q6.aRP hm.1.1 hu'.1 hg
  refine⟨⟨oM.heap hm a fun x hx=>⟨rfl,?_⟩,fun t ht hn=>?_⟩,by rw [b s hu'.1,if_pos rfl]⟩
  · rw [b x (oM.G6 hm hx).1,if_neg (show ¬x=s from fun e=>hu'.2.1 (e ▸ hx))]
  · have ht':=pA.1 ht
    have e:kO ⟨XB m.aC.Bytes (eI s (aV m.aC s)).toNat g,m.aC.Class⟩ t=kO m.aC t:=by rw [b t ht'.1,if_neg hn]
    exact⟨pA.2 ⟨ht'.1,ht'.2.1,by simp only [e];exact ht'.2.2⟩,e,rfl⟩
theorem oM.aTD{p:Nat}(hp:p < 6)(hun:bO m.aC p < 0){c:Int}(hc:0≤c∧c≤2){xs:List Int}(hxs:∀x∈xs,∃i,i < (bY c).toNat∧x=(p:Int) * 4+(i:Nat))(hx:xs.Nodup)(hk':c.toNat < m.aB.Global.length) :
    tG m ⟨⟨gB m.aC.Bytes p c (bY c).toNat,m.aC.Class.set p c⟩,⟨m.aB.Global.set c.toNat ⟨m.aB.Global[c.toNat].aP++xs⟩,m.aB.aX⟩⟩ (-1):=by
  obtain⟨a,b,d,e⟩:=Q6.aTC hm.1.1 hp hun hc
  have h1:oM ⟨⟨gB m.aC.Bytes p c (bY c).toNat,m.aC.Class.set p c⟩,m.aB⟩:=oM.heap hm a fun x hx=>by
    obtain⟨q,r⟩:=d x (oM.G6 hm hx).1
    exact⟨b x q,r⟩
  have hno:∀x∈xs,¬0≤aV m.aC x:=fun x h q=>by
    obtain⟨i,hi,rfl⟩:=hxs x h
    have h4:=kY c
    exact(d _ q).1 (by omega)
  obtain⟨f,g⟩:=oM.XH h1 (k:=c.toNat) (by omega) hx (fun x h=>by
    obtain⟨i,hi,rfl⟩:=hxs x h
    have:=e i hi
    exact⟨by simp only [this.1];omega,by simp only [this.2];omega⟩) (fun x h q=>hno x h (oM.G6 hm q).1) hk'
  refine⟨f,fun s hs _=>?_⟩
  have hs':=pA.1 hs
  obtain⟨q,r⟩:=d s hs'.1
  have h2:fV ⟨⟨gB m.aC.Bytes p c (bY c).toNat,m.aC.Class.set p c⟩,m.aB⟩ s=3:=pA.2 ⟨by simp only [b s q];exact hs'.1,hs'.2.1,by simp only [r];exact hs'.2.2⟩
  exact⟨g s (fun h=>hno s h hs'.1) h2,r,b s q⟩
end
end Go.Gv
end
noncomputable section
set_option linter.unusedVariables false
set_option linter.unusedSimpArgs false
set_option linter.unusedSectionVars false
namespace Go.Gv
theorem aRR{p n:Nat}{x:Int}(h:x∈gS p n):∃i,i < n∧x=(p:Int) * 4+(i:Nat):=by
  simp only [gS,List.mem_map,List.mem_range] at h
  obtain⟨i,h1,h2⟩:=h
  exact⟨i,h1,h2.symm⟩
theorem aMO(p n:Nat):(gS p n).Nodup:=by
  unfold gS
  rw [List.Nodup,List.pairwise_map]
  exact List.Pairwise.imp (fun h e=>h (by omega)) (List.nodup_range (n:=n))
theorem aD7{m:Mem}(hm:oM m){c:Int}(hc:0≤c∧c≤2) :
    ∃m' s,xC m c=some (m',s)∧C7 m c=some (m',s)∧tM m'∧(0≤s→d7 m'.aC∧0≤aV m'.aC s)∧tG m m' (-1):=by
  have hl:=hm.1.2
  have hcnt:=hl.count
  have hs:=hm.1.1.1
  have hsl:=hl.SO (by omega)
  have hp4:=kY c
  have hpp:0 < bY c:=iX.2 hc
  have hall:=nE m.aB
  have hsG:∀s∈m.aB.Global,s.aP.length≤24:=fun s h=>by have:=BR h;omega
  have hsO:∀s∈m.aB.aX,s.aP.length≤24:=fun s h=>by have:=BR h;omega
  have h3:=hl.1
  have h9:=hl.2.1
  have hcpl:=G3 (l:=m.aB) (by omega) (by omega) (fun s h=>by have:=hsG s h;omega) (fun s h=>by have:=hsO s h;omega)
  unfold xC C7
  rcases aMM hm.1.1 hc with ⟨e1,e2⟩ | ⟨p,hp,hun,e1,e2⟩
  · rw [e1,e2,hcpl]
    have h1:=hs.1;have h2:=hs.2.1
    exact⟨_,_,rfl,rfl,⟨by simp only;omega,by simp only;omega,by simp only;omega,by simp only;omega,by simp only;omega⟩,fun h=>absurd h (by omega),tG.refl hm _⟩
  · rw [e1,e2,hcpl]
    simp only [Option.bind_some,CA,B9,B6,G5]
    have hn:(((bY c).toNat:Int) == 0)=false:=by simpa using (by omega:¬((bY c).toNat:Int)=0)
    have hk:c.toNat < m.aB.Global.length:=by omega
    have hg0:=hsG _ (List.getElem_mem hk)
    have hx:idx m.aB.Global c=some m.aB.Global[c.toNat]:=eO hc.1 (by omega)
    have hz:idx (gS p (bY c).toNat) 0=some ((p:Int) * 4):=by
      have:=aT (l:=gS p (bY c).toNat) (k:=0) (by rw [G5];omega)
      rw [show((0:Nat):Int)=0 from rfl] at this
      rw [this];simp [gS]
    have hlen:(List.drop (1:Int).toNat (List.take (bY c).toNat (gS p (bY c).toNat))).length≤4:=by simp [G5];omega
    simp only [hn,Bool.false_eq_true,if_false,hx,Option.bind_some,hz]
    rw [aO (by omega),aO (by omega)]
    have hcl:bO ⟨gB m.aC.Bytes p c (bY c).toNat,m.aC.Class.set p c⟩ p=c:=by
      have h6:=hs.2.1
      unfold bO;simp [List.getD_eq_getElem?_getD,List.getElem?_set,h6,hp]
    refine⟨_,_,rfl,rfl,⟨by simp only [G4];have:=hs.1;omega,by simp only [List.length_set];have:=hs.2.1;omega,by simp only [List.length_set];omega,by simp only;omega,?_⟩,fun _=>⟨⟨by simp only [G4];exact hs.1,by simp only [List.length_set];exact hs.2.1,aB7 hs.2.2.1 p hc _,fun x hx=>?_⟩,?_⟩,?_⟩
    · rw [nE];simp only [O6 hk];omega
    · rcases List.mem_or_eq_of_mem_set hx with h | rfl
      · exact hs.2.2.2 x h
      · omega
    · unfold aV
      have e4:((p:Int) * 4 / 4).toNat=p:=by omega
      rw [e4]
      simp only [hcl]
      rw [if_pos ⟨by omega,by omega⟩];exact hc.1
    · exact oM.aTD hm hp hun hc (fun x hx=>aRR (List.mem_of_mem_take (List.mem_of_mem_drop hx))) ((aMO p _).sublist ((List.drop_sublist _ _).trans (List.take_sublist _ _))) hk
theorem aF9(n:Int):∃c,xB n=some c∧C5 n=some c∧(c = -1∨(0≤c∧c≤2)):=by
  have s1:∀k,0≤k∧k≤2→eA n k=some (if 1≤n∧n≤e9 k then .stop (Out.ret k) else .next (k+1)):=fun k hk=>by
    simp only [eA]
    rw [if_pos (by simp;omega),nD,Option.bind_some,bQ,Option.bind_some,aK (by omega) (by omega)]
    by_cases q:1≤n∧n≤e9 k
    · rw [decide_eq_true q,if_pos rfl,if_pos q]
    · rw [decide_eq_false q,if_neg (by simp),if_neg q]
  have s2:∀k,0≤k∧k≤2→hQ n k=some (if 1≤n∧n≤e9 k then .stop (Out.ret k) else .next (k+1)):=fun k hk=>by
    simp only [hQ,vM]
    rw [if_pos (by simp;omega),MH,Option.bind_some,aK (by omega) (by omega)]
    by_cases q1:1≤n
    · by_cases q2:n≤e9 k <;> simp [q1,q2]
    · simp [q1]
  have st:∀k,0≤k∧k≤2→1≤n∧n≤e9 k→loop (eA n) k=some (Out.ret k)∧loop (hQ n) k=some (Out.ret k):=fun k hk h=>
    ⟨bT (by rw [s1 k hk,if_pos h]),bT (by rw [s2 k hk,if_pos h])⟩
  have nx:∀k,0≤k∧k≤2→¬(1≤n∧n≤e9 k)→loop (eA n) k=loop (eA n) (k+1)∧loop (hQ n) k=loop (hQ n) (k+1):=fun k hk h=>
    ⟨bM (by rw [s1 k hk,if_neg h]),bM (by rw [s2 k hk,if_neg h])⟩
  unfold xB C5
  by_cases q0:1≤n∧n≤e9 0
  · have:=st 0 (by omega) q0
    rw [this.1,this.2];exact⟨_,rfl,rfl,.inr (by omega)⟩
  · have h0:=nx 0 (by omega) q0
    rw [h0.1,h0.2,show(0:Int)+1=1 from rfl]
    by_cases q1:1≤n∧n≤e9 1
    · have:=st 1 (by omega) q1
      rw [this.1,this.2];exact⟨_,rfl,rfl,.inr (by omega)⟩
    · have h1:=nx 1 (by omega) q1
      rw [h1.1,h1.2,show(1:Int)+1=2 from rfl]
      by_cases q2:1≤n∧n≤e9 2
      · have:=st 2 (by omega) q2
        rw [this.1,this.2];exact⟨_,rfl,rfl,.inr (by omega)⟩
      · have h2:=nx 2 (by omega) q2
        rw [h2.1,h2.2,show(2:Int)+1=3 from rfl,bT (body:=eA n) (r:=Out.brk ()) (by simp [eA]),bT (body:=hQ n) (r:=Out.brk ()) (by simp [hQ])]
        exact⟨_,rfl,rfl,.inl rfl⟩
theorem aMP{s:aH}(hl:s.aP.length≤1048576):∃t x,nU s=some (t,x)∧rA s=some (x,t)∧t.aP.length≤s.aP.length∧(0≤x→x∈s.aP)∧t.aP.Sublist s.aP:=by
  unfold nU rA F8
  rw [aK (by omega) (by omega)]
  by_cases q:s.aP.length=0
  · rw [if_pos (by simpa using q),if_pos (by simp;omega)]
    exact⟨_,_,rfl,rfl,Nat.le_refl _,fun h=>absurd h (by omega),List.Sublist.refl _⟩
  · have hx:idx s.aP ((s.aP.length:Int) - 1)=some (s.aP[s.aP.length - 1]'(by omega)):=by
      rw [show((s.aP.length:Int) - 1)=((s.aP.length - 1:Nat):Int) by omega,aT (by omega)]
    rw [if_neg (by simpa using q),if_neg (by simp;omega),aO (by omega),hx]
    simp only [Option.bind_some]
    rw [aO (by omega)]
    exact⟨_,_,rfl,rfl,by simp,fun _=>List.getElem_mem _,(List.drop_sublist _ _).trans (List.take_sublist _ _)⟩
theorem EN{w c:Int}(hw:0≤w∧w≤2)(hc:0≤c∧c≤2):qM w c=some (w * 3+c)∧zW w c=some (w * 3+c):=by
  have e:aZ (aZ (w * 3)+c)=w * 3+c:=by rw [aK (x:=w * 3) (by omega) (by omega),aK (by omega) (by omega)]
  constructor
  · unfold qM tS;rw [bQ,bQ,decide_eq_true hw,decide_eq_true hc,e];rfl
  · unfold zW AM;rw [hY,gA,decide_eq_true hw,decide_eq_true hc,e];rfl
theorem XI{l:List aH}{k:Nat}(hk:k < l.length){t:aH}(ht:t.aP.length≤l[k].aP.length):(cK (l.set k t)).length≤(cK l).length:=by
  rw [DQ hk,BS hk];simp;omega
noncomputable section
variable {m:Mem} (hm:oM m)
include hm
theorem oM.facts:(dC m.aB).length≤24∧m.aB.Global.length=3∧m.aB.aX.length=9∧m.aC.Bytes.length=384∧m.aC.Class.length=6∧tM m∧fZ m.aB=some m.aB∧gU m.aB=some true ∧
    (∀s∈m.aB.Global,s.aP.length≤24)∧(∀s∈m.aB.aX,s.aP.length≤24):=by
  have hl:=hm.1.2
  have hcnt:=hl.count
  have hall:=nE m.aB
  have hsG:∀s∈m.aB.Global,s.aP.length≤24:=fun s h=>by have:=BR h;omega
  have hsO:∀s∈m.aB.aX,s.aP.length≤24:=fun s h=>by have:=BR h;omega
  have h3:=hl.1;have h9:=hl.2.1
  have h1:=hm.1.1.1.1;have h2:=hm.1.1.1.2.1
  refine⟨hcnt,h3,h9,h1,h2,⟨by omega,by omega,by omega,by omega,by omega⟩,G3 (by omega) (by omega) (fun s h=>by have:=hsG s h;omega) (fun s h=>by have:=hsO s h;omega),by rw [KK (by omega),decide_eq_true hl],hsG,hsO⟩
theorem XJ{w c:Int}(hw:0≤w∧w≤2)(hc:0≤c∧c≤2) :
    ∃l t x,idx m.aB.aX (w * 3+c)=some l∧nU l=some (t,x)∧C6 m.aB w c=some (⟨m.aB.Global,m.aB.aX.set (w * 3+c).toNat t⟩,x) ∧
      tM ⟨m.aC,⟨m.aB.Global,m.aB.aX.set (w * 3+c).toNat t⟩⟩∧(0≤x→0≤aV m.aC x)∧tG m ⟨m.aC,⟨m.aB.Global,m.aB.aX.set (w * 3+c).toNat t⟩⟩ (-1):=by
  obtain⟨hcnt,h3,h9,h1,h2,hsm,hcp,hlo,hsG,hsO⟩:=oM.facts hm
  have hk:(w * 3+c).toNat < m.aB.aX.length:=by omega
  have hx:idx m.aB.aX (w * 3+c)=some m.aB.aX[(w * 3+c).toNat]:=eO (by omega) (by omega)
  have h24:=hsO _ (List.getElem_mem hk)
  obtain⟨t,x,e1,e2,ht,hmem,hsub⟩:=aMP (s:=m.aB.aX[(w * 3+c).toNat]) (by omega)
  have hall:=nE m.aB
  refine⟨_,t,x,hx,e1,?_,⟨by simp only;omega,by simp only;omega,by simp only;omega,by simp only [List.length_set];omega,?_⟩,fun h0=>?_,oM.aRQ hm (by omega) (by rw [←cV hk];exact hsub)⟩
  · unfold C6 vN
    rw [hcp,(EN hw hc).2,hlo]
    simp only [Option.bind_some,Bool.not_true,Bool.false_eq_true,if_false]
    rw [decide_eq_false (by omega),if_neg (by simp),hx,Option.bind_some,e2];rfl
  · have:=XI hk ht
    rw [nE];simp only;omega
  · have:=hm.2.2 (w * 3+c).toNat (by omega) x (by rw [←cV hk];exact hmem h0)
    omega
theorem OE{c:Int}(hc:0≤c∧c≤2) :
    ∃l t x,idx m.aB.Global c=some l∧nU l=some (t,x)∧vO m.aB c=some (⟨m.aB.Global.set c.toNat t,m.aB.aX⟩,x) ∧
      tM ⟨m.aC,⟨m.aB.Global.set c.toNat t,m.aB.aX⟩⟩∧(0≤x→0≤aV m.aC x)∧tG m ⟨m.aC,⟨m.aB.Global.set c.toNat t,m.aB.aX⟩⟩ (-1):=by
  obtain⟨hcnt,h3,h9,h1,h2,hsm,hcp,hlo,hsG,hsO⟩:=oM.facts hm
  have hk:c.toNat < m.aB.Global.length:=by omega
  have hx:idx m.aB.Global c=some m.aB.Global[c.toNat]:=eO (by omega) (by omega)
  have h24:=hsG _ (List.getElem_mem hk)
  obtain⟨t,x,e1,e2,ht,hmem,hsub⟩:=aMP (s:=m.aB.Global[c.toNat]) (by omega)
  have hall:=nE m.aB
  refine⟨_,t,x,hx,e1,?_,⟨by simp only;omega,by simp only;omega,by simp only [List.length_set];omega,by simp only;omega,?_⟩,fun h0=>?_,oM.aI4 hm (by omega) (by rw [←cV hk];exact hsub)⟩
  · unfold vO oE
    rw [hcp,hlo,gA,decide_eq_true hc]
    simp only [Option.bind_some,Bool.not_true,Bool.false_eq_true,if_false]
    rw [hx,Option.bind_some,e2];rfl
  · have:=XI hk ht
    rw [nE];simp only;omega
  · have:=hm.2.1 c.toNat (by omega) x (by rw [←cV hk];exact hmem h0)
    omega
theorem aO6{w h:Int}(hw:0≤w∧w≤2)(hv:nG m h):∃m',BC m w (h % 32)=some m'∧I1 m w h=some m'∧tM m'∧tG m m' (h % 32):=by
  obtain⟨hcnt,h3,h9,h1,h2,hsm,hcp,hlo,hsG,hsO⟩:=oM.facts hm
  have hs:=hm.1.1.1
  have hh:=hv.1
  have hhm:=hh.mod
  have hcl:=wW hv.2.1
  have hgo:=A0 hcl
  have hc2:0≤aV m.aC (h % 32)∧aV m.aC (h % 32)≤2:=by
    obtain⟨_,q,e⟩:=vV hcl
    rw [e];exact iX.1 (by omega)
  have hg6:1≤h / 32∧h / 32≤6:=by unfold kA at hh;omega
  have hbl:m.aC.Bytes.length≤maxLen:=by rw [h1];simp [maxLen]
  have hnot:h % 32∉dC m.aB:=fun q=>by
    have:=hv.2.1;unfold fV at this;rw [if_neg (by omega),if_pos q] at this;omega
  have hcpH:=JH (h:=m.aC) (by omega) (by omega)
  have eo:eI (h % 32) (aV m.aC (h % 32))=(((eI (h % 32) (aV m.aC (h % 32))).toNat:Nat):Int):=by omega
  have ew:aZ (h / 32+1)=h / 32+1:=aK (by omega) (by omega)
  have ed:aZ (Int.tdiv h 32)=h / 32:=by rw [BQ (by unfold kA at hh;omega),aK (by omega) (by omega)]
  have hall:=nE m.aB
  obtain⟨hr1,hr2⟩:=oM.aUE hm hv.2.1 (g:=h / 32+1) (by omega)
  have hu:=pA.1 hv.2.1
  unfold BC I1 LV n9
  rw [hhm.1,gC hs,hcpH,rN hbl,decide_eq_true hs,hU hs,ed,ew,hcp]
  simp only [Option.bind_some,Bool.not_true,Bool.false_eq_true,if_false,D8,yG,D7]
  rw [mB hs hcl,hv.2.2,dL,decide_eq_false (show ¬aV m.aC (h % 32) < 0 by omega),decide_eq_true (show 1≤h / 32+1∧h / 32+1≤7 by omega)]
  simp only [Option.bind_some,Bool.not_true,Bool.false_eq_true,if_false,pP,uO,ew]
  generalize hgn:(eI (h % 32) (aV m.aC (h % 32))).toNat=a at eo
  rw [hgn] at hr1 hr2
  rw [eo,CC (by omega) (by omega) (by omega),OD (by omega)]
  simp only [Option.bind_some]
  rw [MR (by omega) (by omega) (by omega)]
  simp only [Option.bind_some,D3,GH,ed,ew,hhm.1]
  by_cases q:h / 32+1≤6
  · have hk:(w * 3+aV m.aC (h % 32)).toNat < m.aB.aX.length:=by omega
    have hx:idx m.aB.aX (w * 3+aV m.aC (h % 32))=some m.aB.aX[(w * 3+aV m.aC (h % 32)).toNat]:=eO (by omega) (by omega)
    have hk2:(aV m.aC (h % 32)).toNat < m.aB.Global.length:=by omega
    have hx2:idx m.aB.Global (aV m.aC (h % 32))=some m.aB.Global[(aV m.aC (h % 32)).toNat]:=eO (by omega) (by omega)
    have b1:=hsO _ (List.getElem_mem hk)
    have b2:=hsG _ (List.getElem_mem hk2)
    rw [decide_eq_true q,if_pos rfl,if_pos rfl]
    unfold LO RN sQ
    rw [hU hs,Option.bind_some,hcp,(EN hw hc2).1,(EN hw hc2).2,hlo,rM,decide_eq_true (show 0≤h % 32∧h % 32≤23 by omega),MQ (by omega) (by simp only [maxLen];omega) (by simp only [maxLen];omega),decide_eq_false hnot]
    simp only [Option.bind_some,Bool.not_true,Bool.false_eq_true,if_false,hx,hx2]
    have nz:¬w * 3+aV m.aC (h % 32) < 0:=by omega
    simp only [decide_eq_false nz,Bool.false_eq_true,if_false]
    by_cases q2:m.aB.aX[(w * 3+aV m.aC (h % 32)).toNat].aP.length < 2
    · have y1:(m.aB.aX[(w * 3+aV m.aC (h % 32)).toNat].aP.length:Int) < 2:=by omega
      have y2:¬(2:Int)≤m.aB.aX[(w * 3+aV m.aC (h % 32)).toNat].aP.length:=by omega
      simp only [decide_eq_true y1,decide_eq_false y2,Bool.false_eq_true,if_false,if_true]
      rw [aO (by simp;omega),aO (by simp;omega)]
      refine⟨_,rfl,rfl,⟨by simp only [A3];omega,by simp only;omega,by simp only;omega,by simp only [List.length_set];omega,?_⟩,?_⟩
      · rw [nE];simp only [O6 hk];simp;omega
      · have hmod:((w * 3+aV m.aC (h % 32)).toNat % 3:Nat)=(aV m.aC (h % 32)).toNat:=by omega
        obtain⟨z1,z2⟩:=oM.aO5 hr1.1 (k:=(w * 3+aV m.aC (h % 32)).toNat) (by omega) (xs:=[h % 32]) (by simp only [←cV hk,List.length_cons,List.length_nil];omega) (by simp) (fun x hx=>by
          simp at hx;subst hx
          exact⟨by rw [hmod];show aV m.aC (h % 32)=_;omega,by rw [hr2];omega⟩) (fun x hx=>by simp at hx;subst hx;exact hnot) hk
        refine⟨z1,fun s h1 h2=>?_⟩
        obtain⟨y1,y2,y3⟩:=hr1.2 s h1 h2
        exact⟨z2 s (by simpa using h2) y1,y2,y3⟩
    · have y1:¬(m.aB.aX[(w * 3+aV m.aC (h % 32)).toNat].aP.length:Int) < 2:=by omega
      have y2:(2:Int)≤m.aB.aX[(w * 3+aV m.aC (h % 32)).toNat].aP.length:=by omega
      simp only [decide_eq_true y2,decide_eq_false y1,Bool.false_eq_true,if_false,if_true]
      rw [aO (by simp;omega),aO (by simp;omega)]
      refine⟨_,rfl,rfl,⟨by simp only [A3];omega,by simp only;omega,by simp only [List.length_set];omega,by simp only;omega,?_⟩,?_⟩
      · rw [nE];simp only [O6 hk2];simp;omega
      · obtain⟨z1,z2⟩:=oM.XH hr1.1 (k:=(aV m.aC (h % 32)).toNat) (by omega) (xs:=[h % 32]) (by simp) (fun x hx=>by
          simp at hx;subst hx
          exact⟨by show aV m.aC (h % 32)=_;omega,by rw [hr2];omega⟩) (fun x hx=>by simp at hx;subst hx;exact hnot) hk2
        refine⟨z1,fun s h1 h2=>?_⟩
        obtain⟨y1,y2,y3⟩:=hr1.2 s h1 h2
        exact⟨z2 s (by simpa using h2) y1,y2,y3⟩
  · rw [decide_eq_false q,if_neg (by simp),if_neg (by simp)]
    refine⟨_,rfl,rfl,⟨by simp only [A3];omega,by simp only;omega,by simp only;omega,by simp only;omega,by rw [nE];simp only;omega⟩,hr1⟩
end
theorem alloc_eq{b:aA}(hm:oM b.Mem){w:Int}(hw:0≤w∧w≤2)(s:Sub) :
    ∃x y,tY b w s=some (x,y)∧oF s b w=some (y,x)∧∃m',x=⟨m',b.aD,b.aJ,b.dI⟩∧tM m'∧tG b.Mem m' (-1):=by
  have hsm:=(oM.facts hm).2.2.2.2.2.1
  have hs:=hm.1.1.1
  obtain⟨c,ec,ei,hcc⟩:=aF9 s.A
  unfold tY oF
  rw [ec,ei]
  simp only [Option.bind_some]
  by_cases c0:c < 0
  · simp only [decide_eq_true c0,if_true,bC,bA];exact⟨_,_,rfl,rfl,_,rfl,hsm,tG.refl hm _⟩
  have hc:0≤c∧c≤2:=by omega
  simp only [decide_eq_false c0,Bool.false_eq_true,if_false]
  have fin:∀(m':Mem) (x:Int),tM m'→tG b.Mem m' (-1)→(0≤x→d7 m'.aC∧0≤aV m'.aC x) →
      ∃X Y,gI s x ⟨m',b.aD,b.aJ,b.dI⟩=some (X,Y)∧fX s x ⟨m',b.aD,b.aJ,b.dI⟩=some (Y,X)∧∃m',X=⟨m',b.aD,b.aJ,b.dI⟩∧tM m'∧tG b.Mem m' (-1):=by
    intro m' x hs' hst hx
    unfold gI fX
    simp only [sE,IW,bC,bA]
    by_cases x0:0≤x
    · obtain⟨h,e1,e2⟩:=aI3 (m:=m') (hx x0).1 (hx x0).2
      rw [decide_eq_false (show ¬x < 0 by omega),decide_eq_true x0]
      simp only [Bool.false_eq_true,if_false,if_true,e1,e2,Option.bind_some]
      exact⟨_,_,rfl,rfl,m',rfl,hs',hst⟩
    · rw [decide_eq_true (show x < 0 by omega),decide_eq_false x0]
      by_cases p3:s.Pc=3
      · simp only [p3,beq_self_eq_true,if_true,Bool.false_eq_true,if_false,Option.bind_some];exact⟨_,_,rfl,rfl,m',rfl,hs',hst⟩
      · have p3':(s.Pc == 3)=false:=by simpa using p3
        simp only [p3',if_true,Bool.false_eq_true,if_false,Option.bind_some];exact⟨_,_,rfl,rfl,m',rfl,hs',hst⟩
  by_cases p0:s.Pc=0
  · obtain⟨l,t,x,e1,e2,e3,h1,h2,h3⟩:=XJ hm hw hc
    simp only [p0,beq_self_eq_true,if_true,(EN hw hc).1,Option.bind_some,e1,e2,e3]
    exact fin _ x h1 h3 (fun h=>⟨hs,h2 h⟩)
  · have p0':(s.Pc == 0)=false:=by simpa using p0
    simp only [p0',Bool.false_eq_true,if_false,sG,kX]
    obtain⟨l,t,x,e1,e2,e3,h1,h2,h3⟩:=OE hm hc
    by_cases p1:s.Pc=1
    · simp only [p1,beq_self_eq_true,if_true,Option.bind_some,e1,e2,e3]
      exact fin _ x h1 h3 (fun h=>⟨hs,h2 h⟩)
    · have p1':(s.Pc == 1)=false:=by simpa using p1
      simp only [p1',Bool.false_eq_true,if_false]
      by_cases p3:s.Pc=3
      · simp only [p3,beq_self_eq_true,if_true,Option.bind_some,e1,e2,e3]
        exact fin _ x h1 h3 (fun h=>⟨hs,h2 h⟩)
      · have p3':(s.Pc == 3)=false:=by simpa using p3
        simp only [p3',Bool.false_eq_true,if_false]
        by_cases p2:s.Pc=2
        · obtain⟨m',x,e1,e2,h1,h2,h3⟩:=aD7 hm hc
          simp only [p2,beq_self_eq_true,if_true,Option.bind_some,e1,e2]
          exact fin m' x h1 h3 h2
        · have p2':(s.Pc == 2)=false:=by simpa using p2
          simp only [p2',Bool.false_eq_true,if_false,bC,bA];exact⟨_,_,rfl,rfl,_,rfl,hsm,tG.refl hm _⟩
end Go.Gv
end
noncomputable section
set_option linter.unusedVariables false
set_option linter.unusedSimpArgs false
set_option linter.unusedSectionVars false
namespace Go.Gv
theorem aH9(r:cT)(e:Int):∃v,DO r e=some v∧HP r e=some v:=by
  unfold DO HP CY C8
  by_cases h:2≤e
  · simp only [decide_eq_true h,if_true];exact⟨_,rfl,rfl⟩
  · simp only [decide_eq_false h,Bool.false_eq_true,if_false];exact⟨_,rfl,rfl⟩
theorem aO7{b:aA}{w:Int}{l:aR}(hx:idx b.aJ w=some l)(hl:l.Rows.length≤1000)(s:Sub) :
    (sH l.Rows s.Row s.E=some (-1)∧l4 s b w=(bA s 0).bind fun x=>some (x,b)) ∨
    ∃k,∃h:k < l.Rows.length,sH l.Rows s.Row s.E=some (k:Int)∧l4 s b w=some (⟨s.Kind,s.A,2,s.E,(k:Int),0,l.Rows[k].Handle,s.Out,s.Code,s.dB⟩,b):=by
  have key:∀d k,k+d=l.Rows.length →
      (loop (dO l.Rows s.E) (k:Int)=some (Out.brk ())∧loop (dY s b w) (k:Int)=some (Out.brk ())) ∨
      ∃j,∃h:j < l.Rows.length,loop (dO l.Rows s.E) (k:Int)=some (Out.ret (j:Int))∧loop (dY s b w) (k:Int)=some (Out.ret (⟨s.Kind,s.A,2,s.E,(j:Int),0,l.Rows[j].Handle,s.Out,s.Code,s.dB⟩,b)):=by
    intro d
    induction d with
    | zero =>
      intro k hk
      left
      exact⟨bT (by simp only [dO];rw [if_neg (by simp;omega)]),bT (by simp only [dY,hx,Option.bind_some];rw [if_neg (by simp;omega)])⟩
    | succ d ih =>
      intro k hk
      have hk':k < l.Rows.length:=by omega
      obtain⟨v,e1,e2⟩:=aH9 l.Rows[k] s.E
      cases v with
      | true =>
        right
        refine⟨k,hk',bT ?_,bT ?_⟩
        · simp only [dO]
          rw [if_pos (by simp;omega),aT hk',Option.bind_some,e1];rfl
        · simp only [dY,hx,Option.bind_some]
          rw [if_pos (by simp;omega),aT hk',Option.bind_some,e2];rfl
      | false =>
        have n1:dO l.Rows s.E (k:Int)=some (.next ((k+1:Nat):Int)):=by
          simp only [dO]
          rw [if_pos (by simp;omega),aT hk',Option.bind_some,e1,Option.bind_some,aK (by omega) (by omega)];rfl
        have n2:dY s b w (k:Int)=some (.next ((k+1:Nat):Int)):=by
          simp only [dY,hx,Option.bind_some]
          rw [if_pos (by simp;omega),aT hk',Option.bind_some,e2,Option.bind_some,aK (by omega) (by omega)];rfl
        rw [bM n1,bM n2]
        exact ih (k+1) (by omega)
  unfold sH l4
  have hst:∃i:Nat,(if 0 < s.Row then s.Row else 0)=(i:Int)∧(if s.Row < 0 then 0 else s.Row)=(i:Int):=by
    refine⟨s.Row.toNat,?_,?_⟩ <;> split <;> omega
  obtain⟨i,i1,i2⟩:=hst
  rw [i1,i2]
  by_cases hi:i≤l.Rows.length
  · rcases key (l.Rows.length - i) i (by omega) with ⟨a,c⟩ | ⟨j,hj,a,c⟩
    · left;rw [a,c];exact⟨rfl,rfl⟩
    · right;rw [a,c];exact⟨j,hj,rfl,rfl⟩
  · left
    rw [bT (body:=dO l.Rows s.E) (r:=Out.brk ()) (by simp only [dO];rw [if_neg (by simp;omega)]),
      bT (body:=dY s b w) (r:=Out.brk ()) (by simp only [dY,hx,Option.bind_some];rw [if_neg (by simp;omega)])]
    exact⟨rfl,rfl⟩
theorem del_eq{α:Type}{l:List α}{k:Nat}(h:k < l.length):((cX l k (l.drop (k+1))).take (k+(l.length - (k+1)))).drop 0=l.eraseIdx k:=by
  have h1:(l.take k).length=k:=by rw [List.length_take];omega
  have h2:(l.drop (k+1)).length=l.length - (k+1):=by simp
  unfold cX
  rw [List.drop_zero,List.eraseIdx_eq_take_drop_succ,List.take_of_length_le (l:=l.drop (k+1)) (by rw [h2];omega),←List.append_assoc]
  rw [show k+(l.length - (k+1))=(l.take k++l.drop (k+1)).length by rw [List.length_append,h1,h2]]
  exact List.take_left
theorem aGA{α:Type}{l:List α}{k:Nat}(h:k < l.length):l.Perm (l[k] :: l.eraseIdx k):=by
  have e:l=l.take k++l[k] :: l.drop (k+1):=by rw [←List.drop_eq_getElem_cons h,List.take_append_drop]
  rw [List.eraseIdx_eq_take_drop_succ]
  refine(List.Perm.of_eq e).trans ?_
  exact List.perm_middle
theorem nF.drop{b:List aR}(hL:nF b){w:Nat}(hw:w < b.length):∀k (hk:k < b[w].Rows.length),nF (b.set w ⟨b[w].Rows.eraseIdx k⟩)∧∀r∈bE (b.set w ⟨b[w].Rows.eraseIdx k⟩),r∈bE b∧r.Handle % 32≠b[w].Rows[k].Handle % 32:=by
  intro k hk
  have hsub:(bE (b.set w ⟨b[w].Rows.eraseIdx k⟩)).Sublist (bE b):=by
    rw [ID hw,FU hw]
    exact(List.Sublist.refl _).append ((List.eraseIdx_sublist _ _).append (List.Sublist.refl _))
  have hnd:=hL.2.2.2
  refine⟨⟨by simpa using hL.1,Nat.le_trans hsub.length_le hL.2.1,fun r hr=>hL.2.2.1 r (hsub.subset hr),(hsub.map iY).nodup hnd⟩,fun r hr=>⟨hsub.subset hr,?_⟩⟩
  have hp:(bE b).Perm (b[w].Rows[k] :: bE (b.set w ⟨b[w].Rows.eraseIdx k⟩)):=by
    rw [ID hw,FU hw]
    refine List.Perm.trans (List.Perm.append_left _ (List.Perm.append_right _ (aGA hk))) ?_
    exact List.perm_middle
  have:=(hp.map iY).nodup_iff.1 hnd
  rw [List.map_cons,List.nodup_cons] at this
  exact fun e=>this.1 (List.mem_map.2 ⟨r,hr,e⟩)
theorem aGB{b:aA}(hb:l7 b){w:Int}(hw:0≤w∧w≤2)(s:Sub) :
    ∃x y,oV b w s=some (x,y)∧l5 s b w=some (y,x)∧∃m' L,x=⟨m',b.aD,L,b.dI⟩∧tM m'∧oM m'∧nF L∧∀r∈bE L,nG m' r.Handle∧r.aG≤b.aD.aG:=by
  have hm:=hb.1.1
  have hL:=hb.1.2.2.1
  have hZ:=hb.1.2.2.2
  have hsm:=(oM.facts hm).2.2.2.2.2.1
  have hlen:w.toNat < b.aJ.length:=by have:=hL.1;omega
  have hx:idx b.aJ w=some b.aJ[w.toNat]:=eO hw.1 (by omega)
  have hrow:=hL.small.2.2.2 _ (List.getElem_mem hlen)
  have hmemL:b.aJ[w.toNat]∈b.aJ:=List.getElem_mem hlen
  have hset:=nF.drop hL hlen
  generalize b.aJ[w.toNat]=l at hx hrow hset hmemL
  have done:∀y:Sub,∃x z,(some (b,y):Option (aA×Sub))=some (x,z)∧(some (y,b):Option (Sub×aA))=some (z,x)∧∃m' L,x=⟨m',b.aD,L,b.dI⟩∧tM m'∧oM m'∧nF L∧∀r∈bE L,nG m' r.Handle∧r.aG≤b.aD.aG:=
    fun y=>⟨_,_,rfl,rfl,b.Mem,b.aJ,rfl,hsm,hm,hL,hb.2⟩
  have hw1:aZ ((l.Rows.length:Int) - 1)=(l.Rows.length:Int) - 1:=aK (by omega) (by omega)
  have hhas:BL b.aJ w s.Row=some (decide (0≤s.Row∧s.Row≤(l.Rows.length:Int) - 1)):=by
    unfold BL yF
    rw [hY,decide_eq_true hw,Option.bind_some,if_pos rfl,hx,Option.bind_some,dL,hw1];rfl
  unfold oV l5
  rw [hhas,hx]
  simp only [Option.bind_some,bC,bQ,hw1]
  have hat:∃a:Bool,(if decide (0≤s.Row∧s.Row≤(l.Rows.length:Int) - 1)=true then (idx l.Rows s.Row).bind fun x15=>eG s b w (x15.Handle == s.H) else eG s b w false)=eG s b w a ∧
      (if (!decide (0≤s.Row∧s.Row≤(l.Rows.length:Int) - 1))=true then dZ b s true else (idx l.Rows s.Row).bind fun x11=>dZ b s (x11.Handle != s.H))=dZ b s (!a) ∧
      (a=true→∃r,r∈l.Rows∧idx l.Rows s.Row=some r∧r.Handle=s.H∧0≤s.Row∧s.Row < l.Rows.length) ∧
      (a=false→∀f:cT→Option (aA×Sub),(if (!decide (0≤s.Row∧s.Row≤(l.Rows.length:Int) - 1))=true then d4 b w s l true else (idx l.Rows s.Row).bind fun x=>if (x.Handle != s.H)=true then d4 b w s l true else f x)=d4 b w s l true):=by
    by_cases q:0≤s.Row∧s.Row≤(l.Rows.length:Int) - 1
    · have hr:idx l.Rows s.Row=some (l.Rows[s.Row.toNat]'(by omega)):=eO q.1 (by omega)
      by_cases q2:(l.Rows[s.Row.toNat]'(by omega)).Handle=s.H
      · refine⟨true,?_,?_,fun _=>⟨_,List.getElem_mem _,hr,q2,q.1,by omega⟩,fun h=>by cases h⟩
        · rw [decide_eq_true q,if_pos rfl,hr,Option.bind_some,q2,beq_self_eq_true]
        · rw [decide_eq_true q,if_neg (by simp),hr,Option.bind_some,q2,bne_self_eq_false];rfl
      · have n1:((l.Rows[s.Row.toNat]'(by omega)).Handle == s.H)=false:=by simpa using q2
        have n2:((l.Rows[s.Row.toNat]'(by omega)).Handle != s.H)=true:=by simpa using q2
        refine⟨false,?_,?_,(fun h=>by cases h),fun _ f=>?_⟩
        · rw [decide_eq_true q,if_pos rfl,hr,Option.bind_some,n1]
        · rw [decide_eq_true q,if_neg (by simp),hr,Option.bind_some,n2];rfl
        · rw [decide_eq_true q,if_neg (by simp),hr,Option.bind_some,n2,if_pos rfl]
    · refine⟨false,?_,?_,(fun h=>by cases h),fun _ f=>?_⟩
      · rw [decide_eq_false q,if_neg (by simp)]
      · rw [decide_eq_false q,if_pos (by simp)];rfl
      · rw [decide_eq_false q,if_pos (by simp)]
  obtain⟨a,ha1,ha2,ha3,ha4⟩:=hat
  rw [ha1,ha2]
  unfold eG
  by_cases p0:s.Pc=0
  · simp only [p0,beq_self_eq_true,if_true];exact done _
  have p0':(s.Pc == 0)=false:=by simpa using p0
  simp only [p0',Bool.false_eq_true,if_false]
  by_cases p1:s.Pc=1
  · simp only [p1,beq_self_eq_true,if_true]
    rcases aO7 hx (by omega) s with ⟨e1,e2⟩ | ⟨k,hk,e1,e2⟩
    · rw [e1,e2,Option.bind_some,if_pos (by simp)];simp only [bA,p1,Option.bind_some];exact done _
    · rw [e1,e2,Option.bind_some,if_neg (by simp),aT hk];simp only [Option.bind_some];exact done _
  have p1':(s.Pc == 1)=false:=by simpa using p1
  simp only [p1',Bool.false_eq_true,if_false]
  by_cases p2:s.Pc=2
  · simp only [p2,beq_self_eq_true,if_true,hY,Option.bind_some]
    by_cases hB:0≤s.B∧s.B≤2
    · rw [decide_eq_true hB]
      simp only [Bool.not_true,Bool.false_eq_true,if_false,if_true]
      cases a with
      | true =>
        have hz:idx b.dI s.B=some (b.dI[s.B.toNat]'(by have:=hZ.1;omega)):=eO hB.1 (by have:=hZ.1;omega)
        simp only [dZ,dR,Bool.not_true,Bool.false_eq_true,if_false,if_true,hz,Option.bind_some,nX]
        by_cases q:(b.dI[s.B.toNat]'(by have:=hZ.1;omega))=s.H
        · simp only [q,beq_self_eq_true,if_true];exact done _
        · have q':((b.dI[s.B.toNat]'(by have:=hZ.1;omega)) == s.H)=false:=by simpa using q
          simp only [q',Bool.false_eq_true,if_false]
          by_cases q3:aZ (s.B+1)=3
          · simp only [q3,beq_self_eq_true,if_true];exact done _
          · have q3':(aZ (s.B+1) == 3)=false:=by simpa using q3
            simp only [q3',Bool.false_eq_true,if_false];exact done _
      | false =>
        simp only [dZ,dR,cQ,bC,bA,Bool.not_false,if_true,Bool.false_eq_true,if_false,p2,show((2:Int) == 3)=false from rfl,Option.bind_some]
        exact done _
    · rw [decide_eq_false hB]
      simp only [dZ,dR,cQ,bC,bA,Bool.not_false,if_true,Bool.false_eq_true,if_false,p2,show((2:Int) == 3)=false from rfl,Option.bind_some]
      exact done _
  have p2':(s.Pc == 2)=false:=by simpa using p2
  simp only [p2',Bool.false_eq_true,if_false,dR]
  by_cases p3:s.Pc=3
  · simp only [p3,beq_self_eq_true,if_true]
    cases a with
    | false =>
      rw [ha4 rfl]
      simp only [d4,cQ,bC,bA,if_true,Bool.false_eq_true,if_false,Option.bind_some]
      exact done _
    | true =>
      obtain⟨r,hrm,hr,hrH,r0,r1⟩:=ha3 rfl
      obtain⟨v,e1,e2⟩:=aH9 r s.E
      rw [decide_eq_true (show 0≤s.Row∧s.Row≤(l.Rows.length:Int) - 1 by omega)]
      simp only [Bool.not_true,Bool.false_eq_true,if_false,if_true,hr,Option.bind_some,hrH,bne_self_eq_false,hx,e1,e2]
      cases v with
      | false =>
        simp only [d4,cQ,bC,bA,Bool.not_false,if_true,Bool.false_eq_true,if_false,Option.bind_some]
        exact done _
      | true =>
        have hlive:nG b.Mem s.H:=by
          have:r∈bE b.aJ:=List.mem_flatMap.2 ⟨l,hmemL,hrm⟩
          have:=(hb.2 r this).1
          rwa [hrH] at this
        obtain⟨m',f1,f2,f3,f4⟩:=aO6 hm hw hlive
        have ew:aZ (s.Row+1)=s.Row+1:=aK (by omega) (by omega)
        have hdrop:C9 b.aJ w s.Row=some (b.aJ.set w.toNat ⟨((cX l.Rows s.Row.toNat (l.Rows.drop (s.Row+1).toNat)).take (s.Row.toNat+(l.Rows.length - (s.Row+1).toNat))).drop 0⟩,true):=by
          unfold C9 vP
          rw [OB hL.small.2.2.1 (fun s h=>by have:=hL.small.2.2.2 s h;omega),vW hL.small.1,decide_eq_true hL,hhas,decide_eq_true (show 0≤s.Row∧s.Row≤(l.Rows.length:Int) - 1 by omega)]
          simp only [Option.bind_some,Bool.not_true,Bool.false_eq_true,if_false,hx,ew]
          unfold wD
          rw [aO (by omega),if_neg (by simp;omega),aO (by omega),aO (by omega),aO (by omega),aO]
          · rfl
          · rw [eE (by omega)]
            simp only [List.drop_zero,List.length_take,eE (show s.Row.toNat≤l.Rows.length by omega)]
            omega
        simp only [d4,cQ,wA,ew,Bool.not_true,Bool.false_eq_true,if_false,if_true]
        rw [aO (by omega),aO (by omega),aO (by omega),cM,if_pos hlive.1,Option.bind_some,f1,f2,hdrop]
        have hk:s.Row.toNat < l.Rows.length:=by omega
        have eL:((cX l.Rows s.Row.toNat (l.Rows.drop (s.Row+1).toNat)).take (s.Row.toNat+(l.Rows.length - (s.Row+1).toNat))).drop 0=l.Rows.eraseIdx s.Row.toNat:=by
          rw [show(s.Row+1).toNat=s.Row.toNat+1 by omega];exact del_eq hk
        have er:l.Rows[s.Row.toNat]=r:=by
          have:=aT hk
          rw [show((s.Row.toNat:Nat):Int)=s.Row by omega,hr] at this
          exact(Option.some.inj this).symm
        rw [eL] at hdrop ⊢
        obtain⟨g1,g2⟩:=hset s.Row.toNat hk
        refine⟨_,_,rfl,rfl,m',_,rfl,f3,f4.1,g1,fun q hq=>?_⟩
        obtain⟨g3,g4⟩:=g2 q hq
        obtain⟨g5,g6⟩:=hb.2 q g3
        refine⟨f4.live g5 fun e=>?_,g6⟩
        rw [er,hrH] at g4
        exact g4 e
  · have p3':(s.Pc == 3)=false:=by simpa using p3
    simp only [p3',Bool.false_eq_true,if_false,cQ,bA,Option.bind_some]
    exact done _
end Go.Gv
end
noncomputable section
set_option linter.unusedVariables false
set_option linter.unusedSimpArgs false
set_option linter.unusedSectionVars false
namespace Go.Gv
theorem R1.fits{b:aA}(h:R1 b):b.Mem.aC.Bytes.length≤maxLen∧(dC b.Mem.aB).length≤1073741824∧b.aD.aQ.length≤maxLen∧b.aJ.length≤maxLen∧(bE b.aJ).length≤1073741824∧b.dI.length≤maxLen:=by
  have hb:(1048576:Nat)≤maxLen:=by simp [maxLen]
  have g1:=h.1.1;have g2:=h.1.2.2.2.2;have g3:=h.2.1;have g4:=h.2.2.1;have g5:=h.2.2.2.1;have g6:=h.2.2.2.2
  exact⟨by omega,by omega,by omega,by omega,by omega,by omega⟩
theorem step_eq{b:aA}(hb:l7 b)(hs:R1 b){w:Int}(hw:0≤w∧w≤2)(s:Sub) :
    ∃x y,qR b w s=some (x,y)∧iO s b w=some (y,x)∧l7 x:=by
  have hz:=hb.1.2.2.2.1
  have hl:=hb.1.2.2.1
  unfold qR iO
  cases hd:s.dB with
  | true=>exact⟨_,_,rfl,rfl,hb⟩
  | false =>
    simp only [Bool.false_eq_true,if_false]
    by_cases k1:s.Kind=1
    · obtain⟨x,y,e1,e2,m,rfl,h1,h2⟩:=alloc_eq hb.1.1 hw s
      simp only [k1,beq_self_eq_true,if_true,e1,e2,Option.bind_some]
      exact⟨_,_,rfl,rfl,⟨h2.1,hb.1.2⟩,fun r hr=>⟨h2.live (hb.2 r hr).1 (by have:=(hb.2 r hr).1.1;unfold kA at this;omega),(hb.2 r hr).2⟩⟩
    have k1':(s.Kind == 1)=false:=by simpa using k1
    simp only [k1',Bool.false_eq_true,if_false]
    by_cases k2:s.Kind=2
    · obtain⟨x,y,e1,e2,L,rfl,h1,h2⟩:=aI0 hb hs hw s
      simp only [k2,beq_self_eq_true,if_true,e1,e2,Option.bind_some]
      exact⟨_,_,rfl,rfl,⟨hb.1.1,hb.1.2.1,h1,hb.1.2.2.2⟩,h2⟩
    have k2':(s.Kind == 2)=false:=by simpa using k2
    simp only [k2',Bool.false_eq_true,if_false]
    by_cases k3:s.Kind=3
    · obtain⟨x,y,e1,e2,c,rfl,h1,h2⟩:=aF5 hb.1.2.1 s
      simp only [k3,beq_self_eq_true,if_true,e1,e2,Option.bind_some]
      exact⟨_,_,rfl,rfl,⟨hb.1.1,h1,hb.1.2.2⟩,fun r hr=>⟨(hb.2 r hr).1,Int.le_trans (hb.2 r hr).2 h2⟩⟩
    have k3':(s.Kind == 3)=false:=by simpa using k3
    simp only [k3',Bool.false_eq_true,if_false]
    by_cases k4:s.Kind=4
    · obtain⟨x,y,e1,e2,m,L,rfl,h1,h2,h3,h4⟩:=aGB hb hw s
      simp only [k4,beq_self_eq_true,if_true,e1,e2,Option.bind_some]
      exact⟨_,_,rfl,rfl,⟨h2,hb.1.2.1,h3,hb.1.2.2.2⟩,h4⟩
    have k4':(s.Kind == 4)=false:=by simpa using k4
    simp only [k4',Bool.false_eq_true,if_false]
    by_cases k5:s.Kind=5
    · obtain⟨x,y,e1,e2,c,rfl,h1,h2⟩:=aRO hb.1.2.1 hw s
      simp only [k5,beq_self_eq_true,if_true,e1,e2,Option.bind_some]
      exact⟨_,_,rfl,rfl,⟨hb.1.1,h1,hb.1.2.2⟩,fun r hr=>⟨(hb.2 r hr).1,Int.le_trans (hb.2 r hr).2 h2⟩⟩
    have k5':(s.Kind == 5)=false:=by simpa using k5
    simp only [k5',Bool.false_eq_true,if_false,bC,bA,Option.bind_some]
    exact⟨_,_,rfl,rfl,hb⟩
theorem l7.small{b:aA}(hb:l7 b):R1 b:=by
  have h1:=hb.1.2.1.2.1;have h2:=hb.1.2.2.1.1;have h3:=hb.1.2.2.1.2.1;have h4:=hb.1.2.2.2.1
  exact⟨(oM.facts hb.1.1).2.2.2.2.2.1,by omega,by omega,by omega,by omega⟩
end Go.Gv
end
noncomputable section
set_option linter.unusedVariables false
set_option linter.unusedSimpArgs false
set_option linter.unusedSectionVars false
namespace Go.Gv
theorem U7{b:List Int}{a:Nat}{n:Int}(h:a+4≤b.length){j:Nat}(hj:j < a∨a+4≤j):bt (EY b a n) j=bt b j:=by
  unfold EY
  rw [EM (by simp;omega),EM (by simp;omega),EM (by simp;omega),EM (by omega),if_neg (by omega),if_neg (by omega),if_neg (by omega),if_neg (by omega)]
theorem Q6.put{h:aC}(hh:Q6 h){s:Int}(hc:0≤aV h s){n:Int}(hn:0≤n∧n≤4294967295) :
    Q6 ⟨EY h.Bytes ((eI s (aV h s)).toNat+4) n,h.Class⟩∧∀t,0≤aV h t→kO ⟨EY h.Bytes ((eI s (aV h s)).toNat+4) n,h.Class⟩ t=kO h t:=by
  obtain⟨hs,hp⟩:=hh
  have h384:=hs.1
  have hs':d7 ⟨EY h.Bytes ((eI s (aV h s)).toNat+4) n,h.Class⟩:=⟨by rw [QJ];exact hs.1,hs.2.1,aI1 hs.2.2.1 _ hn,hs.2.2.2⟩
  obtain⟨p,i,p6,hi,es,ec,eo,ep⟩:=BT hc
  have hcl:0≤bO h p∧bO h p≤2:=iX.1 (by omega)
  have hroom:8+i * (aS (bO h p)).toNat+8≤64∧∀j,j < (bY (bO h p)).toNat→j * (aS (bO h p)).toNat+4≤i * (aS (bO h p)).toNat+4∨i * (aS (bO h p)).toNat+12≤j * (aS (bO h p)).toNat:=by
    generalize bO h p=c at hi hcl
    rcases fA hcl with rfl | rfl | rfl
    · rw [show(bY 0).toNat=4 from rfl] at *;rw [show(aS 0).toNat=12 from rfl]
      exact⟨by omega,fun j hj=>by omega⟩
    · rw [show(bY 1).toNat=2 from rfl] at *;rw [show(aS 1).toNat=20 from rfl]
      exact⟨by omega,fun j hj=>by omega⟩
    · rw [show(bY 2).toNat=1 from rfl] at *;rw [show(aS 2).toNat=44 from rfl]
      exact⟨by omega,fun j hj=>by omega⟩
  have hgen:∀q j,q < 6→j < (bY (bO h q)).toNat→ld (EY h.Bytes ((eI s (aV h s)).toNat+4) n) (q * 64+8+j * (aS (bO h q)).toNat) 4=ld h.Bytes (q * 64+8+j * (aS (bO h q)).toNat) 4:=fun q j hq hj=>by
    have hz:=sY hs hq rfl hj
    refine NI (by omega) (by simp only [QJ]) fun k k1 k2=>?_
    by_cases e:q=p
    · subst e
      have:=hroom.2 j hj
      exact U7 (by omega) (by omega)
    · exact U7 (by omega) (by omega)
  refine⟨⟨hs',fun q hq=>?_⟩,fun t ht=>?_⟩
  · rw [IE hs' hq]
    have hold:=(IE hs hq).1 (hp q hq)
    by_cases e:q=p
    · subst e
      have hcl':¬bO h q < 0:=by omega
      unfold UA at hold ⊢
      have hcc:bO ⟨EY h.Bytes ((eI s (aV h s)).toNat+4) n,h.Class⟩ q=bO h q:=rfl
      rw [hcc]
      rw [if_neg hcl'] at hold ⊢
      obtain⟨⟨a1,a2,a3⟩,a4,a5⟩:=hold
      have bs:∀k,k < 8→bt (EY h.Bytes ((eI s (aV h s)).toNat+4) n) (q * 64+k)=bt h.Bytes (q * 64+k):=fun k hk=>U7 (by omega) (by omega)
      have b0:=bs 0 (by omega);have b1:=bs 1 (by omega);have b2:=bs 2 (by omega)
      simp only [Nat.add_zero] at b0
      refine⟨⟨by rw [b0];exact a1,by rw [b1];exact a2,by rw [b2];exact a3⟩,fun k k3 k8=>by rw [bs k k8];exact a4 k k3 k8,fun j hj=>?_⟩
      rw [hgen q j hq hj];exact a5 j hj
    · refine UA.same hq hs (by simp only [QJ]) rfl (fun k hk=>U7 (by omega) (by omega)) hold
  · obtain⟨p',i',p6',hi',es',ec',eo',ep'⟩:=BT ht
    have e2:aV ⟨EY h.Bytes ((eI s (aV h s)).toNat+4) n,h.Class⟩ t=aV h t:=rfl
    unfold kO
    rw [e2,eo']
    exact hgen p' i' p6' hi'
theorem oM.put{m:Mem}(hm:oM m){s:Int}(hc:0≤aV m.aC s){n:Int}(hn:0≤n∧n≤4294967295):tG m ⟨⟨EY m.aC.Bytes ((eI s (aV m.aC s)).toNat+4) n,m.aC.Class⟩,m.aB⟩ (-1):=by
  obtain⟨a,b⟩:=Q6.put hm.1.1 hc hn
  refine⟨oM.heap hm a fun x hx=>⟨rfl,b x (oM.G6 hm hx).1⟩,fun t ht _=>?_⟩
  have ht':=pA.1 ht
  have e:=b t ht'.1
  exact⟨pA.2 ⟨ht'.1,ht'.2.1,by simp only [e];exact ht'.2.2⟩,e,rfl⟩
theorem start_eq{h:aC}(hs:d7 h){s:Int}(hc:0≤aV h s):CZ s (aV h s)=some (eI s (aV h s)+4)∧DA s (aV h s)=some (eI s (aV h s)+4):=by
  have hg:=A0 hc
  unfold CZ DA
  rw [pP,uO,Option.bind_some,if_neg (by simp;omega),aK (by omega) (by omega)]
  exact⟨rfl,rfl⟩
theorem XL{h:aC}(hs:d7 h){s:Int}(hc:0≤aV h s):sT h s 0 4=some (eI s (aV h s)+4):=by
  have hg:=A0 hc
  have hc2:0≤aV h s∧aV h s≤2:=by
    obtain⟨_,q,e⟩:=vV hc
    rw [e];exact iX.1 (by omega)
  have hz:8≤e9 (aV h s)∧e9 (aV h s)≤40:=by rcases fA hc2 with e | e | e <;> rw [e] <;> decide
  unfold sT I3
  rw [hU hs,Option.bind_some,(start_eq hs hc).2,Option.bind_some,if_neg (by simp;omega),MH]
  simp only [Option.bind_some,dL]
  rw [aK (x:=eI s (aV h s)+4+e9 (aV h s)) (by omega) (by omega),aK (x:=eI s (aV h s)+4+e9 (aV h s) - (eI s (aV h s)+4)) (by omega) (by omega),aK (x:=eI s (aV h s)+4+e9 (aV h s) - (eI s (aV h s)+4) - 4) (by omega) (by omega),decide_eq_true (by omega),aK (by omega) (by omega)]
  simp
theorem SQ{n:Int}(hn:0≤n∧n≤65535):∃t:List UInt8,IY n 4=some t∧(t == [])=false:=by
  have st:∀(m:Int) (c:List UInt8) (i:Nat),c.length≤4→i < 4→0≤m→m≤4294967295→AE 4 (m,c,(i:Int))=some (.next (m / 256,[u8 (m % 256)]++c,((i+1:Nat):Int))):=fun m c i hc hi h0 h1=>by
    simp only [AE]
    rw [if_pos (by simp;omega),aO (by simp;omega),uN h0,BQ h0,aK (x:=m / 256) (by omega) (by omega),aK (by omega) (by omega)];rfl
  unfold IY
  rw [bQ]
  simp only [Option.bind_some,show(decide ((1:Int)≤4∧(4:Int)≤7))=true from rfl,Bool.not_true,Bool.false_eq_true,if_false,GA,decide_eq_false (show ¬n < 0 by omega)]
  rw [show(0:Int)=((0:Nat):Int) from rfl,bM (st n [] 0 (by simp) (by omega) hn.1 (by omega)),bM (st _ _ 1 (by simp) (by omega) (by omega) (by omega)),bM (st _ _ 2 (by simp) (by omega) (by omega) (by omega)),bM (st _ _ 3 (by simp) (by omega) (by omega) (by omega)),bT (by simp only [AE];rw [if_neg (by simp)])]
  simp only [Option.bind_some,NY,NX]
  rw [if_neg (by simp;omega)]
  exact⟨_,rfl,rfl⟩
theorem aGC{m:Mem}(hm:oM m){h n:Int}(hn:0≤n∧n≤65535):∃x c,xI m h 0 4 n=some (x,c)∧DB m h 0 4 n=some (x,c)∧tG m x (-1)∧(c≠0→x=m):=by
  obtain⟨hcnt,h3,h9,h1,h2,hsm,hcp,hlo,hsG,hsO⟩:=oM.facts hm
  have hs:=hm.1.1.1
  have hbl:m.aC.Bytes.length≤maxLen:=by rw [h1];simp [maxLen]
  have hall:(dC m.aB).length≤1073741824:=by omega
  have hg:m.aB.Global.length≤maxLen:=by rw [h3];simp [maxLen]
  have ho:m.aB.aX.length≤maxLen:=by rw [h9];simp [maxLen]
  have hw4:iN 4=some true:=by unfold iN;rw [dL];rfl
  unfold xI DB LP LW
  rw [SP hsm,aD5 hsm,GZ hbl hall,N9 hbl hall,decide_eq_true hm,bQ,hw4,XC ⟨hn.1,by omega⟩]
  simp only [Option.bind_some,Bool.not_true,Bool.false_eq_true,if_false,xH,yH,show(decide ((1:Int)≤4∧(4:Int)≤7))=true from rfl,o9 hs hall hg ho,EK hs hall hg ho]
  by_cases hv:nG m h
  · have hh:=hv.1
    have hcl:=wW hv.2.1
    have hgo:=A0 hcl
    have hc2:0≤aV m.aC (h % 32)∧aV m.aC (h % 32)≤2:=by
      obtain⟨_,q,e⟩:=vV hcl
      rw [e];exact iX.1 (by omega)
    have hz:8≤e9 (aV m.aC (h % 32))∧e9 (aV m.aC (h % 32))≤40:=by rcases fA hc2 with e | e | e <;> rw [e] <;> decide
    obtain⟨p,i,p6,hi,es,ec,eo,ep⟩:=BT hcl
    have hroom:(eI (h % 32) (aV m.aC (h % 32))).toNat+8≤384:=by
      rw [eo]
      have hcl':0≤bO m.aC p∧bO m.aC p≤2:=by rw [←ec];exact hc2
      generalize bO m.aC p=c at hi hcl'
      rcases fA hcl' with rfl | rfl | rfl
      · rw [show(bY 0).toNat=4 from rfl] at hi;rw [show(aS 0).toNat=12 from rfl];omega
      · rw [show(bY 1).toNat=2 from rfl] at hi;rw [show(aS 1).toNat=20 from rfl];omega
      · rw [show(bY 2).toNat=1 from rfl] at hi;rw [show(aS 2).toNat=44 from rfl];omega
    simp only [decide_eq_true hv,Bool.not_true,Bool.false_eq_true,if_false,cM,if_pos hh,Option.bind_some,gC hs,nD,bQ,hh.mod.1,XL hs hcl]
    rw [aK (x:=e9 (aV m.aC (h % 32)) - 1) (by omega) (by omega),decide_eq_true (show(0:Int)≤0∧(0:Int)≤e9 (aV m.aC (h % 32)) - 1 by omega),aK (x:=e9 (aV m.aC (h % 32)) - 0) (by omega) (by omega),decide_eq_false (show ¬e9 (aV m.aC (h % 32)) - 0 < 4 by omega)]
    simp only [Bool.not_true,Bool.false_eq_true,if_false,xG,(start_eq hs hcl).1,Option.bind_some]
    rw [aK (x:=eI (h % 32) (aV m.aC (h % 32))+4+0) (by omega) (by omega),Int.add_zero,decide_eq_false (show ¬eI (h % 32) (aV m.aC (h % 32))+4 < 0 by omega)]
    have eo':eI (h % 32) (aV m.aC (h % 32))+4=(((eI (h % 32) (aV m.aC (h % 32))).toNat+4:Nat):Int):=by omega
    have hput:=oM.put hm hcl (n:=n) ⟨hn.1,by omega⟩
    have hspf:∃t:List UInt8,IY n 4=some t∧(t == [])=false:=SQ hn
    obtain⟨t,ht1,ht2⟩:=hspf
    have hld:jZ m.aC.Bytes (((eI (h % 32) (aV m.aC (h % 32))).toNat+4:Nat):Int) 4=some (ld m.aC.Bytes ((eI (h % 32) (aV m.aC (h % 32))).toNat+4) 4):=vU hs.2.2.1 (w:=4) (by omega) (by omega) (by omega)
    rw [eo',hld]
    simp only [Option.bind_some,Bool.false_eq_true,if_false,bne_self_eq_false,ht1,ht2,show(OC n == [])=false from rfl]
    rw [R3 (by omega) (by omega) ⟨hn.1,by omega⟩,XD (by omega) (by omega) ⟨hn.1,by omega⟩]
    exact⟨_,_,rfl,rfl,hput,fun q=>absurd rfl q⟩
  · simp only [decide_eq_false hv,Bool.not_false,if_true,Option.bind_some,show((4:Int) != 0)=true from rfl]
    exact⟨_,_,rfl,rfl,tG.refl hm _,fun _=>rfl⟩
theorem aGD{b:aA}(hm:oM b.Mem)(h:Int):∃r,FE b.Mem.aC h 0 4=some r∧DC b h 0 4=some r:=by
  have hs:=hm.1.1.1
  have h1:=hs.1
  have hbl:b.Mem.aC.Bytes.length≤maxLen:=by rw [h1];simp [maxLen]
  have hw4:iN 4=some true:=by unfold iN;rw [dL];rfl
  unfold FE DC n9
  rw [dM,gM,bQ,hw4,rN hbl,decide_eq_true hs]
  simp only [Option.bind_some,xJ,o4,show(decide ((1:Int)≤4∧(4:Int)≤7))=true from rfl,Bool.not_true,Bool.false_eq_true,if_false]
  by_cases hh:kA h
  · simp only [decide_eq_true hh,Bool.not_true,Bool.false_eq_true,if_false,cM,if_pos hh,Option.bind_some,gC hs,hU hs,hh.mod.1]
    by_cases hcl:aV b.Mem.aC (h % 32) < 0
    · simp only [decide_eq_true hcl,if_true,kP];exact⟨_,rfl,rfl⟩
    · have hcl':0≤aV b.Mem.aC (h % 32):=by omega
      have hgo:=A0 hcl'
      have hc2:0≤aV b.Mem.aC (h % 32)∧aV b.Mem.aC (h % 32)≤2:=by
        obtain⟨_,q,e⟩:=vV hcl'
        rw [e];exact iX.1 (by omega)
      have hz:8≤e9 (aV b.Mem.aC (h % 32))∧e9 (aV b.Mem.aC (h % 32))≤40:=by rcases fA hc2 with e | e | e <;> rw [e] <;> decide
      obtain⟨p,i,p6,hi,es,ec,eo,ep⟩:=BT hcl'
      have hroom:(eI (h % 32) (aV b.Mem.aC (h % 32))).toNat+8≤384:=by
        rw [eo]
        have hcl'':0≤bO b.Mem.aC p∧bO b.Mem.aC p≤2:=by rw [←ec];exact hc2
        generalize bO b.Mem.aC p=c at hi hcl''
        rcases fA hcl'' with rfl | rfl | rfl
        · rw [show(bY 0).toNat=4 from rfl] at hi;rw [show(aS 0).toNat=12 from rfl];omega
        · rw [show(bY 1).toNat=2 from rfl] at hi;rw [show(aS 1).toNat=20 from rfl];omega
        · rw [show(bY 2).toNat=1 from rfl] at hi;rw [show(aS 2).toNat=44 from rfl];omega
      simp only [decide_eq_false hcl,Bool.false_eq_true,if_false,nD,bQ,Option.bind_some,XL hs hcl']
      rw [aK (x:=e9 (aV b.Mem.aC (h % 32)) - 1) (by omega) (by omega),decide_eq_true (show(0:Int)≤0∧(0:Int)≤e9 (aV b.Mem.aC (h % 32)) - 1 by omega),aK (x:=e9 (aV b.Mem.aC (h % 32)) - 0) (by omega) (by omega),decide_eq_false (show ¬e9 (aV b.Mem.aC (h % 32)) - 0 < 4 by omega)]
      simp only [Bool.not_true,Bool.false_eq_true,if_false,kP,cM,if_pos hh,(start_eq hs hcl').1,Option.bind_some]
      rw [aK (x:=eI (h % 32) (aV b.Mem.aC (h % 32))+4+0) (by omega) (by omega),Int.add_zero,decide_eq_false (show ¬eI (h % 32) (aV b.Mem.aC (h % 32))+4 < 0 by omega)]
      have eo':eI (h % 32) (aV b.Mem.aC (h % 32))+4=(((eI (h % 32) (aV b.Mem.aC (h % 32))).toNat+4:Nat):Int):=by omega
      have hld:jZ b.Mem.aC.Bytes (((eI (h % 32) (aV b.Mem.aC (h % 32))).toNat+4:Nat):Int) 4=some (ld b.Mem.aC.Bytes ((eI (h % 32) (aV b.Mem.aC (h % 32))).toNat+4) 4):=vU hs.2.2.1 (w:=4) (by omega) (by omega) (by omega)
      have hls:qH b.Mem.aC.Bytes (((eI (h % 32) (aV b.Mem.aC (h % 32))).toNat+4:Nat):Int) 4=some (ld b.Mem.aC.Bytes ((eI (h % 32) (aV b.Mem.aC (h % 32))).toNat+4) 4):=yW hs.2.2.1 (w:=4) (by omega) (by omega) (by omega)
      rw [eo',hld,hls]
      exact⟨_,rfl,rfl⟩
  · simp only [decide_eq_false hh,Bool.not_false,if_true];exact⟨_,rfl,rfl⟩
end Go.Gv
end
noncomputable section
set_option linter.unusedVariables false
set_option linter.unusedSimpArgs false
set_option linter.unusedSectionVars false
namespace Go.Gv
theorem aD8{l:List dN}(hl:l.length≤maxLen)(f:dN→Bool)(g:dN→Option Bool)(hg:∀x∈l,g x=some (f x)):j7 l g=some (l.any f):=by
  obtain⟨o,e,h⟩:=EJ l f (body:=j6 l g) (fun k hk=>by
    simp only [j6]
    rw [if_pos (by simp;omega),aT hk,gQ (mR hk hl)]
    simp only [Option.bind_some,hg _ (List.getElem_mem hk)]) (by simp [j6])
  unfold j7 tJ
  rw [e]
  cases o with
  | brk u=>simp only at h;simp [oD,xW,h]
  | ret r=>simp only at h;simp [oD,h]
theorem XM{l:List Queue}(hl:l.length≤maxLen)(f:Queue→Bool)(g:Queue→Option Bool)(hg:∀x∈l,g x=some (f x)):iB l g=some (l.any f):=by
  obtain⟨o,e,h⟩:=EJ l f (body:=iA l g) (fun k hk=>by
    simp only [iA]
    rw [if_pos (by simp;omega),aT hk,gQ (mR hk hl)]
    simp only [Option.bind_some,hg _ (List.getElem_mem hk)]) (by simp [iA])
  unfold iB nY
  rw [e]
  cases o with
  | brk u=>simp only at h;simp [k9,tD,h]
  | ret r=>simp only at h;simp [k9,h]
def y4(k:Int):Prop:=k=1∨k=2∨k=3∨k=7
instance (k:Int):Decidable (y4 k):=by unfold y4;infer_instance
def kW(o:dN):Prop:=(1≤o.Kind∧o.Kind≤7)∧(y4 o.Kind∨o.Cell=0)∧(0≤o.Cell∧o.Cell≤1)∧if o.Kind=1 then (0≤o.fT∧o.fT≤100)∧0≤o.fG∧o.fG≤65535 else o.fT=0∧o.fG=0
instance (o:dN):Decidable (kW o):=by unfold kW;infer_instance
theorem hb0(x:Int):(x == 0)=decide (x=0):=by rw [Bool.eq_iff_iff];simp
theorem aGE:y4 1:=.inl rfl
theorem aAO(k:Int):qO k=some (decide (y4 k)):=by
  unfold qO i6 y4
  by_cases h1:k=1
  · simp [h1]
  · by_cases h2:k=2
    · simp [h2]
    · by_cases h3:k=3
      · simp [h3]
      · by_cases h7:k=7
        · simp [h7]
        · simp [h1,h2,h3,h7]
theorem QN(o:dN):DN o=some (decide (kW o)):=by
  unfold DN w7 CV CX kW
  rw [bQ,aAO,bQ,bQ,bQ]
  by_cases h1:1≤o.Kind∧o.Kind≤7
  · by_cases h2:y4 o.Kind
    · by_cases h3:0≤o.Cell∧o.Cell≤1
      · by_cases h4:o.Kind=1
        · by_cases h5:0≤o.fT∧o.fT≤100 <;> simp [h1,h2,h3,h4,h5,aGE] <;> exact hb0 _
        · by_cases h5:o.fT=0 <;> simp [h1,h2,h3,h4,h5,aGE] <;> exact hb0 _
      · simp [h1,h2,h3]
    · by_cases h0:o.Cell=0
      · by_cases h4:o.Kind=1
        · exact absurd (.inl h4) h2
        · by_cases h5:o.fT=0 <;> simp [h1,h2,h0,h4,h5,aGE] <;> exact hb0 _
      · simp [h1,h2,h0]
  · simp [h1]
theorem QO(o:dN):DP o=some (decide (kW o)):=by
  have key:∀x,lY o x=if 1≤o.Kind∧o.Kind≤7 then (if x then some (decide ((0≤o.Cell∧o.Cell≤1)∧if o.Kind=1 then (0≤o.fT∧o.fT≤100)∧0≤o.fG∧o.fG≤65535 else o.fT=0∧o.fG=0):Bool) else some (decide (o.Cell=0∧if o.Kind=1 then (0≤o.fT∧o.fT≤100)∧0≤o.fG∧o.fG≤65535 else o.fT=0∧o.fG=0))) else some false:=fun x=>by
    unfold lY xX C3 C4
    rw [dL,dL,dL,dL]
    by_cases h1:1≤o.Kind∧o.Kind≤7
    · cases x
      · by_cases h0:o.Cell=0
        · by_cases h4:o.Kind=1
          · by_cases h5:0≤o.fT∧o.fT≤100 <;> simp [h1,h0,h4,h5,aGE] <;> exact hb0 _
          · by_cases h5:o.fT=0 <;> simp [h1,h0,h4,h5,aGE] <;> exact hb0 _
        · simp [h1,h0]
      · by_cases h3:0≤o.Cell∧o.Cell≤1
        · by_cases h4:o.Kind=1
          · by_cases h5:0≤o.fT∧o.fT≤100 <;> simp [h1,h3,h4,h5,aGE] <;> exact hb0 _
          · by_cases h5:o.fT=0 <;> simp [h1,h3,h4,h5,aGE] <;> exact hb0 _
        · simp [h1,h3]
    · simp [h1]
  have key2:DP o=lY o (decide (y4 o.Kind)):=by
    unfold DP y4
    by_cases h1:o.Kind=1
    · simp [h1]
    · by_cases h2:o.Kind=2
      · simp [h2]
      · by_cases h3:o.Kind=3
        · simp [h3]
        · have h7:(o.Kind == 7)=decide (o.Kind=1∨o.Kind=2∨o.Kind=3∨o.Kind=7):=by rw [Bool.eq_iff_iff];simp [h1,h2,h3]
          rw [if_neg (by simpa using h1),if_neg (by simpa using h2),if_neg (by simpa using h3),h7]
  rw [key2,key]
  unfold kW
  by_cases h1:1≤o.Kind∧o.Kind≤7
  · by_cases h2:y4 o.Kind
    · simp only [h1,h2,and_self,decide_true,if_true,true_or,true_and]
    · by_cases h0:o.Cell=0
      · simp [h1,h2,h0]
      · simp [h1,h2,h0]
  · simp [h1]
def aD9(l:List dN):Prop:=∀o∈l,kW o
instance (l:List dN):Decidable (aD9 l):=by unfold aD9;infer_instance
def QOk(q:Queue):Prop:=q.gO.length≤12∧aD9 q.gO
instance (q:Queue):Decidable (QOk q):=by unfold QOk;infer_instance
def EZ(l:List Queue):Prop:=l.length=3∧∀q∈l,QOk q
instance (l:List Queue):Decidable (EZ l):=by unfold EZ;infer_instance
theorem QP{l:List Queue}(hl:l.length≤maxLen):w8 l=some (decide (EZ l)):=by
  unfold w8
  have inner:∀k (hk:k < l.length),l[k].gO.length≤12→loop (lJ l (k:Int)) 0=some (if aD9 l[k].gO then Out.brk () else Out.ret false):=by
    intro k hk h12
    have hb:∀j (hj:j < l[k].gO.length),lJ l (k:Int) (j:Int)=if kW l[k].gO[j] then some (.next ((j+1:Nat):Int)) else some (.stop (Out.ret false)):=by
      intro j hj
      simp only [lJ]
      rw [aT hk,Option.bind_some,if_pos (by simp;omega),Option.bind_some,aT hj,Option.bind_some,QN,Option.bind_some,aK (by omega) (by omega)]
      by_cases q:kW l[k].gO[j] <;> simp [q]
    have:=iJ (f:=lJ l (k:Int)) l[k].gO (fun j=>(j:Int)) kW (Out.brk ()) (Out.ret false) (fun j hj hp=>by rw [hb j hj,if_pos hp]) (fun j hj hp=>by rw [hb j hj,if_neg hp]) (by
      simp only [lJ]
      rw [aT hk,Option.bind_some,if_neg (by simp)])
    refine Eq.trans this ?_
    congr 1
  have hs:∀k (hk:k < l.length),lK l (k:Int)=if QOk l[k] then some (.next ((k+1:Nat):Int)) else some (.stop (Out.ret false)):=by
    intro k hk
    simp only [lK]
    rw [if_pos (by simp;omega),aT hk,Option.bind_some]
    by_cases h12:l[k].gO.length≤12
    · rw [if_neg (by simp;omega),inner k hk h12]
      by_cases q:aD9 l[k].gO
      · rw [if_pos q,if_pos ⟨h12,q⟩]
        simp only [Option.bind_some,J7,J6]
        rw [gQ (mR hk hl)]
      · rw [if_neg q,if_neg (fun a=>q a.2)];rfl
    · rw [if_pos (by simp;omega),if_neg (fun a=>h12 a.1)]
  have key:loop (lK l) 0=_:=iJ (f:=lK l) l (fun k=>(k:Int)) QOk (Out.brk ()) (Out.ret false) (fun k hk hp=>by rw [hs k hk,if_pos hp]) (fun k hk hp=>by rw [hs k hk,if_neg hp]) (by simp [lK])
  rw [key]
  by_cases q:∀x∈l,QOk x
  · rw [if_pos q]
    simp only [Option.bind_some,J8,J5]
    congr 1;rw [Bool.eq_iff_iff];simp only [beq_iff_eq,decide_eq_true_eq]
    exact⟨fun a=>⟨by omega,q⟩,fun a=>by have:=a.1;omega⟩
  · rw [if_neg q,decide_eq_false (show ¬EZ l from fun a=>q a.2)];rfl
theorem QQ{l:List Queue}(hl:l.length≤maxLen)(hq:∀q∈l,q.gO.length≤maxLen):BK l=some (decide (EZ l)):=by
  have e1:∀q∈l,AL q=some (!decide (QOk q)):=by
    intro q hm
    unfold AL sL
    have e:∀x∈q.gO,vL x=some (!decide (kW x)):=fun x _=>by
      unfold vL;rw [QO];rfl
    rw [aD8 (hq q hm) (fun x=>!decide (kW x)) _ e,AZ]
    by_cases h:q.gO.length≤12
    · rw [if_neg (by simp;omega)]
      by_cases h2:∀x∈q.gO,kW x
      · rw [decide_eq_true h2,decide_eq_true (show QOk q from ⟨h,h2⟩)];rfl
      · rw [decide_eq_false h2,decide_eq_false (show ¬QOk q from fun a=>h2 a.2)];rfl
    · rw [if_pos (by simp;omega),decide_eq_false (show ¬QOk q from fun a=>h a.1)];rfl
  unfold BK xY
  rw [XM hl (fun q=>!decide (QOk q)) _ e1,AZ]
  by_cases h:l.length=3
  · rw [if_pos (by simp;omega)]
    by_cases h2:∀x∈l,QOk x
    · rw [decide_eq_true h2,decide_eq_true (show EZ l from ⟨h,h2⟩)];rfl
    · rw [decide_eq_false h2,decide_eq_false (show ¬EZ l from fun a=>h2 a.2)];rfl
  · rw [if_neg (by simp;omega),decide_eq_false (show ¬EZ l from fun a=>h a.1)]
def QT:bJ:=⟨false,⟨0,0,0,0⟩,0,0,⟨0,0,0,0,0,0,0,0,0,false⟩,0,0,0,0⟩
def XN(j:bJ):Prop:=if j.kU then kW j.Op∧cS j.H∧cS j.Old else j=QT
instance (j:bJ):Decidable (XN j):=by unfold XN;infer_instance
theorem y5{j:bJ}(hb:j.kU=true):XN j↔kW j.Op∧cS j.H∧cS j.Old:=by unfold XN;rw [if_pos hb]
theorem MT{j:bJ}(hb:j.kU=false):XN j↔j=QT:=by unfold XN;rw [if_neg (by simp [hb])]
def CD(s:aE):Prop:=l7 s.aA∧s.Cells.length=2∧s.aM.length=3∧EZ s.bL∧(0≤s.aN∧s.aN≤1000000)∧(∀h∈s.Cells,cS h)∧∀j∈s.aM,XN j
instance (s:aE):Decidable (CD s):=by unfold CD;infer_instance
noncomputable section
variable {s:aE} (hf:s.aA.Mem.aC.Bytes.length≤maxLen∧(dC s.aA.Mem.aB).length≤1073741824∧s.aA.aD.aQ.length≤maxLen∧s.aA.aJ.length≤maxLen∧(bE s.aA.aJ).length≤1073741824∧s.aA.dI.length≤maxLen) (ht:s.bL.length≤maxLen) (hq:∀q∈s.bL,q.gO.length≤maxLen) (hcl:s.Cells.length≤maxLen) (hjl:s.aM.length≤maxLen)
include hf ht
include hq hcl hjl
end
end Go.Gv
end
noncomputable section
set_option linter.unusedVariables false
set_option linter.unusedSimpArgs false
set_option linter.unusedSectionVars false
namespace Go.Gv
theorem EO{α:Type}{l:List α}{w:Int}(h0:0≤w)(h1:w < l.length)(x:α):idx (l.set w.toNat x) w=some x:=by
  unfold idx
  rw [if_pos h0,List.getElem?_set_self (by omega)]
theorem eX{a b:Int}(h:¬a=b):(a == b)=false:=by simpa using h
theorem JK{a b:Int}(h:¬a=b):(a != b)=true:=by simpa using h
theorem aEA{c:aD}(hc:FR c){w:Int}(hw:0≤w∧w≤2):∃r,zT c w=some r∧I4 c w=some r∧FR r.1∧r.1.aG=c.aG:=by
  obtain⟨p,hp,hpk⟩:=R2 hc hw
  unfold zT I4
  rw [kG hc.small.1,A2 hc.small.1,fL,lP hc.small.2,hY,bQ,decide_eq_true hc,decide_eq_true hw]
  simp only [Option.bind_some,Bool.not_true,Bool.false_eq_true,if_false,hp,t7,uH]
  cases p.On with
  | true =>
    simp only [Bool.not_true,Bool.false_eq_true,if_false]
    have h0:=hc.1
    exact⟨_,rfl,rfl,hc.aB3 ⟨by simp only;omega,by simp,fun _=>rfl⟩,rfl⟩
  | false=>simp only [Bool.not_false,if_true];exact⟨_,rfl,rfl,hc,rfl⟩
theorem EX.set{z:List Int}(hz:EX z)(k:Nat){h:Int}(hh:cS h):EX (z.set k h):=⟨by simpa using hz.1,fun q hq=>(List.mem_or_eq_of_mem_set hq).elim (hz.2 q) (fun e=>e ▸ hh)⟩
theorem aGF{z:List Int}(hz:EX z){w:Int}(hw:0≤w∧w≤2)(h:Int):∃r,xK z w h=some r∧DD z w h=some r∧EX r.1:=by
  have h3:=hz.1
  have hx:idx z w=some (z[w.toNat]'(by omega)):=eO hw.1 (by omega)
  unfold xK DD
  rw [zZ (by omega),tA (by omega),uR (by simp only [maxLen];omega),G0 (by simp only [maxLen];omega),decide_eq_true hz,bQ,hY,decide_eq_true hw,dM,gM]
  simp only [Option.bind_some,Bool.not_true,Bool.false_eq_true,if_false,oW,o6,hx]
  by_cases q:kA h
  · simp only [decide_eq_true q,Bool.not_true,Bool.false_eq_true,if_false];exact⟨_,rfl,rfl,hz.set _ (.inr q)⟩
  · simp only [decide_eq_false q,Bool.not_false,if_true];exact⟨_,rfl,rfl,hz⟩
theorem aMQ{z:List Int}(hz:EX z){w:Int}(hw:0≤w∧w≤2):∃r,D5 z w=some r∧I5 z w=some r∧EX r.1:=by
  have h3:=hz.1
  have hx:idx z w=some (z[w.toNat]'(by omega)):=eO hw.1 (by omega)
  unfold D5 I5
  rw [zZ (by omega),tA (by omega),uR (by simp only [maxLen];omega),G0 (by simp only [maxLen];omega),decide_eq_true hz,bQ,hY,decide_eq_true hw]
  simp only [Option.bind_some,Bool.not_true,Bool.false_eq_true,if_false,t9,uI,hx]
  by_cases q:(z[w.toNat]'(by omega))=0
  · simp only [q,beq_self_eq_true,if_true];exact⟨_,rfl,rfl,hz⟩
  · simp only [eX q,Bool.false_eq_true,if_false];exact⟨_,rfl,rfl,hz.set _ (.inl rfl)⟩
theorem l7.clock{b:aA}(hb:l7 b){cl:aD}(h:FR cl)(e:b.aD.aG≤cl.aG):l7 ⟨b.Mem,cl,b.aJ,b.dI⟩:=⟨⟨hb.1.1,h,hb.1.2.2⟩,fun r hr=>⟨(hb.2 r hr).1,Int.le_trans (hb.2 r hr).2 e⟩⟩
theorem l7.haz{b:aA}(hb:l7 b){z:List Int}(h:EX z):l7 ⟨b.Mem,b.aD,b.aJ,z⟩:=⟨⟨hb.1.1,hb.1.2.1,hb.1.2.2.1,h⟩,hb.2⟩
theorem l7.mem{b:aA}(hb:l7 b){m:Mem}(h:tG b.Mem m (-1)):l7 ⟨m,b.aD,b.aJ,b.dI⟩:=⟨⟨h.1,hb.1.2⟩,fun r hr=>⟨h.live (hb.2 r hr).1 (by have:=(hb.2 r hr).1.1;unfold kA at this;omega),(hb.2 r hr).2⟩⟩
theorem CD.put{s:aE}(hs:CD s){w:Int}{b:aA}(hb:l7 b){c:List Int}(hc:c.length=2∧∀h∈c,cS h){j:bJ}(hj:XN j)(l:List Ev):CD ⟨b,c,s.aM.set w.toNat j,s.bL,l,s.aN⟩:=
  ⟨hb,hc.1,by simpa using hs.2.2.1,hs.2.2.2.1,hs.2.2.2.2.1,hc.2,fun q hq=>(List.mem_or_eq_of_mem_set hq).elim (hs.2.2.2.2.2.2 q) (fun e=>e ▸ hj)⟩
theorem cG{j:bJ}(h:j.kU=true)(h1:kW j.Op∧cS j.H∧cS j.Old):XN j:=(y5 h).2 h1
noncomputable section
variable {s:aE} (hs:CD s) (hl:s.Log.length≤1000000000) {w:Int} (hw:0≤w∧w≤2) {j:bJ} (hj:idx s.aM w=some j) (hb:j.kU=true) (hjo:kW j.Op∧cS j.H∧cS j.Old)
include hs hl hw hj hb hjo
theorem aRS(hk:j.Op.Kind=1):∃x,((BE s w j).bind fun q=>b8 w q.1 q.2)=some x∧yL s w=some x∧CD x∧x.Log.length≤s.Log.length+1:=by
  have h3:=hs.2.2.1
  have hset:∀x,idx (s.aM.set w.toNat x) w=some x:=EO hw.1 (by omega)
  have hn:∀(e:Ev) {α:Type} (k:Option α),need (s.Log.length + [e].length≤1073741824) k=k:=fun e _ k=>aO (by simp;omega) k
  have hcs:s.Cells.length=2∧∀h∈s.Cells,cS h:=⟨hs.2.1,hs.2.2.2.2.2.1⟩
  have hcell:idx s.Cells j.Op.Cell=some (s.Cells[j.Op.Cell.toNat]'(by have:=hjo.1.2.2.1;omega)):=eO hjo.1.2.2.1.1 (by have:=hjo.1.2.2.1;omega)
  have hcm:cS (s.Cells[j.Op.Cell.toNat]'(by have:=hjo.1.2.2.1;omega)):=hcs.2 _ (List.getElem_mem _)
  generalize (s.Cells[j.Op.Cell.toNat]'(by have:=hjo.1.2.2.1;omega))=cell at hcell hcm
  have hval:0≤j.Op.fG∧j.Op.fG≤65535:=by have:=hjo.1.2.2.2;rw [if_pos hk] at this;exact this.2
  unfold BE yL
  rw [hj]
  simp only [Option.bind_some,aY,bD,cO,b8,fF,hO]
  by_cases p0:j.Pc=0
  · obtain⟨x,y,e1,e2,hx⟩:=step_eq hs.1 hs.1.small hw j.Sub
    simp only [p0,beq_self_eq_true,if_true,e1,e2,Option.bind_some]
    cases hd:y.dB with
    | false=>simp only [Bool.not_false,if_true,Option.bind_some,hj];exact⟨_,rfl,rfl,hs.put hx hcs (by exact cG hb hjo) _,Nat.le_succ _⟩
    | true =>
      simp only [Bool.not_true,Bool.false_eq_true,if_false]
      by_cases c0:y.Code=0
      · simp only [c0,bne_self_eq_false,Bool.false_eq_true,if_false,dM,gM,Option.bind_some]
        by_cases o0:kA y.Out
        · simp only [decide_eq_true o0,Bool.not_true,Bool.false_eq_true,if_false,Option.bind_some,hj];exact⟨_,rfl,rfl,hs.put hx hcs (by exact cG hb ⟨hjo.1,.inr o0,hjo.2.2⟩) _,Nat.le_succ _⟩
        · simp only [decide_eq_false o0,Bool.not_false,if_true,Option.bind_some,hj];exact⟨_,rfl,rfl,hs.put hx hcs (by exact cG hb hjo) _,Nat.le_succ _⟩
      · simp only [JK c0,if_true,Option.bind_some,hj];exact⟨_,rfl,rfl,hs.put hx hcs (by exact cG hb hjo) _,Nat.le_succ _⟩
  simp only [eX p0,Bool.false_eq_true,if_false]
  by_cases p1:j.Pc=1
  · obtain⟨x,c,e1,e2,h1,h2⟩:=aGC hs.1.1.1 (h:=j.H) hval
    simp only [p1,beq_self_eq_true,if_true,e1,e2,Option.bind_some,yI,hj,bD,cO]
    by_cases c0:c=0
    · simp only [c0,bne_self_eq_false,Bool.false_eq_true,if_false,Option.bind_some,hj];exact⟨_,rfl,rfl,hs.put (hs.1.mem h1) hcs (by exact cG hb hjo) _,Nat.le_succ _⟩
    · have:=h2 c0
      subst this
      simp only [JK c0,if_true,Option.bind_some,hj];exact⟨_,rfl,rfl,hs.put hs.1 hcs (by exact cG hb hjo) _,Nat.le_succ _⟩
  simp only [eX p1,Bool.false_eq_true,if_false]
  by_cases p2:j.Pc=2
  · have hc2:(s.Cells.set j.Op.Cell.toNat j.H).length=2∧∀h∈s.Cells.set j.Op.Cell.toNat j.H,cS h:=⟨by simpa using hcs.1,fun q hq=>(List.mem_or_eq_of_mem_set hq).elim (hcs.2 q) (fun e=>e ▸ hjo.2.1)⟩
    simp only [p2,beq_self_eq_true,if_true,hcell,Option.bind_some,hset,hn,yK,cH,cW,yJ,bD,cO,hO]
    by_cases c0:cell=0
    · simp only [c0,beq_self_eq_true,if_true,Option.bind_some,hj,List.set_set];exact⟨_,rfl,rfl,hs.put hs.1 hc2 (by exact cG hb ⟨hjo.1,hjo.2.1,.inl rfl⟩) _,by simp⟩
    · simp only [eX c0,Bool.false_eq_true,if_false,Option.bind_some,hj,List.set_set];exact⟨_,rfl,rfl,hs.put hs.1 hc2 (by exact cG hb ⟨hjo.1,hjo.2.1,hcm⟩) _,by simp⟩
  simp only [eX p2,Bool.false_eq_true,if_false]
  by_cases p3:j.Pc=3
  · obtain⟨x,y,e1,e2,hx⟩:=step_eq hs.1 hs.1.small hw j.Sub
    simp only [p3,beq_self_eq_true,if_true,e1,e2,Option.bind_some]
    cases hd:y.dB with
    | false=>simp only [Bool.not_false,if_true,Bool.false_eq_true,if_false,Option.bind_some,hj];exact⟨_,rfl,rfl,hs.put hx hcs (by exact cG hb hjo) _,Nat.le_succ _⟩
    | true=>simp only [Bool.not_true,if_true,Bool.false_eq_true,if_false,Option.bind_some,hj];exact⟨_,rfl,rfl,hs.put hx hcs (by exact cG hb hjo) _,Nat.le_succ _⟩
  simp only [eX p3,Bool.false_eq_true,if_false,Option.bind_some,hj]
  exact⟨_,rfl,rfl,hs.put hs.1 hcs (by exact cG hb hjo) _,Nat.le_succ _⟩
theorem get_eq(hk:j.Op.Kind=2):∃x,((BF s w j).bind fun q=>b8 w q.1 q.2)=some x∧yM s w=some x∧CD x∧x.Log.length≤s.Log.length+1:=by
  have h3:=hs.2.2.1
  have hset:∀x,idx (s.aM.set w.toNat x) w=some x:=EO hw.1 (by omega)
  have hn:∀(e:Ev) {α:Type} (k:Option α),need (s.Log.length + [e].length≤1073741824) k=k:=fun e _ k=>aO (by simp;omega) k
  have hcs:s.Cells.length=2∧∀h∈s.Cells,cS h:=⟨hs.2.1,hs.2.2.2.2.2.1⟩
  have hcell:idx s.Cells j.Op.Cell=some (s.Cells[j.Op.Cell.toNat]'(by have:=hjo.1.2.2.1;omega)):=eO hjo.1.2.2.1.1 (by have:=hjo.1.2.2.1;omega)
  have hcm:cS (s.Cells[j.Op.Cell.toNat]'(by have:=hjo.1.2.2.1;omega)):=hcs.2 _ (List.getElem_mem _)
  generalize (s.Cells[j.Op.Cell.toNat]'(by have:=hjo.1.2.2.1;omega))=cell at hcell hcm
  obtain⟨pn,hpn,_⟩:=R2 hs.1.1.2.1 hw
  unfold BF yM
  rw [hj]
  simp only [Option.bind_some,aY,bD,cO,b8]
  by_cases p0:j.Pc=0
  · obtain⟨x,y,e1,e2,hx⟩:=step_eq hs.1 hs.1.small hw j.Sub
    simp only [p0,beq_self_eq_true,if_true,e1,e2,Option.bind_some]
    cases hd:y.dB with
    | false=>simp only [Bool.not_false,if_true,Bool.false_eq_true,if_false,Option.bind_some,hj];exact⟨_,rfl,rfl,hs.put hx hcs (by exact cG hb hjo) _,Nat.le_succ _⟩
    | true=>simp only [Bool.not_true,if_true,Bool.false_eq_true,if_false,Option.bind_some,hj];exact⟨_,rfl,rfl,hs.put hx hcs (by exact cG hb hjo) _,Nat.le_succ _⟩
  simp only [eX p0,Bool.false_eq_true,if_false]
  by_cases p1:j.Pc=1
  · simp only [p1,beq_self_eq_true,if_true,hcell,Option.bind_some,gT,hn,rC,hj,cH,cW,hset]
    by_cases c0:cell=0
    · simp only [c0,beq_self_eq_true,if_true,Option.bind_some,hj,List.set_set];exact⟨_,rfl,rfl,hs.put hs.1 hcs (by exact cG hb ⟨hjo.1,.inl rfl,hjo.2.2⟩) _,by simp⟩
    · simp only [eX c0,Bool.false_eq_true,if_false,Option.bind_some,hj,List.set_set];exact⟨_,rfl,rfl,hs.put hs.1 hcs (by exact cG hb ⟨hjo.1,hcm,hjo.2.2⟩) _,by simp⟩
  simp only [eX p1,Bool.false_eq_true,if_false]
  by_cases p2:j.Pc=2
  · obtain⟨r,e1,e2⟩:=aGD hs.1.1.1 j.H
    simp only [p2,beq_self_eq_true,if_true,lW,jM,hj,e1,e2,Option.bind_some,hset,List.set_set]
    exact⟨_,rfl,rfl,hs.put hs.1 hcs (by exact cG hb hjo) _,Nat.le_succ _⟩
  simp only [eX p2,Bool.false_eq_true,if_false]
  by_cases p3:j.Pc=3
  · simp only [p3,beq_self_eq_true,if_true,pK,jS,hj,hpn,Option.bind_some,cO,iH,fY,kJ,aY]
    cases pn.On with
    | false=>simp only [Bool.false_eq_true,if_false,Option.bind_some,Bool.not_false,if_true,hj];exact⟨_,rfl,rfl,hs.put hs.1 hcs (by exact cG hb hjo) _,Nat.le_succ _⟩
    | true =>
      simp only [if_true,Option.bind_some]
      cases pn.cR with
      | false=>simp only [Bool.false_eq_true,if_false,Option.bind_some,Bool.not_false,Bool.not_true,if_true,hj];exact⟨_,rfl,rfl,hs.put hs.1 hcs (by exact cG hb hjo) _,Nat.le_succ _⟩
      | true=>simp only [Bool.false_eq_true,if_false,Option.bind_some,Bool.not_false,Bool.not_true,if_true,hj];exact⟨_,rfl,rfl,hs.put hs.1 hcs (by exact cG hb hjo) _,Nat.le_succ _⟩
  simp only [eX p3,Bool.false_eq_true,if_false]
  by_cases p4:j.Pc=4
  · obtain⟨r,e1,e2,h1,h2⟩:=aEA hs.1.1.2.1 hw
    simp only [p4,beq_self_eq_true,if_true,e1,e2,o5,Option.bind_some,hj]
    exact⟨_,rfl,rfl,hs.put (hs.1.clock h1 (by rw [h2];exact Int.le_refl _)) hcs (by exact cG hb hjo) _,Nat.le_succ _⟩
  simp only [eX p4,Bool.false_eq_true,if_false,Option.bind_some,hj]
  exact⟨_,rfl,rfl,hs.put hs.1 hcs (by exact cG hb hjo) _,Nat.le_succ _⟩
theorem aRT(hk:j.Op.Kind=3):∃x,((BG s w j).bind fun q=>b8 w q.1 q.2)=some x∧yP s w=some x∧CD x∧x.Log.length≤s.Log.length+1:=by
  have h3:=hs.2.2.1
  have hset:∀x,idx (s.aM.set w.toNat x) w=some x:=EO hw.1 (by omega)
  have hn:∀(e:Ev) {α:Type} (k:Option α),need (s.Log.length + [e].length≤1073741824) k=k:=fun e _ k=>aO (by simp;omega) k
  have hcs:s.Cells.length=2∧∀h∈s.Cells,cS h:=⟨hs.2.1,hs.2.2.2.2.2.1⟩
  have hcell:idx s.Cells j.Op.Cell=some (s.Cells[j.Op.Cell.toNat]'(by have:=hjo.1.2.2.1;omega)):=eO hjo.1.2.2.1.1 (by have:=hjo.1.2.2.1;omega)
  have hcm:cS (s.Cells[j.Op.Cell.toNat]'(by have:=hjo.1.2.2.1;omega)):=hcs.2 _ (List.getElem_mem _)
  generalize (s.Cells[j.Op.Cell.toNat]'(by have:=hjo.1.2.2.1;omega))=cell at hcell hcm
  unfold BG yP
  rw [hj]
  simp only [Option.bind_some,aY,bD,cO,b8,yN,yO]
  by_cases p0:j.Pc=0
  · simp only [p0,beq_self_eq_true,if_true,hcell,Option.bind_some,gT,hn,hj,cH,cW,hset]
    by_cases c0:cell=0
    · simp only [c0,beq_self_eq_true,if_true,Option.bind_some,hj,List.set_set,hn];exact⟨_,rfl,rfl,hs.put hs.1 hcs (by exact cG hb ⟨hjo.1,.inl rfl,hjo.2.2⟩) _,by simp⟩
    · simp only [eX c0,Bool.false_eq_true,if_false,Option.bind_some,hj,List.set_set];exact⟨_,rfl,rfl,hs.put hs.1 hcs (by exact cG hb ⟨hjo.1,hcm,hjo.2.2⟩) _,Nat.le_succ _⟩
  simp only [eX p0,Bool.false_eq_true,if_false]
  by_cases p1:j.Pc=1
  · obtain⟨r,e1,e2,h1⟩:=aGF hs.1.1.2.2.2 hw j.H
    simp only [p1,beq_self_eq_true,if_true,e1,e2,Option.bind_some,hj]
    exact⟨_,rfl,rfl,hs.put (hs.1.haz h1) hcs (by exact cG hb hjo) _,Nat.le_succ _⟩
  simp only [eX p1,Bool.false_eq_true,if_false]
  by_cases p2:j.Pc=2
  · simp only [p2,beq_self_eq_true,if_true,hcell,Option.bind_some,gT,hn,hj,cH,cW]
    by_cases c0:cell=j.H
    · simp only [c0,bne_self_eq_false,Bool.false_eq_true,if_false,Option.bind_some,hj];exact⟨_,rfl,rfl,hs.put hs.1 hcs (by exact cG hb hjo) _,by simp⟩
    · simp only [JK c0,if_true,Option.bind_some,hj];exact⟨_,rfl,rfl,hs.put hs.1 hcs (by exact cG hb hjo) _,Nat.le_succ _⟩
  simp only [eX p2,Bool.false_eq_true,if_false]
  by_cases p3:j.Pc=3
  · obtain⟨r,e1,e2⟩:=aGD hs.1.1.1 j.H
    simp only [p3,beq_self_eq_true,if_true,lW,jM,hj,e1,e2,Option.bind_some,hset,List.set_set]
    exact⟨_,rfl,rfl,hs.put hs.1 hcs (by exact cG hb hjo) _,Nat.le_succ _⟩
  simp only [eX p3,Bool.false_eq_true,if_false]
  by_cases p4:j.Pc=4
  · obtain⟨r,e1,e2,h1⟩:=aMQ hs.1.1.2.2.2 hw
    simp only [p4,beq_self_eq_true,if_true,e1,e2,Option.bind_some,hj]
    exact⟨_,rfl,rfl,hs.put (hs.1.haz h1) hcs (by exact cG hb hjo) _,Nat.le_succ _⟩
  simp only [eX p4,Bool.false_eq_true,if_false,Option.bind_some,hj]
  exact⟨_,rfl,rfl,hs.put hs.1 hcs (by exact cG hb hjo) _,Nat.le_succ _⟩
theorem aO9(hk:j.Op.Kind=7):∃x,((xL s w j).bind fun q=>b8 w q.1 q.2)=some x∧vQ s w=some x∧CD x∧x.Log.length≤s.Log.length+1:=by
  have h3:=hs.2.2.1
  have hset:∀x,idx (s.aM.set w.toNat x) w=some x:=EO hw.1 (by omega)
  have hn:∀(e:Ev) {α:Type} (k:Option α),need (s.Log.length + [e].length≤1073741824) k=k:=fun e _ k=>aO (by simp;omega) k
  have hcs:s.Cells.length=2∧∀h∈s.Cells,cS h:=⟨hs.2.1,hs.2.2.2.2.2.1⟩
  have hcell:idx s.Cells j.Op.Cell=some (s.Cells[j.Op.Cell.toNat]'(by have:=hjo.1.2.2.1;omega)):=eO hjo.1.2.2.1.1 (by have:=hjo.1.2.2.1;omega)
  have hcm:cS (s.Cells[j.Op.Cell.toNat]'(by have:=hjo.1.2.2.1;omega)):=hcs.2 _ (List.getElem_mem _)
  generalize (s.Cells[j.Op.Cell.toNat]'(by have:=hjo.1.2.2.1;omega))=cell at hcell hcm
  obtain⟨pn,hpn,_⟩:=R2 hs.1.1.2.1 hw
  unfold xL vQ
  rw [hj,hpn]
  simp only [Option.bind_some,aY,bD,cO,b8,wE,oH,oG,hj]
  by_cases p0:j.Pc=0
  · simp only [p0,beq_self_eq_true,if_true]
    cases pn.On with
    | false=>simp only [Bool.not_false,if_true,Option.bind_some,hj];exact⟨_,rfl,rfl,hs.put hs.1 hcs (by exact cG hb hjo) _,Nat.le_succ _⟩
    | true =>
      simp only [Bool.not_true,Bool.false_eq_true,if_false]
      cases pn.cR with
      | true=>simp only [if_true,Option.bind_some,hj];exact⟨_,rfl,rfl,hs.put hs.1 hcs (by exact cG hb hjo) _,Nat.le_succ _⟩
      | false =>
        simp only [Bool.false_eq_true,if_false,hcell,Option.bind_some,gT,hn,rC,hj,cH,cW,hset]
        by_cases c0:cell=0
        · simp only [c0,beq_self_eq_true,if_true,Option.bind_some,hj,List.set_set];exact⟨_,rfl,rfl,hs.put hs.1 hcs (by exact cG hb ⟨hjo.1,.inl rfl,hjo.2.2⟩) _,by simp⟩
        · simp only [eX c0,Bool.false_eq_true,if_false,Option.bind_some,hj,List.set_set];exact⟨_,rfl,rfl,hs.put hs.1 hcs (by exact cG hb ⟨hjo.1,hcm,hjo.2.2⟩) _,by simp⟩
  simp only [eX p0,Bool.false_eq_true,if_false,hj,Option.bind_some]
  by_cases p1:j.Pc=1
  · obtain⟨r,e1,e2⟩:=aGD hs.1.1.1 j.H
    simp only [p1,beq_self_eq_true,if_true,lW,jM,hj,e1,e2,Option.bind_some,hset,List.set_set]
    exact⟨_,rfl,rfl,hs.put hs.1 hcs (by exact cG hb hjo) _,Nat.le_succ _⟩
  simp only [eX p1,Bool.false_eq_true,if_false]
  by_cases p2:j.Pc=2
  · simp only [p2,beq_self_eq_true,if_true,pK,jS,hj,hpn,Option.bind_some,cO,iH,fY,kJ,aY]
    cases pn.On with
    | false=>simp only [Bool.false_eq_true,if_false,Option.bind_some,Bool.not_false,if_true,hj];exact⟨_,rfl,rfl,hs.put hs.1 hcs (by exact cG hb hjo) _,Nat.le_succ _⟩
    | true =>
      simp only [if_true,Option.bind_some]
      cases pn.cR with
      | false=>simp only [Bool.false_eq_true,if_false,Option.bind_some,Bool.not_false,Bool.not_true,if_true,hj];exact⟨_,rfl,rfl,hs.put hs.1 hcs (by exact cG hb hjo) _,Nat.le_succ _⟩
      | true=>simp only [Bool.false_eq_true,if_false,Option.bind_some,Bool.not_false,Bool.not_true,if_true,hj];exact⟨_,rfl,rfl,hs.put hs.1 hcs (by exact cG hb hjo) _,Nat.le_succ _⟩
  simp only [eX p2,Bool.false_eq_true,if_false,Option.bind_some,hj]
  exact⟨_,rfl,rfl,hs.put hs.1 hcs (by exact cG hb hjo) _,Nat.le_succ _⟩
theorem aMR(hk:j.Op.Kind=4∨j.Op.Kind=5∨j.Op.Kind=6):∃x,((uA s w j).bind fun q=>b8 w q.1 q.2)=some x∧sU s w=some x∧CD x∧x.Log.length≤s.Log.length+1:=by
  have h3:=hs.2.2.1
  have hset:∀x,idx (s.aM.set w.toNat x) w=some x:=EO hw.1 (by omega)
  have hcs:s.Cells.length=2∧∀h∈s.Cells,cS h:=⟨hs.2.1,hs.2.2.2.2.2.1⟩
  obtain⟨x,y,e1,e2,hx⟩:=step_eq hs.1 hs.1.small hw j.Sub
  unfold uA sU
  rw [hj]
  simp only [Option.bind_some,aY,bD,cO,b8,fF,hO,sI,fN,mP,mL,mO,mN,mM,hj,e1,e2]
  rcases hk with k4 | k5 | k6
  · simp only [k4,show((4:Int) == 6)=false from rfl,show((4:Int) == 5)=false from rfl,show((4:Int) == 4)=true from rfl,Bool.false_eq_true,if_false,if_true]
    by_cases p0:j.Pc=0
    · simp only [p0,bne_self_eq_false,beq_self_eq_true,Bool.false_eq_true,if_false,if_true]
      cases hd:y.dB with
      | false=>simp only [Bool.not_false,if_true,Bool.false_eq_true,if_false,Option.bind_some,hj];exact⟨_,rfl,rfl,hs.put hx hcs (by exact cG hb hjo) _,Nat.le_succ _⟩
      | true=>simp only [Bool.not_true,if_true,Bool.false_eq_true,if_false,Option.bind_some,hj];exact⟨_,rfl,rfl,hs.put hx hcs (by exact cG hb hjo) _,Nat.le_succ _⟩
    · simp only [JK p0,eX p0,Bool.false_eq_true,if_false,if_true]
      by_cases p1:j.Pc=1
      · simp only [p1,bne_self_eq_false,beq_self_eq_true,Bool.false_eq_true,if_false,if_true,show((1:Int) == 0)=false from rfl]
        cases hd:y.dB with
        | false=>simp only [Bool.not_false,if_true,Bool.false_eq_true,if_false,Option.bind_some,hj];exact⟨_,rfl,rfl,hs.put hx hcs (by exact cG hb hjo) _,Nat.le_succ _⟩
        | true=>simp only [Bool.not_true,if_true,Bool.false_eq_true,if_false,Option.bind_some,hj];exact⟨_,rfl,rfl,hs.put hx hcs (by exact cG hb hjo) _,Nat.le_succ _⟩
      · simp only [JK p1,eX p1,Bool.false_eq_true,if_false,if_true,Option.bind_some,hj]
        exact⟨_,rfl,rfl,hs.put hs.1 hcs (by exact cG hb hjo) _,Nat.le_succ _⟩
  · simp only [k5,show((5:Int) == 6)=false from rfl,show((5:Int) == 5)=true from rfl,show((5:Int) == 4)=false from rfl,Bool.false_eq_true,if_false,if_true]
    by_cases p0:j.Pc=0
    · simp only [p0,bne_self_eq_false,beq_self_eq_true,Bool.false_eq_true,if_false,if_true]
      cases hd:y.dB with
      | false=>simp only [Bool.not_false,if_true,Bool.false_eq_true,if_false,Option.bind_some,hj];exact⟨_,rfl,rfl,hs.put hx hcs (by exact cG hb hjo) _,Nat.le_succ _⟩
      | true=>simp only [Bool.not_true,if_true,Bool.false_eq_true,if_false,Option.bind_some,hj];exact⟨_,rfl,rfl,hs.put hx hcs (by exact cG hb hjo) _,Nat.le_succ _⟩
    · simp only [JK p0,eX p0,Bool.false_eq_true,if_false,if_true]
      by_cases p1:j.Pc=1
      · simp only [p1,bne_self_eq_false,Bool.false_eq_true,if_false,if_true,Option.bind_some,hj]
        exact⟨_,rfl,rfl,hs.put hs.1 hcs (by exact cG hb hjo) _,Nat.le_succ _⟩
      · simp only [JK p1,if_true,Option.bind_some,hj]
        exact⟨_,rfl,rfl,hs.put hs.1 hcs (by exact cG hb hjo) _,Nat.le_succ _⟩
  · simp only [k6,beq_self_eq_true,show((6:Int) == 5)=false from rfl,show((6:Int) == 4)=false from rfl,Bool.false_eq_true,if_false,if_true]
    by_cases p0:j.Pc=0
    · obtain⟨r,f1,f2,h1,h2⟩:=aEA hs.1.1.2.1 hw
      simp only [p0,beq_self_eq_true,if_true,f1,f2,o5,Option.bind_some]
      cases hr:r.2 with
      | false=>simp only [Bool.not_false,if_true,Option.bind_some,hj];exact⟨_,rfl,rfl,hs.put (hs.1.clock h1 (by rw [h2];exact Int.le_refl _)) hcs (by exact cG hb hjo) _,Nat.le_succ _⟩
      | true=>simp only [Bool.not_true,Bool.false_eq_true,if_false,Option.bind_some,hj];exact⟨_,rfl,rfl,hs.put (hs.1.clock h1 (by rw [h2];exact Int.le_refl _)) hcs (by exact cG hb hjo) _,Nat.le_succ _⟩
    · simp only [eX p0,Bool.false_eq_true,if_false,Option.bind_some,hj]
      exact⟨_,rfl,rfl,hs.put hs.1 hcs (by exact cG hb hjo) _,Nat.le_succ _⟩
end
theorem aGG{l:List dN}(h:0 < l.length)(hl:l.length≤1000):sM l 0 1=some (l.drop 1):=by
  have e:=del_eq (l:=l) (k:=0) h
  unfold sM
  rw [aO (by omega),if_neg (by simp),aO (by omega),aO (by omega),aO (by omega),aO]
  · simp only [Int.toNat_zero,Int.toNat_one] at e ⊢
    rw [Nat.zero_add] at e
    rw [Nat.zero_add,e,List.eraseIdx_zero,List.drop_one]
  · rw [eE (by omega)]
    simp only [List.drop_zero,List.length_take,eE (show(0:Int).toNat≤l.length by simp)]
    omega
theorem XO{o:dN}(ho:kW o)(ser pc:Int)(sub:Sub)(code:Int):XN ⟨true,o,ser,pc,sub,0,0,0,code⟩:=(y5 rfl).2 ⟨ho,.inl rfl,.inl rfl⟩
theorem aMS{s:aE}(hs:CD s)(hl:s.Log.length≤1000000000){w:Int}(hw:0≤w∧w≤2){j:bJ}(hj:idx s.aM w=some j):∃x,tW s w=some x∧sN s w=some x∧CD x∧x.Log.length≤s.Log.length+1:=by
  have h3:=hs.2.2.1
  have ht:=hs.2.2.2.1
  have hser:=hs.2.2.2.2.1
  have hset:∀x,idx (s.aM.set w.toNat x) w=some x:=EO hw.1 (by omega)
  have hn:∀(e:Ev) {α:Type} (k:Option α),need (s.Log.length + [e].length≤1073741824) k=k:=fun e _ k=>aO (by simp;omega) k
  have hq:idx s.bL w=some (s.bL[w.toNat]'(by have:=ht.1;omega)):=eO hw.1 (by have:=ht.1;omega)
  have hqk:QOk (s.bL[w.toNat]'(by have:=ht.1;omega)):=ht.2 _ (List.getElem_mem _)
  generalize (s.bL[w.toNat]'(by have:=ht.1;omega))=q at hq hqk
  obtain⟨pn,hpn,_⟩:=R2 hs.1.1.2.1 hw
  have ew:aZ (s.aN+1)=s.aN+1:=aK (by omega) (by omega)
  unfold tW sN
  rw [hq]
  simp only [Option.bind_some,sB,mI]
  by_cases l0:q.gO.length=0
  · simp only [show((q.gO.length:Int) == 0)=true by rw [l0];rfl,if_true]
    exact⟨_,rfl,rfl,hs,Nat.le_succ _⟩
  · simp only [show((q.gO.length:Int) == 0)=false from eX (by omega),Bool.false_eq_true,if_false]
    by_cases s0:s.aN=1000000
    · simp only [s0,beq_self_eq_true,if_true]
      exact⟨_,rfl,rfl,hs,Nat.le_succ _⟩
    · simp only [eX s0,Bool.false_eq_true,if_false,hq,Option.bind_some]
      have hx:idx q.gO 0=some (q.gO[0]'(by omega)):=by have:=aT (l:=q.gO) (k:=0) (by omega);simpa using this
      have ho:kW (q.gO[0]'(by omega)):=hqk.2 _ (List.getElem_mem _)
      have h12:=hqk.1
      have hdel:=aGG (l:=q.gO) (by omega) (by omega)
      generalize (q.gO[0]'(by omega))=o at hx ho
      have etk:(q.gO.take q.gO.length).drop (1:Int).toNat=q.gO.drop 1:=by rw [List.take_length];rfl
      have hT:EZ (s.bL.set w.toNat ⟨q.gO.drop 1⟩):=⟨by simpa using ht.1,fun z hz=>(List.mem_or_eq_of_mem_set hz).elim (ht.2 z) (fun e=>by
        subst e
        exact⟨by simp only [List.length_drop];omega,fun a ha=>hqk.2 a (List.mem_of_mem_drop ha)⟩)⟩
      have fin:∀(jb:bJ) (l:List Ev),XN jb→CD ⟨s.aA,s.Cells,s.aM.set w.toNat jb,s.bL.set w.toNat ⟨q.gO.drop 1⟩,l,s.aN+1⟩:=fun jb l hjb=>
        ⟨hs.1,hs.2.1,by simpa using h3,hT,by simp only;omega,hs.2.2.2.2.2.1,fun z hz=>(List.mem_or_eq_of_mem_set hz).elim (hs.2.2.2.2.2.2 z) (fun e=>e ▸ hjb)⟩
      simp only [hx,hdel,Option.bind_some,fF,hO,ew]
      rw [aO (by omega)]
      by_cases k1:o.Kind=1
      · simp only [k1,beq_self_eq_true,if_true,dV,dE,hj,cH,cW,Option.bind_some,hset,hn,etk,ew]
        exact⟨_,rfl,rfl,fin _ _ (XO ho _ _ _ _),by simp⟩
      simp only [eX k1,Bool.false_eq_true,if_false]
      have pin:∀z,z=true→∃x,gH s w q o z=some x∧g8 s w o (q.gO.drop 1) z=some x∧CD x∧x.Log.length≤s.Log.length+1:=fun z hz=>by
        subst hz
        simp only [gH,g8,if_true,fF,hO,hpn,Option.bind_some,bD]
        cases pn.On with
        | true =>
          simp only [if_true,dV,dE,hj,cH,cW,Option.bind_some,hset,hn,etk,ew]
          exact⟨_,rfl,rfl,fin _ _ (XO ho _ _ _ _),by simp⟩
        | false =>
          simp only [Bool.false_eq_true,if_false,dV,dE,hj,cH,cW,Option.bind_some,hset,hn,etk,ew]
          exact⟨_,rfl,rfl,fin _ _ (XO ho _ _ _ _),by simp⟩
      by_cases k2:o.Kind=2
      · simp only [k2,beq_self_eq_true,if_true];exact pin true rfl
      simp only [eX k2,Bool.false_eq_true,if_false]
      by_cases k5:o.Kind=5
      · simp only [k5,beq_self_eq_true];exact pin true rfl
      simp only [eX k5,gH,g8,Bool.false_eq_true,if_false,fF,hO,Option.bind_some]
      by_cases k4:o.Kind=4
      · simp only [k4,beq_self_eq_true,if_true,dV,dE,hj,cH,cW,Option.bind_some,hset,hn,etk,ew]
        exact⟨_,rfl,rfl,fin _ _ (XO ho _ _ _ _),by simp⟩
      · simp only [eX k4,Bool.false_eq_true,if_false,dV,dE,hj,cH,cW,Option.bind_some,hset,hn,etk,ew]
        exact⟨_,rfl,rfl,fin _ _ (XO ho _ _ _ _),by simp⟩
theorem aB9{s:aE}(hs:CD s)(hl:s.Log.length≤1000000000){w:Int}(hw:0≤w∧w≤2):∃x,IZ s w=some x∧o7 s w=some x∧CD x∧x.Log.length≤s.Log.length+1:=by
  have h3:=hs.2.2.1
  have hset:∀x,idx (s.aM.set w.toNat x) w=some x:=EO hw.1 (by omega)
  have hn:∀(e:Ev) {α:Type} (k:Option α),need (s.Log.length + [e].length≤1073741824) k=k:=fun e _ k=>aO (by simp;omega) k
  have hj:idx s.aM w=some (s.aM[w.toNat]'(by omega)):=eO hw.1 (by omega)
  have hjk:XN (s.aM[w.toNat]'(by omega)):=hs.2.2.2.2.2.2 _ (List.getElem_mem _)
  generalize (s.aM[w.toNat]'(by omega))=j at hj hjk
  unfold IZ o7
  rw [hj]
  simp only [Option.bind_some]
  cases hb:j.kU with
  | false =>
    obtain⟨x,e1,e2,e3,e4⟩:=aMS hs hl hw hj
    simp only [Bool.not_false,if_true,e1,e2,Option.bind_some]
    exact⟨_,rfl,rfl,e3,e4⟩
  | true =>
    have hjo:=(y5 hb).1 hjk
    simp only [Bool.not_true,Bool.false_eq_true,if_false]
    by_cases p9:j.Pc=9
    · simp only [p9,beq_self_eq_true,if_true,hn,cH,cW,hj,Option.bind_some]
      exact⟨_,rfl,rfl,hs.put hs.1 ⟨hs.2.1,hs.2.2.2.2.2.1⟩ ((MT rfl).2 rfl) _,by simp⟩
    simp only [eX p9,Bool.false_eq_true,if_false]
    have close:∀{A B:Option aE} {x:aE},A=some x→B=some x→CD x→x.Log.length≤s.Log.length+1→∃x,A=some x∧(B.bind fun z=>some z)=some x∧CD x∧x.Log.length≤s.Log.length+1:=fun h1 h2 h3 h4=>⟨_,h1,by rw [h2];rfl,h3,h4⟩
    by_cases k1:j.Op.Kind=1
    · obtain⟨x,e1,e2,e3,e4⟩:=aRS hs hl hw hj hb hjo k1
      simp only [k1,beq_self_eq_true,if_true];exact close e1 e2 e3 e4
    simp only [eX k1,Bool.false_eq_true,if_false]
    by_cases k2:j.Op.Kind=2
    · obtain⟨x,e1,e2,e3,e4⟩:=get_eq hs hl hw hj hb hjo k2
      simp only [k2,beq_self_eq_true,if_true];exact close e1 e2 e3 e4
    simp only [eX k2,Bool.false_eq_true,if_false]
    by_cases k3:j.Op.Kind=3
    · obtain⟨x,e1,e2,e3,e4⟩:=aRT hs hl hw hj hb hjo k3
      simp only [k3,beq_self_eq_true,if_true];exact close e1 e2 e3 e4
    simp only [eX k3,Bool.false_eq_true,if_false]
    by_cases k7:j.Op.Kind=7
    · obtain⟨x,e1,e2,e3,e4⟩:=aO9 hs hl hw hj hb hjo k7
      simp only [k7,beq_self_eq_true,if_true];exact close e1 e2 e3 e4
    simp only [eX k7,Bool.false_eq_true,if_false]
    have hkr:=hjo.1.1
    obtain⟨x,e1,e2,e3,e4⟩:=aMR hs hl hw hj hb hjo (by omega)
    exact close e1 e2 e3 e4
end Go.Gv
end
noncomputable section
set_option linter.unusedVariables false
set_option linter.unusedSimpArgs false
set_option linter.unusedSectionVars false
namespace Go.Gv
def CE(s:Sub)(code:Int):Sub:={s with Code:=code,dB:=true}
def EP(n:Int):Int:=if 1≤n∧n≤8 then 0 else if 1≤n∧n≤16 then 1 else if 1≤n∧n≤40 then 2 else -1
theorem aGH(n:Int):-1≤EP n∧EP n≤2:=by unfold EP;split <;> (try split) <;> (try split) <;> omega
theorem aI6(n:Int):xB n=some (EP n):=by
  have s1:∀k,0≤k∧k≤2→eA n k=some (if 1≤n∧n≤e9 k then .stop (Out.ret k) else .next (k+1)):=fun k hk=>by
    simp only [eA]
    rw [if_pos (by simp;omega),nD,Option.bind_some,bQ,Option.bind_some,aK (by omega) (by omega)]
    by_cases q:1≤n∧n≤e9 k
    · rw [decide_eq_true q,if_pos rfl,if_pos q]
    · rw [decide_eq_false q,if_neg (by simp),if_neg q]
  have z0:e9 0=8:=rfl
  have z1:e9 1=16:=rfl
  have z2:e9 2=40:=rfl
  unfold xB EP
  by_cases q0:1≤n∧n≤8
  · rw [bT (by rw [s1 0 (by omega),if_pos (by omega)]),if_pos q0];rfl
  · rw [bM (by rw [s1 0 (by omega),if_neg (by omega)]),if_neg q0,show(0:Int)+1=1 from rfl]
    by_cases q1:1≤n∧n≤16
    · rw [bT (by rw [s1 1 (by omega),if_pos (by omega)]),if_pos q1];rfl
    · rw [bM (by rw [s1 1 (by omega),if_neg (by omega)]),if_neg q1,show(1:Int)+1=2 from rfl]
      by_cases q2:1≤n∧n≤40
      · rw [bT (by rw [s1 2 (by omega),if_pos (by omega)]),if_pos q2];rfl
      · rw [bM (by rw [s1 2 (by omega),if_neg (by omega)]),if_neg q2,show(2:Int)+1=3 from rfl,bT (body:=eA n) (r:=Out.brk ()) (by simp [eA])];rfl
def ZI(l:List Int):List Int×Int:=(l.dropLast,l.getLastD (-1))
theorem U8{s:aH}(h:s.aP.length≤1048576):nU s=some (⟨(ZI s.aP).1⟩,(ZI s.aP).2):=by
  unfold nU F8 ZI
  obtain⟨l⟩:=s
  rcases List.eq_nil_or_concat l with rfl | ⟨L,b,rfl⟩
  · rfl
  · simp only [List.concat_eq_append] at h ⊢
    have hl:(L ++ [b]).length=L.length+1:=by simp
    rw [hl,aK (by omega) (by omega),show((L.length+1:Nat):Int) - 1=(L.length:Int) by omega,if_neg (by simp;omega),aO (by omega),aT (by rw [hl];omega)]
    simp
def QU(m:Mem)(w c:Int):Mem×Int:=(⟨m.aC,⟨m.aB.Global,m.aB.aX.set (w * 3+c).toNat ⟨(ZI (cL m.aB.aX (w * 3+c).toNat)).1⟩⟩⟩,(ZI (cL m.aB.aX (w * 3+c).toNat)).2)
def IF(m:Mem)(c:Int):Mem×Int:=(⟨m.aC,⟨m.aB.Global.set c.toNat ⟨(ZI (cL m.aB.Global c.toNat)).1⟩,m.aB.aX⟩⟩,(ZI (cL m.aB.Global c.toNat)).2)
def R4(h:aC):Nat:=h.Class.findIdx (fun x=>decide (x = -1))
def O7(m:Mem)(c:Int):Mem×Int:=if R4 m.aC=6 then (m,-1) else
  (⟨⟨gB m.aC.Bytes (R4 m.aC) c (bY c).toNat,m.aC.Class.set (R4 m.aC) c⟩,⟨m.aB.Global.set c.toNat ⟨cL m.aB.Global c.toNat++(gS (R4 m.aC) (bY c).toNat).drop 1⟩,m.aB.aX⟩⟩,(R4 m.aC:Int) * 4)
theorem aMT{h:aC}(hs:d7 h):R4 h≤6:=by rw [←hs.2.1];exact List.findIdx_le_length
theorem aRU{h:aC}(hs:d7 h)(hq:R4 h≠6):R4 h < 6∧bO h (R4 h) = -1:=by
  have h6:=hs.2.1
  have hlt:R4 h < 6:=by have:=aMT hs;omega
  refine⟨hlt,?_⟩
  rw [←NG hs hlt]
  have:=List.findIdx_getElem (xs:=h.Class) (p:=fun x=>decide (x = -1)) (w:=by show R4 h < _;omega)
  exact of_decide_eq_true this
theorem aPA{h:aC}(hs:d7 h):∀j (hj:j < 6),j < R4 h→bO h j≠-1:=fun j hj hlt=>by
  have:=List.not_of_lt_findIdx hlt
  rw [←NG hs hj]
  simpa using this
theorem aRV{h:aC}(hh:Q6 h){c:Int}(hc:0≤c∧c≤2):nT h c=some (if R4 h=6 then (h,[]) else (⟨gB h.Bytes (R4 h) c (bY c).toNat,h.Class.set (R4 h) c⟩,gS (R4 h) (bY c).toNat)):=by
  have hs:=hh.1
  have h6:=hs.2.1
  have h384:=hs.1
  have hle:=aMT hs
  have s1:∀k (hk:k < R4 h),dW h c (k:Int)=some (.next ((k+1:Nat):Int)):=fun k hk=>by
    have n:(h.Class[k] != -1)=true:=by
      have:=aPA hs k (by omega) hk
      rw [←NG hs (by omega)] at this
      simpa using this
    simp only [dW,B5]
    rw [if_pos (by simp;omega),aT (by omega),Option.bind_some,n,if_pos rfl,aK (by omega) (by omega)];rfl
  unfold nT
  by_cases hq:R4 h=6
  · have a1:loop (dW h c) 0=some (Out.brk ()):=f9 (R4 h) (fun k=>(k:Int)) _ s1 (by simp only [dW];rw [if_neg (by simp;omega)])
    rw [a1,if_pos hq];rfl
  · obtain⟨hlt,he⟩:=aRU hs hq
    rw [←NG hs hlt] at he
    generalize hqq:R4 h=q at *
    have a1:loop (dW h c) 0=some (Out.ret (⟨gB h.Bytes q c (bY c).toNat,h.Class.set q c⟩,gS q (bY c).toNat)):=f9 q (fun k=>(k:Int)) _ s1 (by
      have e0:aZ ((q:Int) * 64)=((q * 64:Nat):Int):=by rw [aK (by omega) (by omega)];omega
      have e1:aZ (((q * 64:Nat):Int)+1)=((q * 64+1:Nat):Int):=by rw [aK (by omega) (by omega)];omega
      have e2:aZ (((q * 64:Nat):Int)+2)=((q * 64+2:Nat):Int):=by rw [aK (by omega) (by omega)];omega
      have n:(h.Class[q] != -1)=false:=by simpa using he
      simp only [dW,e0,e1,e2,Int.toNat_natCast]
      rw [if_pos (by simp;omega),aT (by omega),Option.bind_some,n,if_neg (by simp),aT (by omega),Option.bind_some,aT (by simp;omega),Option.bind_some,fK,Option.bind_some,aT (by simp;omega),Option.bind_some]
      have:=XF h384 hlt hc
      simp only [gB] at this
      rw [this];rfl)
    rw [a1,if_neg hq];rfl
theorem aI7{m:Mem}(hm:oM m){c:Int}(hc:0≤c∧c≤2):xC m c=some (O7 m c):=by
  have h3:=hm.1.2.1
  have hpp:0 < bY c:=iX.2 hc
  have hp4:=kY c
  obtain⟨_,_,_,_,_,_,_,_,hsG,_⟩:=oM.facts hm
  unfold xC O7
  rw [aRV hm.1.1 hc]
  by_cases hq:R4 m.aC=6
  · simp only [if_pos hq,Option.bind_some];rfl
  · have hk:c.toNat < m.aB.Global.length:=by omega
    have hg0:=hsG _ (List.getElem_mem hk)
    have hx:idx m.aB.Global c=some m.aB.Global[c.toNat]:=eO hc.1 (by omega)
    have hz:idx (gS (R4 m.aC) (bY c).toNat) 0=some ((R4 m.aC:Int) * 4):=by
      have:=aT (l:=gS (R4 m.aC) (bY c).toNat) (k:=0) (by rw [G5];omega)
      rw [show((0:Nat):Int)=0 from rfl] at this
      rw [this];simp [gS]
    have hn:(((bY c).toNat:Int) == 0)=false:=by simpa using (by omega:¬((bY c).toNat:Int)=0)
    have ht:(gS (R4 m.aC) (bY c).toNat).take (bY c).toNat=gS (R4 m.aC) (bY c).toNat:=List.take_of_length_le (by rw [G5];omega)
    have hd:((gS (R4 m.aC) (bY c).toNat).drop 1).length≤4:=by rw [List.length_drop,G5];omega
    simp only [if_neg hq,Option.bind_some,G5,hn,Bool.false_eq_true,if_false,hx,hz,B6,ht]
    rw [aO (by omega),aO (by simp only [List.length_drop,G5,Int.toNat_one];omega),cV hk];rfl
def aRW(m:Mem)(s:Int):Int:=if 1≤kO m.aC s∧kO m.aC s≤6 then kO m.aC s * 32+s else 0
theorem aPB{m:Mem}(hs:d7 m.aC){s:Int}(hc:0≤aV m.aC s):tX m s=some (aRW m s):=by
  unfold tX F9 sD aRW
  rw [mB hs hc,Option.bind_some,bQ,bQ]
  have h1:=(vV hc).1
  simp only [decide_eq_true h1,Option.bind_some,Bool.not_true,Bool.false_eq_true,if_false]
  by_cases q:1≤kO m.aC s∧kO m.aC s≤6
  · simp only [decide_eq_true q,Bool.not_true,Bool.false_eq_true,if_false,if_pos q]
    rw [aK (x:=kO m.aC s * 32) (by omega) (by omega),aK (by omega) (by omega)];rfl
  · simp only [decide_eq_false q,Bool.not_false,if_true,if_neg q];rfl
def MU(b:aA)(s:Sub)(p:Mem×Int):aA×Sub:=
  if 0≤p.2 then ({b with Mem:=p.1},CE {s with Out:=aRW p.1 p.2} 0) else if s.Pc=3 then ({b with Mem:=p.1},CE s 3) else ({b with Mem:=p.1},{s with Pc:=s.Pc+1})
def XP(b:aA)(w:Int)(s:Sub):aA×Sub:=
  if EP s.A < 0 then (b,CE s 2)
  else if s.Pc=0 then MU b s (QU b.Mem w (EP s.A))
  else if s.Pc=1∨s.Pc=3 then MU b s (IF b.Mem (EP s.A))
  else if s.Pc=2 then MU b s (O7 b.Mem (EP s.A))
  else (b,CE s 1)
theorem aI8{b:aA}(hm:oM b.Mem){w:Int}(hw:0≤w∧w≤2)(s:Sub):tY b w s=some (XP b w s):=by
  obtain⟨hcnt,h3,h9,h1,h2,hsm,hcp,hlo,hsG,hsO⟩:=oM.facts hm
  have hs:=hm.1.1.1
  have hr:=aGH s.A
  unfold tY XP
  rw [aI6]
  simp only [Option.bind_some]
  by_cases c0:EP s.A < 0
  · simp only [decide_eq_true c0,if_true,bC,if_pos c0];rfl
  generalize EP s.A=c at *
  have hc:0≤c∧c≤2:=by omega
  simp only [decide_eq_false c0,Bool.false_eq_true,if_false,if_neg c0]
  have fin:∀(p:Mem×Int),-1≤p.2→(0≤p.2→d7 p.1.aC∧0≤aV p.1.aC p.2)→s.Pc≤3∧0≤s.Pc→gI s p.2 ⟨p.1,b.aD,b.aJ,b.dI⟩=some (MU b s p):=by
    intro p hp hx hpc
    unfold gI MU
    simp only [sE,IW,bC]
    by_cases x0:0≤p.2
    · rw [decide_eq_false (show ¬p.2 < 0 by omega),decide_eq_true x0]
      simp only [Bool.false_eq_true,if_false,if_true,if_pos x0,aPB (hx x0).1 (hx x0).2,Option.bind_some];rfl
    · rw [decide_eq_true (show p.2 < 0 by omega),decide_eq_false x0]
      by_cases p3:s.Pc=3
      · have p3':(s.Pc == 3)=true:=by simpa using p3
        simp only [p3',if_true,if_neg x0,if_pos p3,Option.bind_some];rfl
      · have p3':(s.Pc == 3)=false:=by simpa using p3
        have e:aZ (s.Pc+1)=s.Pc+1:=aK (by omega) (by omega)
        simp only [p3',if_true,Bool.false_eq_true,if_false,if_neg x0,if_neg p3,Option.bind_some,e]
  have popL:∀l:List Int,-1≤(ZI l).2∨(ZI l).2∈l:=fun l=>by
    unfold ZI
    rcases List.eq_nil_or_concat l with rfl | ⟨L,b,rfl⟩
    · left;simp
    · right;simp
  by_cases p0:s.Pc=0
  · have hk:(w * 3+c).toNat < b.Mem.aB.aX.length:=by omega
    have hx:idx b.Mem.aB.aX (w * 3+c)=some b.Mem.aB.aX[(w * 3+c).toNat]:=eO (by omega) (by omega)
    obtain⟨l,t,x,e1,e2,e3,g1,g2,g3⟩:=XJ hm hw hc
    have hl:=hsO _ (List.getElem_mem hk)
    rw [hx] at e1;cases e1
    rw [U8 (by omega)] at e2
    have ep:QU b.Mem w c=(⟨b.Mem.aC,⟨b.Mem.aB.Global,b.Mem.aB.aX.set (w * 3+c).toNat t⟩⟩,x):=by
      unfold QU
      rw [←cV hk]
      injection e2 with e2;injection e2 with e4 e5
      rw [←e4,←e5]
    have hx0:-1≤x:=by
      injection e2 with e2;injection e2 with e4 e5
      rcases popL b.Mem.aB.aX[(w * 3+c).toNat].aP with h | h
      · rw [←e5];exact h
      · rw [←e5];have:=hm.1.2.2.2.2.1 _ (List.mem_append_right _ (List.mem_flatMap.2 ⟨_,List.getElem_mem hk,h⟩));omega
    have p0':(s.Pc == 0)=true:=by simpa using p0
    have:=fin (QU b.Mem w c) (by rw [ep];exact hx0) (by rw [ep];exact fun h=>⟨hs,g2 h⟩) (by omega)
    rw [ep] at this
    simp only [p0',if_true,if_pos p0,(EN hw hc).1,Option.bind_some,hx]
    rw [U8 (show b.Mem.aB.aX[(w * 3+c).toNat].aP.length≤1048576 by omega),e2,Option.bind_some,ep]
    exact this
  · have p0':(s.Pc == 0)=false:=by simpa using p0
    simp only [p0',Bool.false_eq_true,if_false,sG,if_neg p0]
    have hk:c.toNat < b.Mem.aB.Global.length:=by omega
    have hx:idx b.Mem.aB.Global c=some b.Mem.aB.Global[c.toNat]:=eO (by omega) (by omega)
    obtain⟨l,t,x,e1,e2,e3,g1,g2,g3⟩:=OE hm hc
    have hl:=hsG _ (List.getElem_mem hk)
    rw [hx] at e1;cases e1
    rw [U8 (by omega)] at e2
    have ep:IF b.Mem c=(⟨b.Mem.aC,⟨b.Mem.aB.Global.set c.toNat t,b.Mem.aB.aX⟩⟩,x):=by
      unfold IF
      rw [←cV hk]
      injection e2 with e2;injection e2 with e4 e5
      rw [←e4,←e5]
    have hx0:-1≤x:=by
      injection e2 with e2;injection e2 with e4 e5
      rcases popL b.Mem.aB.Global[c.toNat].aP with h | h
      · rw [←e5];exact h
      · rw [←e5];have:=hm.1.2.2.2.2.1 _ (List.mem_append_left _ (List.mem_flatMap.2 ⟨_,List.getElem_mem hk,h⟩));omega
    have tg:0≤s.Pc∧s.Pc≤3→(idx b.Mem.aB.Global c).bind (fun x13=>(nU x13).bind fun x14=>gI s x14.2 ({b with Mem:=(⟨b.Mem.aC,(⟨b.Mem.aB.Global.set c.toNat x14.1,b.Mem.aB.aX⟩:aB)⟩:Mem)}:aA))=some (MU b s (IF b.Mem c)):=fun hpc=>by
      have:=fin (IF b.Mem c) (by rw [ep];exact hx0) (by rw [ep];exact fun h=>⟨hs,g2 h⟩) (by omega)
      rw [hx,Option.bind_some,U8 (by omega),e2,Option.bind_some,←this,ep]
    by_cases p1:s.Pc=1
    · have p1':(s.Pc == 1)=true:=by simpa using p1
      simp only [p1',if_true]
      rw [tg (by omega),if_pos (.inl p1)]
    · have p1':(s.Pc == 1)=false:=by simpa using p1
      simp only [p1',Bool.false_eq_true,if_false]
      by_cases p3:s.Pc=3
      · have p3':(s.Pc == 3)=true:=by simpa using p3
        simp only [p3',if_true]
        rw [tg (by omega),if_pos (.inr p3)]
      · have p3':(s.Pc == 3)=false:=by simpa using p3
        have n13:¬(s.Pc=1∨s.Pc=3):=by omega
        simp only [p3',Bool.false_eq_true,if_false,if_neg n13]
        by_cases p2:s.Pc=2
        · obtain⟨m',y,f1,f2,k1,k2,k3⟩:=aD7 hm hc
          have hg:=aI7 hm hc
          rw [f1] at hg
          have hg':O7 b.Mem c=(m',y):=by injection hg with hg;exact hg.symm
          have hy:-1≤(O7 b.Mem c).2:=by unfold O7;split <;> simp only <;> omega
          have p2':(s.Pc == 2)=true:=by simpa using p2
          simp only [p2',if_true,if_pos p2,f1,Option.bind_some]
          have:=fin (O7 b.Mem c) hy (by rw [hg'];exact k2) (by omega)
          rw [hg'] at this ⊢
          exact this
        · have p2':(s.Pc == 2)=false:=by simpa using p2
          simp only [p2',Bool.false_eq_true,if_false,bC,if_neg p2,Option.bind_some];rfl
end Go.Gv
end
