import Derived.Test.YtbdmodalljibjaaGreatXRF
set_option linter.unusedVariables false
set_option linter.unusedSimpArgs false
set_option linter.unusedSectionVars false
set_option linter.constructorNameAsVariable false
set_option linter.unnecessarySimpa false
noncomputable section
namespace Go.Gv
theorem QK{l:List Int}(hl:l.length≤maxLen):EP l=some (decide (∀x∈l,x=0)):=by
  unfold EP
  have e:(fun y0=>DL y0)=fun y:Int=>some (!decide (y=0)):=by
    funext y;simp [DL,bne];rfl
  rw [e,CB hl,EB]
  simp
noncomputable section
variable {h:aE} (hs:fN h) {p:Nat} (hp:p < 6)
include hs hp
theorem aTA:(h.Bytes.take ((p+1) * 64)).drop (p * 64)=dW h p:=by
  unfold dW
  rw [List.drop_take];congr 1;omega
theorem aSB{a:Nat}(ha:a+4≤64):ld (dW h p) a 4=ld h.Bytes (p * 64+a) 4:=by
  unfold ld dW
  rw [List.drop_take,List.take_take,List.drop_drop]
  congr 2;omega
theorem aJZ{k:Nat}(hk:k < 64):idx (dW h p) (k:Int)=some ((dW h p).getD k 0):=by
  have:=IJ hs hp
  rw [aX (by omega),List.getD_eq_getElem?_getD,List.getElem?_eq_getElem (by omega)];rfl
theorem QL:JF h (p:Int)=some (decide (lZ h p)):=by
  have hb:=hs.1
  have hl:=IJ hs hp
  have hm:(dW h p).length≤maxLen:=by rw [hl];simp [maxLen]
  have e0:bC ((p:Int) * 64)=((p * 64:Nat):Int):=by rw [aS (by omega) (by omega)];omega
  have e1:bC (bC ((p:Int)+1) * 64)=(((p+1) * 64:Nat):Int):=by rw [aS (x:=(p:Int)+1) (by omega) (by omega),aS (by omega) (by omega)];omega
  have i0:=aJZ hs hp (show 0 < 64 by omega)
  have i1:=aJZ hs hp (show 1 < 64 by omega)
  have i2:=aJZ hs hp (show 2 < 64 by omega)
  rw [show((0:Nat):Int)=0 from rfl] at i0
  rw [show((1:Nat):Int)=1 from rfl] at i1
  rw [show((2:Nat):Int)=2 from rfl] at i2
  unfold JF
  rw [ZR hs hp]
  simp only [aJ,e0,e1,Int.toNat_natCast,aTA hs hp]
  rw [aU (by omega)]
  by_cases hc:b7 h p < 0
  · have hP:lZ h p↔∀x∈dW h p,x=0:=by unfold lZ;rw [if_pos hc]
    simp only [hc,decide_true,if_true,QK hm,aJ,hP]
  · have hP:lZ h p↔((dW h p).getD 0 0=171∧(dW h p).getD 1 0=b7 h p∧(dW h p).getD 2 0=cS (b7 h p))∧(∀x∈((dW h p).drop 3).take 5,x=0)∧∀i,i < (cS (b7 h p)).toNat→1≤ld h.Bytes (p * 64+8+i * (aW (b7 h p)).toNat) 4∧ld h.Bytes (p * 64+8+i * (aW (b7 h p)).toNat) 4≤7:=by unfold lZ;rw [if_neg hc]
    simp only [hc,decide_false,bB,if_false,i0,i1,i2,aJ,yE]
    by_cases a0:(dW h p).getD 0 0=171
    · by_cases a1:(dW h p).getD 1 0=b7 h p
      · by_cases a2:(dW h p).getD 2 0=cS (b7 h p)
        · have n0:((dW h p).getD 0 0 != 171)=false:=by simp only [bne_eq_false_iff_eq];exact a0
          have n1:((dW h p).getD 1 0 != b7 h p)=false:=by simp only [bne_eq_false_iff_eq];exact a1
          have n2:((dW h p).getD 2 0 != cS (b7 h p))=false:=by simp only [bne_eq_false_iff_eq];exact a2
          have t8:((dW h p).take (8:Int).toNat).drop (3:Int).toNat=((dW h p).drop 3).take 5:=by
            rw [show(8:Int).toNat=8 from rfl,show(3:Int).toNat=3 from rfl,List.drop_take]
          simp only [n0,n1,n2,bB,if_false,iI,t8]
          rw [aU (by omega),QK (by simp [maxLen];omega)]
          by_cases h4:∀x∈((dW h p).drop 3).take 5,x=0
          · simp only [bI h4,aJ,eS,bB,if_false,yE]
            have key2:loop (oV h (p:Int) (b7 h p) (cS (b7 h p))) 0=some (if ∀i,i < (cS (b7 h p)).toNat→1≤ld h.Bytes (p * 64+8+i * (aW (b7 h p)).toNat) 4∧ld h.Bytes (p * 64+8+i * (aW (b7 h p)).toNat) 4≤7 then Out.brk () else Out.ret false):=by
              have hle:=mA (b7 h p)
              have hst:∀k:Nat,k < (cS (b7 h p)).toNat→oV h (p:Int) (b7 h p) (cS (b7 h p)) (k:Int)=if 1≤ld h.Bytes (p * 64+8+k * (aW (b7 h p)).toNat) 4∧ld h.Bytes (p * 64+8+k * (aW (b7 h p)).toNat) 4≤7 then some (.next ((k+1:Nat):Int)) else some (.stop (Out.ret false)):=by
                intro k hk
                have hz:=vH hs hp rfl hk
                have e5:bC (8+bC ((k:Int) * aW (b7 h p)))=((8+k * (aW (b7 h p)).toNat:Nat):Int):=by
                  rw [aS (x:=(k:Int) * aW (b7 h p)) (by omega) (by omega),aS (by omega) (by omega)];omega
                have l1:=yF (aML hs hp) (a:=8+k * (aW (b7 h p)).toNat) (w:=4) (by omega) (by omega) (by omega)
                rw [show((4:Nat):Int)=4 from rfl,aSB hs hp (by omega)] at l1
                simp only [oV,MB,aJ,e0,e1,Int.toNat_natCast,aTA hs hp,e5]
                rw [if_pos (by simp;omega),l1,Nat.add_assoc,aS (x:=(k:Int)+1) (by omega) (by omega)]
                simp only [aJ,d5]
                by_cases q:1≤ld h.Bytes (p * 64+(8+k * (aW (b7 h p)).toNat)) 4∧ld h.Bytes (p * 64+(8+k * (aW (b7 h p)).toNat)) 4≤7
                · rw [if_pos q,bI q];rfl
                · rw [if_neg q,bR q];rfl
              refine t7 (f:=oV h (p:Int) (b7 h p) (cS (b7 h p))) (cS (b7 h p)).toNat (fun k=>(k:Int)) (fun i=>1≤ld h.Bytes (p * 64+8+i * (aW (b7 h p)).toNat) 4∧ld h.Bytes (p * 64+8+i * (aW (b7 h p)).toNat) 4≤7) _ _ (fun k hk hx=>?_) (fun k hk hx=>?_) ?_
              · rw [hst k hk,if_pos hx]
              · rw [hst k hk,if_neg hx]
              · simp only [oV]
                rw [if_neg (by simp;omega)]
            rw [key2]
            by_cases h5:∀i,i < (cS (b7 h p)).toNat→1≤ld h.Bytes (p * 64+8+i * (aW (b7 h p)).toNat) 4∧ld h.Bytes (p * 64+8+i * (aW (b7 h p)).toNat) 4≤7
            · rw [if_pos h5,bI (hP.2 ⟨⟨a0,a1,a2⟩,h4,h5⟩)];rfl
            · rw [if_neg h5,bR (fun q=>h5 (hP.1 q).2.2)];rfl
          · simp only [bR h4,aJ,nE,if_true]
            rw [bR (fun q=>h4 (hP.1 q).2.1)]
        · have n0:((dW h p).getD 0 0 != 171)=false:=by simp only [bne_eq_false_iff_eq];exact a0
          have n1:((dW h p).getD 1 0 != b7 h p)=false:=by simp only [bne_eq_false_iff_eq];exact a1
          have n2:((dW h p).getD 2 0 != cS (b7 h p))=true:=by simp only [bne_iff_ne];exact a2
          simp only [n0,n1,n2,bB,if_false,iI,if_true]
          rw [bR (fun q=>a2 (hP.1 q).1.2.2)]
      · have n0:((dW h p).getD 0 0 != 171)=false:=by simp only [bne_eq_false_iff_eq];exact a0
        have n1:((dW h p).getD 1 0 != b7 h p)=true:=by simp only [bne_iff_ne];exact a1
        simp only [n0,n1,bB,if_false,iI,if_true]
        rw [bR (fun q=>a1 (hP.1 q).1.2.1)]
    · have n0:((dW h p).getD 0 0 != 171)=true:=by simp only [bne_iff_ne];exact a0
      simp only [n0,bB,if_false,iI,if_true]
      rw [bR (fun q=>a0 (hP.1 q).1.1)]
end
instance (h:aE):Decidable (∀p,p < 6→lZ h p):=Nat.decidableBallLT 6 fun p _=>lZ h p
def UW(h:aE):Prop:=fN h∧∀p,p < 6→lZ h p
instance (h:aE):Decidable (UW h):=by unfold UW;infer_instance
theorem QM{h:aE}(hl:h.Bytes.length≤maxLen):y6 h=some (decide (UW h)):=by
  unfold y6
  rw [ON hl]
  by_cases hs:fN h
  · have key:loop (sO h) 0=some (if ∀p,p < 6→lZ h p then Out.brk () else Out.ret false):=by
      refine t7 (f:=sO h) 6 (fun k=>(k:Int)) (fun p=>lZ h p) _ _ (fun k hk hx=>?_) (fun k hk hx=>?_) ?_
      · simp only [sO]
        rw [if_pos (by simp;omega),QJ hs hk,aS (by omega) (by omega),bI hx];rfl
      · simp only [sO]
        rw [if_pos (by simp;omega),QJ hs hk,bR hx];rfl
      · rfl
    simp only [aJ,bI hs,eS,bB,if_false]
    rw [key]
    by_cases h4:∀p,p < 6→lZ h p
    · rw [if_pos h4,bI (show UW h from ⟨hs,h4⟩)];rfl
    · rw [if_neg h4,bR (fun q:UW h=>h4 q.2)];rfl
  · rw [bR (fun q:UW h=>hs q.1),bR hs];rfl
theorem IK{h:aE}(hl:h.Bytes.length≤maxLen):ER h=some (decide (UW h)):=by
  unfold ER
  rw [CC hl]
  by_cases hs:fN h
  · have key:loop (tG h) 0=some (if ∀p,p < 6→lZ h p then Out.brk () else Out.ret false):=by
      refine t7 (f:=tG h) 6 (fun k=>(k:Int)) (fun p=>lZ h p) _ _ (fun k hk hx=>?_) (fun k hk hx=>?_) ?_
      · simp only [tG]
        rw [if_pos (by simp;omega),QL hs hk,aS (by omega) (by omega),bI hx];rfl
      · simp only [tG]
        rw [if_pos (by simp;omega),QL hs hk,bR hx];rfl
      · rfl
    simp only [aJ,bI hs,eS,bB,if_false]
    rw [key]
    by_cases h4:∀p,p < 6→lZ h p
    · rw [if_pos h4,bI (show UW h from ⟨hs,h4⟩)];rfl
    · rw [if_neg h4,bR (fun q:UW h=>h4 q.2)];rfl
  · rw [bR (fun q:UW h=>hs q.1),bR hs];rfl
def bK(h:aE)(s:Int):Int:=if (0≤s∧s≤23)∧s % 4 < cS (b7 h (s / 4).toNat) then b7 h (s / 4).toNat else -1
theorem CD{h:aE}{s:Int}(hc:0≤bK h s):(0≤s∧s≤23)∧s % 4 < cS (b7 h (s / 4).toNat)∧bK h s=b7 h (s / 4).toNat:=by
  unfold bK at hc ⊢
  split at hc
  · rename_i h1;exact⟨h1.1,h1.2,by rw [if_pos h1]⟩
  · omega
theorem i4{h:aE}(hs:fN h)(s:Int):iH h s=some (bK h s):=by
  unfold iH qN bK
  rw [QH,OM]
  by_cases h1:0≤s∧s≤23
  · obtain⟨k,rfl⟩:=Int.eq_ofNat_of_zero_le h1.1
    have hk:k / 4 < 6:=by omega
    have e1:((k:Int) / 4)=((k / 4:Nat):Int):=by omega
    have hi:=ZR hs hk
    have n1:¬((k / 4:Nat):Int) < 0:=by omega
    simp only [h1,and_self,if_true,aJ,e1,n1,decide_false,bB,if_false,hi,Int.toNat_natCast,true_and]
    by_cases h2:b7 h (k / 4) < 0
    · have h3:cS (b7 h (k / 4))=0:=aGQ (by omega)
      have h4:¬(k:Int) % 4 < 0:=by omega
      simp [h2,h3,h4]
    · by_cases h3:(k:Int) % 4 < cS (b7 h (k / 4))
      · have h4:¬cS (b7 h (k / 4))≤(k:Int) % 4:=by omega
        simp [h2,h3,h4,g9]
      · have h4:cS (b7 h (k / 4))≤(k:Int) % 4:=by omega
        simp [h2,h3,h4,g9]
  · simp [h1]
theorem kR{h:aE}(hs:fN h)(s:Int):m3 h s=some (bK h s):=by
  unfold m3 xN bK
  rw [t9]
  by_cases h1:0≤s∧s≤23
  · obtain⟨k,rfl⟩:=Int.eq_ofNat_of_zero_le h1.1
    have hk:k / 4 < 6:=by omega
    have e1:((k:Int) / 4)=((k / 4:Nat):Int):=by omega
    have hi:=ZR hs hk
    have e2:bC (Int.tdiv (k:Int) 4)=((k / 4:Nat):Int):=by rw [E1 (by omega),aS (by omega) (by omega)];omega
    simp only [h1,and_self,decide_true,eS,bB,if_true,aJ,e1,e2,if_false,hi,Int.toNat_natCast,true_and,wW]
    by_cases h3:(k:Int) % 4 < cS (b7 h (k / 4))
    · have hm:=IH (c:=b7 h (k / 4)) (by omega) h3
      have hg:¬fW (k:Int) (b7 h (k / 4)) < 0:=by
        unfold fW;rw [if_pos ⟨h1,h3⟩];omega
      simp [h3,hg]
    · have hg:fW (k:Int) (b7 h (k / 4)) < 0:=by
        unfold fW;rw [if_neg (fun q=>h3 q.2)];omega
      simp [h3,hg]
  · simp [h1]
def nL(h:aE)(s:Int):Int:=ld h.Bytes (fW s (bK h s)).toNat 4
theorem EC{h:aE}{s:Int}(hc:0≤bK h s):0≤fW s (bK h s)∧fW s (bK h s)+4≤384:=by
  obtain⟨h1,h2,h3⟩:=CD hc
  rw [h3]
  have hm:=IH (c:=b7 h (s / 4).toNat) (by omega) h2
  have hst:0 < aW (b7 h (s / 4).toNat):=by
    have:0≤b7 h (s / 4).toNat∧b7 h (s / 4).toNat≤2:=kX.1 (by omega)
    rcases fK this with e | e | e <;> rw [e] <;> decide
  have:4≤aW (b7 h (s / 4).toNat):=by
    have:0≤b7 h (s / 4).toNat∧b7 h (s / 4).toNat≤2:=kX.1 (by omega)
    rcases fK this with e | e | e <;> rw [e] <;> decide
  unfold fW;rw [if_pos ⟨h1,h2⟩];omega
theorem wX{h:aE}(hs:fN h){s:Int}(hc:0≤bK h s):sP h s=some (nL h s):=by
  have hg:=EC hc
  unfold sP
  rw [i4 hs]
  simp only [aJ,rT]
  have l1:=II hs.2.2.1 (a:=(fW s (bK h s)).toNat) (w:=4) (by omega) (by have:=hs.1;omega) (by have:=hs.1;omega)
  rw [show((4:Nat):Int)=4 from rfl,Int.toNat_of_nonneg hg.1] at l1
  rw [l1];rfl
theorem ED{h:aE}(hs:fN h){s:Int}(hc:0≤bK h s):yR h s=some (nL h s):=by
  have hg:=EC hc
  have hm:h.Bytes.length≤maxLen:=by rw [hs.1];simp [maxLen]
  unfold yR pY
  rw [CC hm,kR hs]
  have l1:=yF hs.2.2.1 (a:=(fW s (bK h s)).toNat) (w:=4) (by omega) (by have:=hs.1;omega) (by have:=hs.1;omega)
  rw [show((4:Nat):Int)=4 from rfl,Int.toNat_of_nonneg hg.1] at l1
  have n1:¬bK h s < 0:=by omega
  simp [hs,n1,wW,l1,nL]
end Go.Gv
end
noncomputable section
namespace Go.Gv
def dB(l:List aH):List Int:=l.flatMap aH.aP
def eB(l:aA):List Int:=dB l.Global++dB l.bJ
def LOk(l:aA):Prop:=l.Global.length=3∧l.bJ.length=9∧(∀s∈l.bJ,s.aP.length≤2)∧(∀x∈eB l,0≤x∧x≤23)∧(eB l).Nodup
instance (l:aA):Decidable (LOk l):=by unfold LOk;infer_instance
theorem MC{l:List aH}{k:Nat}(h:k < l.length):dB (l.take (k+1))=dB (l.take k)++l[k].aP:=by
  unfold dB
  rw [List.take_succ_eq_append_getElem h,List.flatMap_append];simp
theorem ZS(l:List aH)(k:Nat):(dB (l.take k)).length≤(dB l).length:=by
  have:dB l=dB (l.take k)++dB (l.drop k):=by
    unfold dB;rw [←List.flatMap_append,List.take_append_drop]
  rw [this];simp
theorem QN(l:List aH){k:Nat}(h:k < l.length):l[k].aP.length≤(dB l).length:=by
  have h1:=ZS l (k+1)
  rw [MC h] at h1
  simp at h1;omega
theorem K7{l:aA}(h:(eB l).length≤1073741824)(hg:l.Global.length≤maxLen)(ho:l.bJ.length≤maxLen):CU l=some (eB l):=by
  have hsum:(dB l.Global).length+(dB l.bJ).length≤1073741824:=by simpa [eB] using h
  unfold CU
  have k1:loop (vV l) ([],0)=some (dB l.Global):=by
    refine l9 (f:=vV l) l.Global.length (fun k=>(dB (l.Global.take k),(k:Int))) _ (fun k hk=>?_) ?_
    · have h1:=ZS l.Global (k+1)
      rw [MC hk] at h1
      simp only [vV]
      rw [if_pos (by simp;omega),aX hk]
      simp only [aJ]
      rw [aU (by simp at h1;omega),MC hk,iE (oC hk hg)]
    · simp [vV]
  rw [k1]
  simp only [aJ,RQ,RP]
  have k2:loop (vU l) (dB l.Global,0)=some (eB l):=by
    have:=l9 (f:=vU l) l.bJ.length (fun k=>(dB l.Global++dB (l.bJ.take k),(k:Int))) (eB l) (fun k hk=>?_) ?_
    · simpa [dB] using this
    · have h1:=ZS l.bJ (k+1)
      rw [MC hk] at h1
      simp only [vU]
      rw [if_pos (by simp;omega),aX hk]
      simp only [aJ]
      rw [aU (by simp at h1 ⊢;omega),MC hk,iE (oC hk ho),List.append_assoc]
    · simp [vU,eB]
  rw [k2];rfl
theorem EE{l:List Int}(hl:l.length≤maxLen)(x:Int):yL l x=some (decide (x∈l)):=by
  unfold yL
  have key:loop (rK l x) 0=some (if ∀y∈l,y≠x then Out.brk () else Out.ret true):=by
    refine jE (f:=rK l x) l (fun k=>(k:Int)) (fun y=>y≠x) _ _ (fun k h hp=>?_) (fun k h hp=>?_) ?_
    · simp only [rK]
      rw [if_pos (by simp;omega),aX h,iE (oC h hl)]
      have:(l[k] == x)=false:=by simpa using hp
      simp only [aJ,this,bB,if_false]
    · simp only [rK]
      rw [if_pos (by simp;omega),aX h]
      have:(l[k] == x)=true:=by simpa using hp
      simp only [aJ,this,if_true]
    · simp [rK]
  rw [key]
  by_cases h:x∈l
  · rw [if_neg (fun q=>q x h rfl),bI h];rfl
  · rw [if_pos (fun y hy (e:y=x)=>h (e ▸ hy)),bR h];rfl
theorem NL(l:List Int):l.Nodup↔∀k (h:k < l.length),l[k]∉l.take k:=by
  unfold List.Nodup
  rw [List.pairwise_iff_getElem]
  constructor
  · intro h k hk hm
    obtain⟨i,hi,he⟩:=List.mem_take_iff_getElem.1 hm
    exact h i k (by omega) hk (by omega) he
  · intro h i j hi hj hij he
    exact h j hj (List.mem_take_iff_getElem.2 ⟨i,by omega,he⟩)
theorem yG{l:aA}(h:(eB l).length≤1073741824):pN l=some (decide (LOk l)):=by
  unfold pN xF
  by_cases hg:l.Global.length=3
  · by_cases ho:l.bJ.length=9
    · have n1:((l.Global.length:Int) != 3)=false:=by simp;omega
      have n2:((l.bJ.length:Int) != 9)=false:=by simp;omega
      simp only [n1,n2,bB,if_false]
      have k1:loop (mK l) 0=some (if ∀s∈l.bJ,s.aP.length≤2 then Out.brk () else Out.ret false):=by
        refine jE (f:=mK l) l.bJ (fun k=>(k:Int)) (fun s=>s.aP.length≤2) _ _ (fun k hk hp=>?_) (fun k hk hp=>?_) ?_
        · simp only [mK]
          rw [if_pos (by simp;omega),aX hk,aS (by omega) (by omega)]
          simp only [aJ]
          rw [if_neg (by simp;omega)];rfl
        · simp only [mK]
          rw [if_pos (by simp;omega),aX hk]
          simp only [aJ]
          rw [if_pos (by simp;omega)]
        · simp [mK]
      rw [k1]
      by_cases h2:∀s∈l.bJ,s.aP.length≤2
      · rw [if_pos h2]
        simp only [aJ,NX,NW]
        rw [K7 h (by rw [hg];simp [maxLen]) (by rw [ho];simp [maxLen])]
        simp only [aJ]
        have k2:loop (mJ (eB l)) 0=some (if ∀k,k < (eB l).length→(0≤(eB l).getD k 0∧(eB l).getD k 0≤23)∧(eB l).getD k 0∉(eB l).take k then Out.brk () else Out.ret false):=by
          have hst:∀k,k < (eB l).length→mJ (eB l) (k:Int)=if (0≤(eB l).getD k 0∧(eB l).getD k 0≤23)∧(eB l).getD k 0∉(eB l).take k then some (.next ((k+1:Nat):Int)) else some (.stop (Out.ret false)):=by
            intro k hk
            have e:(eB l).getD k 0=(eB l)[k]:=by rw [List.getD_eq_getElem?_getD,List.getElem?_eq_getElem hk];rfl
            rw [e]
            simp only [mJ]
            rw [if_pos (by simp;omega),aX hk]
            simp only [aJ,bY,xE]
            by_cases q:0≤(eB l)[k]∧(eB l)[k]≤23
            · rw [bI q]
              simp only [eS,bB,if_false,Int.toNat_natCast,List.drop_zero]
              rw [aU (by omega),EE (by simp [maxLen];omega),aS (by omega) (by omega)]
              by_cases q2:(eB l)[k]∈(eB l).take k
              · rw [if_neg (fun x=>x.2 q2),bI q2];rfl
              · rw [if_pos ⟨q,q2⟩,bR q2];rfl
            · rw [bR q];simp only [nE,if_true];rw [if_neg (fun x=>q x.1)]
          refine t7 (f:=mJ (eB l)) (eB l).length (fun k=>(k:Int)) (fun k=>(0≤(eB l).getD k 0∧(eB l).getD k 0≤23)∧(eB l).getD k 0∉(eB l).take k) _ _ (fun k hk hx=>?_) (fun k hk hx=>?_) ?_
          · rw [hst k hk,if_pos hx]
          · rw [hst k hk,if_neg hx]
          · simp [mJ]
        rw [k2]
        have hiff:LOk l↔∀k,k < (eB l).length→(0≤(eB l).getD k 0∧(eB l).getD k 0≤23)∧(eB l).getD k 0∉(eB l).take k:=by
          have e:∀k (hk:k < (eB l).length),(eB l).getD k 0=(eB l)[k]:=fun k hk=>by rw [List.getD_eq_getElem?_getD,List.getElem?_eq_getElem hk];rfl
          constructor
          · rintro⟨_,_,_,q1,q2⟩ k hk
            rw [e k hk]
            exact⟨q1 _ (List.getElem_mem hk),(NL _).1 q2 k hk⟩
          · intro q
            refine⟨hg,ho,h2,fun x hx=>?_,(NL _).2 fun k hk=>?_⟩
            · obtain⟨k,hk,rfl⟩:=List.mem_iff_getElem.1 hx
              have:=(q k hk).1;rw [e k hk] at this;exact this
            · have:=(q k hk).2;rw [e k hk] at this;exact this
        by_cases q:LOk l
        · rw [if_pos (hiff.1 q),bI q];rfl
        · rw [if_neg (fun x=>q (hiff.2 x)),bR q];rfl
      · rw [if_neg h2,bR (fun q:LOk l=>h2 q.2.2.1)];rfl
    · have n1:((l.Global.length:Int) != 3)=false:=by simp;omega
      have n2:((l.bJ.length:Int) != 9)=true:=by simp;omega
      simp only [n1,n2,bB,if_false,if_true]
      rw [bR (fun q:LOk l=>ho q.2.1)]
  · have n1:((l.Global.length:Int) != 3)=true:=by simp;omega
    simp only [n1,if_true]
    rw [bR (fun q:LOk l=>hg q.1)]
def wY:List Bool→List Int→Option (List Bool)
  | met,[]=>some met
  | met,x :: r=>if (0≤x∧x≤23)∧met.getD x.toNat true=false then wY (met.set x.toNat true) r else none
theorem aE4:∀{xs:List Int} {met m:List Bool},wY met xs=some m→m.length=met.length
  | [],met,m,h=>by simp [wY] at h;rw [h]
  | x :: r, met, m, h => by
    simp only [wY] at h
    split at h
    · have:=aE4 h;simpa using this
    · cases h
theorem UX:∀(a b:List Int) (met:List Bool),wY met (a++b)=(wY met a).bind fun m=>wY m b
  | [],b,met=>rfl
  | x :: r, b, met => by
    simp only [List.cons_append,wY]
    split
    · exact UX r b _
    · rfl
theorem TC:∀(xs:List Int) (met:List Bool),met.length=24→((wY met xs).isSome=true↔(∀x∈xs,0≤x∧x≤23)∧xs.Nodup∧∀x∈xs,met.getD x.toNat true=false)
  | [],met,hm=>by simp [wY]
  | x :: r, met, hm => by
    simp only [wY]
    by_cases h:(0≤x∧x≤23)∧met.getD x.toNat true=false
    · rw [if_pos h,TC r _ (by simpa using hm)]
      have hset:∀y,0≤y∧y≤23→(((met.set x.toNat true).getD y.toNat true=false)↔(y≠x∧met.getD y.toNat true=false)):=by
        intro y hy
        rw [List.getD_eq_getElem?_getD,List.getD_eq_getElem?_getD]
        by_cases e:y=x
        · subst e;rw [List.getElem?_set_self (by omega)];simp
        · rw [List.getElem?_set_ne (by omega)];simp [e]
      constructor
      · rintro⟨q1,q2,q3⟩
        refine⟨fun y hy=>?_,List.nodup_cons.2 ⟨fun hx=>?_,q2⟩,fun y hy=>?_⟩
        · rcases List.mem_cons.1 hy with rfl | hy
          · exact h.1
          · exact q1 y hy
        · exact((hset x h.1).1 (q3 x hx)).1 rfl
        · rcases List.mem_cons.1 hy with rfl | hy
          · exact h.2
          · exact((hset y (q1 y hy)).1 (q3 y hy)).2
      · rintro⟨q1,q2,q3⟩
        have q2:=List.nodup_cons.1 q2
        refine⟨fun y hy=>q1 y (List.mem_cons_of_mem _ hy),q2.2,fun y hy=>(hset y (q1 y (List.mem_cons_of_mem _ hy))).2 ⟨fun e=>q2.1 (e ▸ hy),q3 y (List.mem_cons_of_mem _ hy)⟩⟩
    · rw [if_neg h]
      constructor
      · intro q;cases q
      · rintro⟨q1,q2,q3⟩
        exact(h ⟨q1 x List.mem_cons_self,q3 x List.mem_cons_self⟩).elim
def aGS:Option (List Bool)→Out (List Bool) Bool
  | some m=>.brk m
  | none=>.ret false
theorem aWR{s:aH}(hl:s.aP.length≤maxLen):∀d k (met:List Bool),k+d=s.aP.length→met.length=24→loop (kK s) ((k:Int),met)=some (aGS (wY met (s.aP.drop k))):=by
  intro d
  induction d with
  | zero =>
    intro k met hk hm
    rw [cT (r:=Out.brk met) (by simp [kK];omega),List.drop_eq_nil_of_le (by omega)];rfl
  | succ d ih =>
    intro k met hk hm
    have hk':k < s.aP.length:=by omega
    have hd:s.aP.drop k=s.aP[k] :: s.aP.drop (k+1):=List.drop_eq_getElem_cons hk'
    have hst:kK s ((k:Int),met)=if (0≤s.aP[k]∧s.aP[k]≤23)∧met.getD s.aP[k].toNat true=false then some (.next (((k+1:Nat):Int),met.set s.aP[k].toNat true)) else some (.stop (Out.ret false)):=by
      simp only [kK]
      rw [if_pos (by simp;omega),aX hk']
      simp only [aJ,t9]
      generalize s.aP[k]=x
      by_cases q:0≤x∧x≤23
      · obtain⟨j,rfl⟩:=Int.eq_ofNat_of_zero_le q.1
        have hj:j < met.length:=by omega
        have e:met.getD j true=met[j]:=by rw [List.getD_eq_getElem?_getD,List.getElem?_eq_getElem hj];rfl
        simp only [q,and_self,decide_true,eS,bB,if_false,mQ,Int.toNat_natCast,true_and,e]
        rw [aU (by omega),aX hj]
        simp only [aJ]
        cases met[j]
        · simp only [bB,if_false,if_true]
          rw [aU (by omega),iE (oC hk' hl)]
        · simp
      · rw [bR q];simp only [nE,if_true,mQ];rw [if_neg (fun x=>q x.1)]
    rw [hd,wY]
    by_cases q:(0≤s.aP[k]∧s.aP[k]≤23)∧met.getD s.aP[k].toNat true=false
    · rw [if_pos q] at hst ⊢
      rw [cR hst,ih (k+1) _ (by omega) (by simpa using hm)]
    · rw [if_neg q] at hst ⊢
      rw [cT hst];rfl
def XE(l:List aH):Prop:=∀s∈l,s.aP.length≤2
instance (l:List aH):Decidable (XE l):=by unfold XE;infer_instance
theorem aWS{l:aA}(ho:l.bJ.length=9)(hn:(l.bJ++l.Global).length≤1000)(hs:∀s∈l.bJ++l.Global,s.aP.length≤maxLen):∀d k (met:List Bool),k+d=(l.bJ++l.Global).length→met.length=24 →
    loop (kM l) ((k:Int),met)=some (if XE (((l.bJ++l.Global).drop k).take (9 - k))∧(wY met (dB ((l.bJ++l.Global).drop k))).isSome=true then Out.brk () else Out.ret false):=by
  intro d
  induction d with
  | zero =>
    intro k met hk hm
    rw [List.drop_eq_nil_of_le (by omega),if_pos ⟨by simp [XE],rfl⟩]
    refine cT ?_
    simp only [kM]
    rw [if_neg (by simp;simp at hk;omega)]
  | succ d ih =>
    intro k met hk hm
    have hk':k < (l.bJ++l.Global).length:=by omega
    have hd:(l.bJ++l.Global).drop k=(l.bJ++l.Global)[k] :: (l.bJ++l.Global).drop (k+1):=List.drop_eq_getElem_cons hk'
    have hsk:=hs _ (List.getElem_mem hk')
    have hf:dB ((l.bJ++l.Global).drop k)=(l.bJ++l.Global)[k].aP++dB ((l.bJ++l.Global).drop (k+1)):=by unfold dB;rw [hd,List.flatMap_cons]
    have hin:∀b:Bool,kL (k:Int) met (l.bJ++l.Global)[k] b=if b then some (.stop (Out.ret false)) else (match wY met (l.bJ++l.Global)[k].aP with | some m=>some (.next (((k+1:Nat):Int),m)) | none=>some (.stop (Out.ret false))):=by
      intro b
      have h4:=aWR hsk _ 0 met (Nat.zero_add _) hm
      rw [show((0:Nat):Int)=0 from rfl,List.drop_zero] at h4
      unfold kL
      rw [h4]
      cases b
      · simp only [bB,if_false,aJ]
        cases wY met (l.bJ++l.Global)[k].aP with
        | none=>rfl
        | some m=>simp only [aGS,N5,xL];rw [aS (by omega) (by omega)];rfl
      · rfl
    have hst:kM l ((k:Int),met)=kL (k:Int) met (l.bJ++l.Global)[k] (decide (k < 9∧2 < (l.bJ++l.Global)[k].aP.length)):=by
      simp only [kM]
      rw [if_pos (by simp;simp at hk';omega),aX hk']
      simp only [aJ]
      by_cases h9:k < 9
      · rw [if_pos (by simp;omega)]
        congr 1
        rw [Bool.eq_iff_iff];simp only [decide_eq_true_eq];omega
      · rw [if_neg (by simp;omega),bR (by omega)]
    rw [hin] at hst
    by_cases h2:k < 9∧2 < (l.bJ++l.Global)[k].aP.length
    · rw [bI h2] at hst
      simp only [if_true] at hst
      rw [cT hst,if_neg]
      rintro⟨q,_⟩
      have e:9 - k=(9 - (k+1))+1:=by omega
      rw [hd,e,List.take_succ_cons] at q
      have:=q _ List.mem_cons_self
      omega
    · rw [bR h2] at hst
      simp only [bB,if_false] at hst
      have hcond:XE (((l.bJ++l.Global).drop k).take (9 - k))↔XE (((l.bJ++l.Global).drop (k+1)).take (9 - (k+1))):=by
        unfold XE
        by_cases h9:k < 9
        · have e:9 - k=(9 - (k+1))+1:=by omega
          rw [hd,e,List.take_succ_cons,List.forall_mem_cons]
          exact⟨fun q=>q.2,fun q=>⟨by omega,q⟩⟩
        · have e:9 - k=0:=by omega
          have e':9 - (k+1)=0:=by omega
          rw [e,e'];simp
      rw [hf,UX]
      cases hg:wY met (l.bJ++l.Global)[k].aP with
      | none =>
        rw [hg] at hst
        rw [cT hst,if_neg (by simp)]
      | some m =>
        rw [hg] at hst
        rw [cR hst,ih (k+1) m (by omega) (by rw [aE4 hg];exact hm)]
        simp only [aJ,hcond]
theorem OO{l:aA}(h:(eB l).length≤1073741824):jI l=some (decide (LOk l)):=by
  unfold jI qV
  by_cases hg:l.Global.length=3
  · by_cases ho:l.bJ.length=9
    · have n1:((l.Global.length:Int) != 3)=false:=by simp;omega
      have n2:((l.bJ.length:Int) != 9)=false:=by simp;omega
      simp only [n1,n2,bB,if_false]
      rw [aU (by omega)]
      have hsl:∀s∈l.bJ++l.Global,s.aP.length≤maxLen:=by
        intro s hm
        have hsum:(dB l.Global).length+(dB l.bJ).length≤1073741824:=by simpa [eB] using h
        have hb:(1073741824:Nat)≤maxLen:=by simp [maxLen]
        rcases List.mem_append.1 hm with hm | hm
        · obtain⟨k,hk,rfl⟩:=List.mem_iff_getElem.1 hm
          have:=QN l.bJ hk;omega
        · obtain⟨k,hk,rfl⟩:=List.mem_iff_getElem.1 hm
          have:=QN l.Global hk;omega
      have key:=aWS ho (by simp;omega) hsl (l.bJ++l.Global).length 0 [false,false,false,false,false,false,false,false,false,false,false,false,false,false,false,false,false,false,false,false,false,false,false,false] (by omega) rfl
      rw [show((0:Nat):Int)=0 from rfl,List.drop_zero,Nat.sub_zero] at key
      rw [key]
      have et:(l.bJ++l.Global).take 9=l.bJ:=by rw [←ho];simp
      have ef:dB (l.bJ++l.Global)=dB l.bJ++dB l.Global:=by simp [dB]
      have hm0:∀j:Nat,j < 24→[false,false,false,false,false,false,false,false,false,false,false,false,false,false,false,false,false,false,false,false,false,false,false,false].getD j true=false:=by decide
      have hiff:LOk l↔XE ((l.bJ++l.Global).take 9)∧(wY [false,false,false,false,false,false,false,false,false,false,false,false,false,false,false,false,false,false,false,false,false,false,false,false] (dB (l.bJ++l.Global))).isSome=true:=by
        rw [TC _ _ rfl,et,ef]
        have hp:(dB l.bJ++dB l.Global).Perm (eB l):=List.perm_append_comm
        constructor
        · rintro⟨_,_,q1,q2,q3⟩
          exact⟨q1,fun x hx=>q2 x (hp.mem_iff.1 hx),hp.nodup_iff.2 q3,fun x hx=>hm0 _ (by have:=q2 x (hp.mem_iff.1 hx);omega)⟩
        · rintro⟨q1,q2,q3,_⟩
          exact⟨hg,ho,q1,fun x hx=>q2 x (hp.mem_iff.2 hx),hp.nodup_iff.1 q3⟩
      by_cases q:LOk l
      · rw [if_pos (hiff.1 q),bI q];rfl
      · rw [if_neg (fun x=>q (hiff.2 x)),bR q];rfl
    · have n1:((l.Global.length:Int) != 3)=false:=by simp;omega
      have n2:((l.bJ.length:Int) != 9)=true:=by simp;omega
      simp only [n1,n2,bB,if_false,if_true]
      rw [bR (fun q:LOk l=>ho q.2.1)]
  · have n1:((l.Global.length:Int) != 3)=true:=by simp;omega
    simp only [n1,if_true]
    rw [bR (fun q:LOk l=>hg q.1)]
end Go.Gv
end
noncomputable section
namespace Go.Gv
def CE(h:aE)(l:List Int)(c:Int):Prop:=∀x∈l,bK h x=c∧nL h x≤6
instance (h:aE) (l:List Int) (c:Int):Decidable (CE h l c):=by unfold CE;infer_instance
theorem MD{h:aE}(hs:fN h){l:List Int}(hl:l.length≤maxLen){c:Int}(hc:0≤c):vW h l c=some (decide (CE h l c)):=by
  unfold vW
  have key:loop (lN h l c) 0=some (if ∀x∈l,bK h x=c∧nL h x≤6 then Out.brk () else Out.ret false):=by
    have hst:∀k (hk:k < l.length),lN h l c (k:Int)=if bK h l[k]=c∧nL h l[k]≤6 then some (.next ((k+1:Nat):Int)) else some (.stop (Out.ret false)):=by
      intro k hk
      simp only [lN]
      rw [if_pos (by simp;omega),aX hk]
      generalize l[k]=x
      simp only [aJ,i4 hs,uH]
      by_cases q:bK h x=c
      · have n1:(bK h x != c)=false:=by simp only [bne_eq_false_iff_eq];exact q
        simp only [n1,bB,if_false,wX hs (show 0≤bK h x by omega),aJ,iE (oC hk hl)]
        by_cases q2:nL h x≤6
        · rw [if_neg (by simp;omega),if_pos ⟨q,q2⟩]
        · rw [if_pos (by simp;omega),if_neg (fun x=>q2 x.2)]
      · have n1:(bK h x != c)=true:=by simp only [bne_iff_ne];exact q
        simp only [n1,if_true]
        rw [if_neg (fun x=>q x.1)]
    refine jE (f:=lN h l c) l (fun k=>(k:Int)) (fun x=>bK h x=c∧nL h x≤6) _ _ (fun k hk hp=>?_) (fun k hk hp=>?_) ?_
    · rw [hst k hk,if_pos hp]
    · rw [hst k hk,if_neg hp]
    · simp [lN]
  rw [key]
  by_cases q:∀x∈l,bK h x=c∧nL h x≤6
  · rw [if_pos q,bI (show CE h l c from q)];rfl
  · rw [if_neg q,bR (show ¬CE h l c from q)];rfl
theorem ME{h:aE}(hs:fN h){s:aH}(hl:s.aP.length≤maxLen){c:Int}(hc:0≤c):wG h s c=some (decide (CE h s.aP c)):=by
  unfold wG
  have key:loop (lQ h s c) 0=some (if ∀x∈s.aP,bK h x=c∧nL h x≤6 then Out.brk () else Out.ret false):=by
    have hst:∀k (hk:k < s.aP.length),lQ h s c (k:Int)=if bK h s.aP[k]=c∧nL h s.aP[k]≤6 then some (.next ((k+1:Nat):Int)) else some (.stop (Out.ret false)):=by
      intro k hk
      simp only [lQ]
      rw [if_pos (by simp;omega),aX hk]
      generalize s.aP[k]=x
      simp only [aJ,kR hs,uR]
      by_cases q:bK h x=c
      · have n1:(bK h x != c)=false:=by simp only [bne_eq_false_iff_eq];exact q
        simp only [n1,bB,if_false,ED hs (show 0≤bK h x by omega),aJ,iE (oC hk hl)]
        by_cases q2:nL h x≤6
        · rw [if_neg (by simp;omega),if_pos ⟨q,q2⟩]
        · rw [if_pos (by simp;omega),if_neg (fun x=>q2 x.2)]
      · have n1:(bK h x != c)=true:=by simp only [bne_iff_ne];exact q
        simp only [n1,if_true]
        rw [if_neg (fun x=>q x.1)]
    refine jE (f:=lQ h s c) s.aP (fun k=>(k:Int)) (fun x=>bK h x=c∧nL h x≤6) _ _ (fun k hk hp=>?_) (fun k hk hp=>?_) ?_
    · rw [hst k hk,if_pos hp]
    · rw [hst k hk,if_neg hp]
    · simp [lQ]
  rw [key]
  by_cases q:∀x∈s.aP,bK h x=c∧nL h x≤6
  · rw [if_pos q,bI (show CE h s.aP c from q)];rfl
  · rw [if_neg q,bR (show ¬CE h s.aP c from q)];rfl
def kD(l:List aH)(k:Nat):List Int:=(l.getD k ⟨[]⟩).aP
theorem f8{l:List aH}{k:Nat}(h:k < l.length):l[k].aP=kD l k:=by
  unfold kD;rw [List.getD_eq_getElem?_getD,List.getElem?_eq_getElem h];rfl
def I0(m:Mem)(k:Nat):Prop:=CE m.aE (kD m.aA.Global k) (k:Int)
def CF(m:Mem)(k:Nat):Prop:=CE m.aE (kD m.aA.bJ k) ((k % 3:Nat):Int)
instance (m:Mem) (k:Nat):Decidable (I0 m k):=by unfold I0;infer_instance
instance (m:Mem) (k:Nat):Decidable (CF m k):=by unfold CF;infer_instance
instance (m:Mem):Decidable (∀k,k < 3→I0 m k):=Nat.decidableBallLT 3 fun k _=>I0 m k
instance (m:Mem):Decidable (∀k,k < 9→CF m k):=Nat.decidableBallLT 9 fun k _=>CF m k
instance (m:Mem) (c:Nat):Decidable (∀w,w < 3→CF m (w * 3+c)):=Nat.decidableBallLT 3 fun w _=>CF m (w * 3+c)
instance (m:Mem):Decidable (∀k,k < 3→I0 m k∧∀w,w < 3→CF m (w * 3+k)):=Nat.decidableBallLT 3 fun k _=>I0 m k∧∀w,w < 3→CF m (w * 3+k)
def pI(m:Mem):Prop:=(UW m.aE∧LOk m.aA)∧(∀k,k < 3→I0 m k)∧∀k,k < 9→CF m k
instance (m:Mem):Decidable (pI m):=by unfold pI;infer_instance
theorem LOk.UY{l:aA}(h:LOk l)(hb:(eB l).length≤1073741824):(∀s∈l.Global,s.aP.length≤1073741824)∧∀s∈l.bJ,s.aP.length≤1073741824:=by
  have hsum:(dB l.Global).length+(dB l.bJ).length≤1073741824:=by simpa [eB] using hb
  constructor
  · intro s hm
    obtain⟨k,hk,rfl⟩:=List.mem_iff_getElem.1 hm
    have:=QN l.Global hk;omega
  · intro s hm
    obtain⟨k,hk,rfl⟩:=List.mem_iff_getElem.1 hm
    have:=QN l.bJ hk;omega
theorem aLR{m:Mem}:(∀k,k < 3→I0 m k∧∀w,w < 3→CF m (w * 3+k))↔(∀k,k < 3→I0 m k)∧∀k,k < 9→CF m k:=by
  constructor
  · intro h
    refine⟨fun k hk=>(h k hk).1,fun k hk=>?_⟩
    have:=(h (k % 3) (by omega)).2 (k / 3) (by omega)
    have e:k / 3 * 3+k % 3=k:=by omega
    rwa [e] at this
  · rintro⟨h1,h2⟩ k hk
    exact⟨h1 k hk,fun w hw=>h2 _ (by omega)⟩
theorem K8{m:Mem}(hb:m.aE.Bytes.length≤maxLen)(hl:(eB m.aA).length≤1073741824):sQ m=some (decide (pI m)):=by
  unfold sQ DG
  rw [QM hb,yG hl]
  by_cases h1:UW m.aE
  · by_cases h2:LOk m.aA
    · have hmx:(1073741824:Nat)≤maxLen:=by simp [maxLen]
      have hsl:=LOk.UY h2 hl
      simp only [bI h1,bI h2,aJ,eS,bB,if_false]
      have k3:∀c:Nat,c < 3→loop (vX m (c:Int)) 0=some (if ∀w,w < 3→CF m (w * 3+c) then Out.brk () else Out.ret false):=by
        intro c hc
        have hst:∀w:Nat,w < 3→vX m (c:Int) (w:Int)=if CF m (w * 3+c) then some (.next ((w+1:Nat):Int)) else some (.stop (Out.ret false)):=by
          intro w hw
          have hk:w * 3+c < m.aA.bJ.length:=by rw [h2.2.1];omega
          have e:lV (w:Int) (c:Int)=some ((w * 3+c:Nat):Int):=by
            unfold lV rL
            rw [bY,bY,bI (by omega),bI (by omega)]
            simp only [aJ,eS,bB,if_false]
            rw [aS (x:=(w:Int) * 3) (by omega) (by omega),aS (by omega) (by omega)];rfl
          have hlen:=hsl.2 _ (List.getElem_mem hk)
          simp only [vX]
          rw [if_pos (by simp;omega),e]
          simp only [aJ,aX hk]
          rw [MD h1.1 (by omega) (by omega),f8 hk]
          have em:(w * 3+c) % 3=c:=by omega
          have ho:CF m (w * 3+c)↔CE m.aE (kD m.aA.bJ (w * 3+c)) (c:Int):=by unfold CF;rw [em]
          rw [aS (by omega) (by omega)]
          by_cases q:CF m (w * 3+c)
          · rw [if_pos q,bI (ho.1 q)];rfl
          · rw [if_neg q,bR (fun x=>q (ho.2 x))];rfl
        refine t7 (f:=vX m (c:Int)) 3 (fun k=>(k:Int)) (fun w=>CF m (w * 3+c)) _ _ (fun k hk hx=>?_) (fun k hk hx=>?_) ?_
        · rw [hst k hk,if_pos hx]
        · rw [hst k hk,if_neg hx]
        · rfl
      have k2:loop (vY m) 0=some (if ∀k,k < 3→I0 m k∧∀w,w < 3→CF m (w * 3+k) then Out.brk () else Out.ret false):=by
        have hst:∀c:Nat,c < 3→vY m (c:Int)=if I0 m c∧∀w,w < 3→CF m (w * 3+c) then some (.next ((c+1:Nat):Int)) else some (.stop (Out.ret false)):=by
          intro c hc
          have hk:c < m.aA.Global.length:=by rw [h2.1];omega
          have hlen:=hsl.1 _ (List.getElem_mem hk)
          simp only [vY]
          rw [if_pos (by simp;omega)]
          simp only [aJ,aX hk]
          rw [MD h1.1 (by omega) (by omega),f8 hk,k3 c hc]
          by_cases q:I0 m c
          · have q':CE m.aE (kD m.aA.Global c) (c:Int):=q
            rw [bI q']
            simp only [aJ,eS,bB,if_false]
            by_cases q2:∀w,w < 3→CF m (w * 3+c)
            · rw [if_pos q2,if_pos ⟨q,q2⟩]
              simp only [RS,RR]
              rw [aS (by omega) (by omega)];rfl
            · rw [if_neg q2,if_neg (fun x=>q2 x.2)];rfl
          · have q':¬CE m.aE (kD m.aA.Global c) (c:Int):=q
            rw [bR q',if_neg (fun x:I0 m c∧_=>q x.1)];rfl
        refine t7 (f:=vY m) 3 (fun k=>(k:Int)) (fun k=>I0 m k∧∀w,w < 3→CF m (w * 3+k)) _ _ (fun k hk hx=>?_) (fun k hk hx=>?_) ?_
        · rw [hst k hk,if_pos hx]
        · rw [hst k hk,if_neg hx]
        · rfl
      rw [k2]
      by_cases q:∀k,k < 3→I0 m k∧∀w,w < 3→CF m (w * 3+k)
      · rw [if_pos q,bI (show pI m from ⟨⟨h1,h2⟩,aLR.1 q⟩)];rfl
      · rw [if_neg q,bR (fun x:pI m=>q (aLR.2 x.2))];rfl
    · rw [bR (fun q:pI m=>h2 q.1.2),bI h1,bR h2];rfl
  · rw [bR (fun q:pI m=>h1 q.1.1),bR h1];rfl
theorem SI{m:Mem}(hb:m.aE.Bytes.length≤maxLen)(hl:(eB m.aA).length≤1073741824):HR m=some (decide (pI m)):=by
  unfold HR DM
  rw [IK hb,OO hl]
  by_cases h1:UW m.aE
  · by_cases h2:LOk m.aA
    · have hmx:(1073741824:Nat)≤maxLen:=by simp [maxLen]
      have hsl:=LOk.UY h2 hl
      simp only [bI h1,bI h2,aJ,eS,bB,if_false]
      have k3:loop (rP m) 0=some (if ∀k,k < 9→CF m k then Out.brk () else Out.ret false):=by
        have hst:∀w:Nat,w < 9→rP m (w:Int)=if CF m w then some (.next ((w+1:Nat):Int)) else some (.stop (Out.ret false)):=by
          intro w hw
          have hk:w < m.aA.bJ.length:=by rw [h2.2.1];omega
          have hlen:=hsl.2 _ (List.getElem_mem hk)
          have em:Int.tmod (w:Int) 3=((w % 3:Nat):Int):=by rw [wV (by omega)];omega
          simp only [rP]
          rw [if_pos (by simp;omega)]
          simp only [aJ,aX hk,em]
          rw [ME h1.1 (by omega) (by omega),f8 hk,aS (by omega) (by omega)]
          by_cases q:CF m w
          · rw [if_pos q,bI (show CE m.aE (kD m.aA.bJ w) ((w % 3:Nat):Int) from q)];rfl
          · rw [if_neg q,bR (show ¬CE m.aE (kD m.aA.bJ w) ((w % 3:Nat):Int) from q)];rfl
        refine t7 (f:=rP m) 9 (fun k=>(k:Int)) (fun w=>CF m w) _ _ (fun k hk hx=>?_) (fun k hk hx=>?_) ?_
        · rw [hst k hk,if_pos hx]
        · rw [hst k hk,if_neg hx]
        · simp [rP,h2.2.1]
      have k2:loop (rQ m) 0=some (if ∀k,k < 3→I0 m k then Out.brk () else Out.ret false):=by
        have hst:∀w:Nat,w < 3→rQ m (w:Int)=if I0 m w then some (.next ((w+1:Nat):Int)) else some (.stop (Out.ret false)):=by
          intro w hw
          have hk:w < m.aA.Global.length:=by rw [h2.1];omega
          have hlen:=hsl.1 _ (List.getElem_mem hk)
          simp only [rQ]
          rw [if_pos (by simp;omega)]
          simp only [aJ,aX hk]
          rw [ME h1.1 (by omega) (by omega),f8 hk,aS (by omega) (by omega)]
          by_cases q:I0 m w
          · rw [if_pos q,bI (show CE m.aE (kD m.aA.Global w) (w:Int) from q)];rfl
          · rw [if_neg q,bR (show ¬CE m.aE (kD m.aA.Global w) (w:Int) from q)];rfl
        refine t7 (f:=rQ m) 3 (fun k=>(k:Int)) (fun w=>I0 m w) _ _ (fun k hk hx=>?_) (fun k hk hx=>?_) ?_
        · rw [hst k hk,if_pos hx]
        · rw [hst k hk,if_neg hx]
        · simp [rQ,h2.1]
      rw [k2]
      by_cases q:∀k,k < 3→I0 m k
      · rw [if_pos q]
        simp only [aJ,RW,RV]
        rw [k3]
        by_cases q2:∀k,k < 9→CF m k
        · rw [if_pos q2,bI (show pI m from ⟨⟨h1,h2⟩,q,q2⟩)];rfl
        · rw [if_neg q2,bR (fun x:pI m=>q2 x.2.2)];rfl
      · rw [if_neg q,bR (fun x:pI m=>q x.2.1)];rfl
    · rw [bR (fun q:pI m=>h2 q.1.2),bI h1,bR h2];rfl
  · rw [bR (fun q:pI m=>h1 q.1.1),bR h1];rfl
end Go.Gv
end
noncomputable section
namespace Go.Gv
theorem uA{l:List aH}{s:aH}(h:s∈l):s.aP.length≤(dB l).length:=by
  obtain⟨k,hk,rfl⟩:=List.mem_iff_getElem.1 h
  exact QN l hk
theorem gU(l:aA):(eB l).length=(dB l.Global).length+(dB l.bJ).length:=by simp [eB]
def nM(m:Mem):Prop:=m.aE.Bytes.length≤1048576∧m.aE.Class.length≤1048576∧m.aA.Global.length≤1048576∧m.aA.bJ.length≤1048576∧(eB m.aA).length≤1048576
theorem nM.UY{m:Mem}(h:nM m):(∀s∈m.aA.Global,s.aP.length≤1048576)∧∀s∈m.aA.bJ,s.aP.length≤1048576:=by
  have:=gU m.aA
  have h5:=h.2.2.2.2
  exact⟨fun s hm=>by have:=uA hm;omega,fun s hm=>by have:=uA hm;omega⟩
end Go.Gv
end
noncomputable section
namespace Go.Gv
def POk(e:Int)(p:gK):Prop:=(0≤p.aL∧p.aL≤e)∧(0≤p.Seen∧p.Seen≤2)∧(p.On=false→p=⟨false,0,false,0⟩)
instance (e:Int) (p:gK):Decidable (POk e p):=by unfold POk;infer_instance
def OQ(c:aI):Prop:=(0≤c.aL∧c.aL≤100000)∧c.bA.length=3∧∀p∈c.bA,POk c.aL p
instance (c:aI):Decidable (OQ c):=by unfold OQ;infer_instance
theorem rE(c:aI):mU c=some (decide (OQ c)):=by
  unfold mU
  rw [bY]
  by_cases h1:0≤c.aL∧c.aL≤100000
  · by_cases h2:c.bA.length=3
    · simp only [aJ,h1,h2,mG]
      have key:∀k:Nat,k≤3→loop (qL c) (k:Int)=some (if ∀p∈c.bA.drop k,POk c.aL p then Out.brk () else Out.ret false):=by
        refine aFR 3 _ fun k hk=>?_
        by_cases h3:k < 3
        · have hd:c.bA.drop k=c.bA[k] :: c.bA.drop (k+1):=List.drop_eq_getElem_cons (by omega)
          simp only [qL]
          rw [if_pos (by simp;omega),aX (by omega)]
          simp only [aJ,bY,kH,hd]
          rw [iE (by simp [maxLen];omega)]
          generalize c.bA[k]=p
          have hp:POk c.aL p↔decide (0≤p.aL∧p.aL≤c.aL)=true∧decide (0≤p.Seen∧p.Seen≤2)=true∧(p.On=false→decide (p=⟨false,0,false,0⟩)=true):=by simp only [POk,decide_eq_true_eq]
          simp only [List.forall_mem_cons,hp]
          generalize decide (0≤p.aL∧p.aL≤c.aL)=b1
          generalize decide (0≤p.Seen∧p.Seen≤2)=b2
          generalize decide (p=⟨false,0,false,0⟩)=b3
          generalize p.On=b4
          cases b1 <;> cases b2 <;> cases b3 <;> cases b4 <;> simp [h3]
        · left
          obtain rfl:k=3:=by omega
          simp [qL,List.drop_eq_nil_of_le (show c.bA.length≤3 by omega)]
      have:=key 0 (by omega)
      simp only [Int.ofNat_zero,List.drop_zero] at this
      have e:decide (OQ c)=if ∀p∈c.bA,POk c.aL p then true else false:=by
        have:OQ c↔∀p∈c.bA,POk c.aL p:=⟨fun h=>h.2.2,fun h=>⟨h1,h2,h⟩⟩
        simp [this]
      rw [e]
      simp only [Int.cast_ofNat_Int] at *
      have t0:loop (qL c) 0=_:=this
      by_cases h5:∀p∈c.bA,POk c.aL p
      · rw [if_pos h5] at t0 ⊢;rw [t0];simp [E7,NU]
      · rw [if_neg h5] at t0 ⊢;rw [t0];simp [E7]
    · simp [h1,h2,mG,OQ]
      omega
  · simp [h1,mG,OQ]
theorem aIG(p:gK)(c:aI):tE p c=some (!decide (POk c.aL p)):=by
  unfold tE j7
  rw [d5,d5]
  have hp:decide (POk c.aL p)=(decide (0≤p.aL∧p.aL≤c.aL) && (decide (0≤p.Seen∧p.Seen≤2) && (p.On || decide (p=⟨false,0,false,0⟩)))):=by
    rw [Bool.eq_iff_iff];simp only [POk,decide_eq_true_eq,Bool.and_eq_true,Bool.or_eq_true]
    by_cases h:p.On=true
    · simp [h]
    · simp [(by simpa using h:p.On=false)]
  rw [hp]
  generalize decide (0≤p.aL∧p.aL≤c.aL)=b1
  generalize decide (0≤p.Seen∧p.Seen≤2)=b2
  generalize decide (p=⟨false,0,false,0⟩)=b3
  generalize p.On=b4
  cases b1 <;> cases b2 <;> cases b3 <;> cases b4 <;> rfl
theorem aGT{l:List gK}(hl:l.length≤maxLen)(f:gK→Bool):j6 l (fun x=>some (f x))=some (l.any f):=by
  unfold j6 tD
  have key:∀k:Nat,k≤l.length→loop (hO l (fun x=>some (f x))) (k:Int)=some (if (l.drop k).any f then Out.ret ((k+(l.drop k).findIdx f:Nat):Int) else Out.brk ()):=by
    refine aFR l.length _ fun k hk=>?_
    by_cases h3:k < l.length
    · have hd:l.drop k=l[k] :: l.drop (k+1):=List.drop_eq_getElem_cons h3
      simp only [hO]
      rw [if_pos (by simp;omega),aX h3,iE (oC h3 hl),hd]
      simp only [aJ,List.any_cons,List.findIdx_cons]
      by_cases h4:f l[k]=true
      · left;simp [h4]
      · right
        have h4:f l[k]=false:=by simpa using h4
        refine⟨h3,by simp [h4],?_⟩
        simp only [h4,Bool.false_or,cond_false]
        congr 2;omega
    · left
      obtain rfl:k=l.length:=by omega
      simp [hO]
  have t0:loop (hO l (fun x=>some (f x))) 0=_:=key 0 (by omega)
  rw [t0]
  simp only [List.drop_zero]
  by_cases h:l.any f=true
  · simp [h,oQ]
  · have h:l.any f=false:=by simpa using h
    simp [h,oQ,zE]
theorem rF{c:aI}(hc:c.bA.length≤maxLen):mY c=some (decide (OQ c)):=by
  unfold mY qU
  rw [d5]
  have e:(fun y0=>tE y0 c)=fun y0=>some (!decide (POk c.aL y0)):=funext fun y=>aIG y c
  rw [e,aGT hc]
  by_cases h1:0≤c.aL∧c.aL≤100000
  · by_cases h2:c.bA.length=3
    · have:OQ c↔∀p∈c.bA,POk c.aL p:=⟨fun h=>h.2.2,fun h=>⟨h1,h2,h⟩⟩
      have e2:(c.bA.any fun y0=>!decide (POk c.aL y0))=!decide (∀p∈c.bA,POk c.aL p):=by
        rw [Bool.eq_iff_iff];simp
      simp [h1,h2,this,e2]
    · have:¬(c.bA.length:Int)=3:=by omega
      simp [h1,this,h2,OQ]
  · simp [h1,OQ]
end Go.Gv
end
noncomputable section
namespace Go.Gv
def bU(l:List aO):List b8:=l.flatMap aO.Rows
theorem IL{l:List aO}{k:Nat}(h:k < l.length):bU (l.take (k+1))=bU (l.take k)++l[k].Rows:=by
  unfold bU
  rw [List.take_succ_eq_append_getElem h,List.flatMap_append];simp
theorem UZ(l:List aO)(k:Nat):(bU (l.take k)).length≤(bU l).length:=by
  have:bU l=bU (l.take k)++bU (l.drop k):=by
    unfold bU;rw [←List.flatMap_append,List.take_append_drop]
  rw [this];simp
theorem aMM(l:List aO){k:Nat}(h:k < l.length):l[k].Rows.length≤(bU l).length:=by
  have h1:=UZ l (k+1)
  rw [IL h] at h1
  simp at h1;omega
theorem MF{l:List aO}{s:aO}(h:s∈l):s.Rows.length≤(bU l).length:=by
  obtain⟨k,hk,rfl⟩:=List.mem_iff_getElem.1 h
  exact aMM l hk
theorem IM{l:List aO}(h:(bU l).length≤1073741824)(hl:l.length≤maxLen):y7 l=some (bU l):=by
  unfold y7
  have k1:loop (sS l) ([],0)=some (bU l):=by
    refine l9 (f:=sS l) l.length (fun k=>(bU (l.take k),(k:Int))) _ (fun k hk=>?_) ?_
    · have h1:=UZ l (k+1)
      rw [IL hk] at h1
      simp only [sS]
      rw [if_pos (by simp;omega),aX hk]
      simp only [aJ]
      rw [aU (by simp at h1;omega),IL hk,iE (oC hk hl)]
    · simp [sS]
  rw [k1];rfl
def rG(h:Int):Prop:=(32≤h∧h≤223)∧h % 32 < 24
instance (h:Int):Decidable (rG h):=by unfold rG;infer_instance
theorem fL(h:Int):gC h=some (decide (rG h)):=by
  unfold gC uI rG
  rw [bY]
  by_cases q:32≤h∧h≤223
  · simp [q,wV (show 0≤h by omega)]
  · simp [q]
theorem hY(h:Int):gD h=some (decide (rG h)):=by
  unfold gD lR rG
  rw [d5]
  by_cases q:32≤h∧h≤223
  · simp [q,wV (show 0≤h by omega)]
  · simp [q]
theorem rG.mod{h:Int}(q:rG h):Int.tmod h 32=h % 32∧0≤h % 32∧h % 32≤23:=by
  unfold rG at q
  exact⟨wV (by omega),by omega,by omega⟩
theorem d7(h:Int):eD h=some (if rG h then h % 32 else -1):=by
  unfold eD
  rw [fL]
  by_cases q:rG h
  · simp [q,q.mod.1]
  · simp [q]
def wZ(r:b8):Prop:=rG r.Handle∧0≤r.aL∧r.aL≤100000
instance (r:b8):Decidable (wZ r):=by unfold wZ;infer_instance
def l5(r:b8):Int:=r.Handle % 32
def rH(l:List aO):Prop:=l.length=3∧(bU l).length≤24∧(∀r∈bU l,wZ r)∧((bU l).map l5).Nodup
instance (l:List aO):Decidable (rH l):=by unfold rH;infer_instance
def rowAt(l:List b8)(k:Nat):b8:=l.getD k ⟨0,0⟩
theorem RG{l:List b8}{k:Nat}(h:k < l.length):rowAt l k=l[k]:=by
  unfold rowAt;rw [List.getD_eq_getElem?_getD,List.getElem?_eq_getElem h];rfl
theorem FR{l:List aO}(h:(bU l).length≤1073741824)(hl:l.length≤maxLen):uJ l=some (decide (rH l)):=by
  unfold uJ xG
  rw [IM h hl]
  simp only [aJ]
  by_cases h3:l.length=3
  · have n1:((l.length:Int) != 3)=false:=by simp;omega
    simp only [n1,bB,if_false]
    by_cases h24:(bU l).length≤24
    · rw [if_neg (by simp;omega)]
      have hst:∀k,k < (bU l).length→qP (bU l) (((bU l).take k).map l5,(k:Int))=if wZ (rowAt (bU l) k)∧l5 (rowAt (bU l) k)∉((bU l).take k).map l5 then some (.next (((bU l).take (k+1)).map l5,((k+1:Nat):Int))) else some (.stop (Out.ret false)):=by
        intro k hk
        simp only [qP,qO]
        rw [if_pos (by simp;omega),aX hk,RG hk]
        simp only [aJ,d7,bY]
        by_cases q:rG (bU l)[k].Handle
        · have hm:=q.mod
          rw [if_pos q,if_neg (by simp;omega)]
          by_cases q2:0≤(bU l)[k].aL∧(bU l)[k].aL≤100000
          · rw [bI q2]
            simp only [eS,bB,if_false]
            rw [EE (by simp [maxLen];omega)]
            simp only [aJ]
            by_cases q3:(bU l)[k].Handle % 32∈((bU l).take k).map l5
            · rw [bI q3];simp only [if_true];rw [if_neg (show ¬(wZ (bU l)[k]∧l5 (bU l)[k]∉((bU l).take k).map l5) from fun x=>x.2 q3)]
            · rw [bR q3]
              simp only [bB,if_false]
              rw [if_pos (show wZ (bU l)[k]∧l5 (bU l)[k]∉((bU l).take k).map l5 from ⟨⟨q,q2⟩,q3⟩),aU (by simp;omega),aS (by omega) (by omega),map_take _ hk];rfl
          · rw [bR q2]
            simp only [nE,if_true]
            rw [if_neg (fun x:wZ _∧_=>q2 x.1.2)]
        · rw [if_neg q,if_pos (by simp),if_neg (fun x:wZ _∧_=>q x.1.1)];rfl
      have key:=t7 (f:=qP (bU l)) (bU l).length (fun k=>(((bU l).take k).map l5,(k:Int))) (fun k=>wZ (rowAt (bU l) k)∧l5 (rowAt (bU l) k)∉((bU l).take k).map l5) (Out.brk ()) (Out.ret false) (fun k hk hx=>by rw [hst k hk,if_pos hx]) (fun k hk hx=>by rw [hst k hk,if_neg hx]) (by simp [qP])
      rw [List.take_zero,List.map_nil,show((0:Nat):Int)=0 from rfl] at key
      rw [key]
      have hiff:rH l↔∀k,k < (bU l).length→wZ (rowAt (bU l) k)∧l5 (rowAt (bU l) k)∉((bU l).take k).map l5:=by
        constructor
        · rintro⟨_,_,q1,q2⟩ k hk
          rw [RG hk]
          refine⟨q1 _ (List.getElem_mem hk),?_⟩
          have:=(NL _).1 q2 k (by simpa using hk)
          rw [List.getElem_map,←List.map_take] at this
          exact this
        · intro q
          refine⟨h3,h24,fun x hx=>?_,(NL _).2 fun k hk=>?_⟩
          · obtain⟨k,hk,rfl⟩:=List.mem_iff_getElem.1 hx
            have:=(q k hk).1;rw [RG hk] at this;exact this
          · have hk':k < (bU l).length:=by simpa using hk
            have:=(q k hk').2;rw [RG hk'] at this
            rw [List.getElem_map,←List.map_take];exact this
      by_cases q:rH l
      · rw [if_pos (hiff.1 q),bI q];rfl
      · rw [if_neg (fun x=>q (hiff.2 x)),bR q];rfl
    · rw [if_pos (by simp;omega),bR (fun q:rH l=>h24 q.2.1)]
  · have n1:((l.length:Int) != 3)=true:=by simp;omega
    simp only [n1,if_true]
    rw [bR (fun q:rH l=>h3 q.1)]
def goR:List Bool→List b8→Option (List Bool)
  | met,[]=>some met
  | met,r :: t=>if wZ r∧met.getD (l5 r).toNat true=false then goR (met.set (l5 r).toNat true) t else none
theorem aLS:∀{xs:List b8} {met m:List Bool},goR met xs=some m→m.length=met.length
  | [],met,m,h=>by simp [goR] at h;rw [h]
  | x :: r, met, m, h => by
    simp only [goR] at h
    split at h
    · have:=aLS h;simpa using this
    · cases h
theorem aB8:∀(a b:List b8) (met:List Bool),goR met (a++b)=(goR met a).bind fun m=>goR m b
  | [],b,met=>rfl
  | x :: r, b, met => by
    simp only [List.cons_append,goR]
    split
    · exact aB8 r b _
    · rfl
theorem aIH:∀(xs:List b8) (met:List Bool),(goR met xs).isSome=true↔(∀r∈xs,wZ r)∧(wY met (xs.map l5)).isSome=true
  | [],met=>by simp [goR,wY]
  | x :: r, met => by
    simp only [goR,List.map_cons,wY]
    by_cases h:wZ x
    · have hm:=h.1.mod
      have hs:0≤l5 x∧l5 x≤23:=hm.2
      by_cases h2:met.getD (l5 x).toNat true=false
      · rw [if_pos ⟨h,h2⟩,if_pos ⟨hs,h2⟩,aIH r _]
        simp [h]
      · rw [if_neg (fun q=>h2 q.2),if_neg (fun q=>h2 q.2)];simp
    · rw [if_neg (fun q=>h q.1)]
      constructor
      · intro q;cases q
      · rintro⟨q,_⟩;exact(h (q x List.mem_cons_self)).elim
theorem aMN{s:aO}(hl:s.Rows.length≤maxLen):∀d k (met:List Bool),k+d=s.Rows.length→met.length=24→loop (kN s) ((k:Int),met)=some (aGS (goR met (s.Rows.drop k))):=by
  intro d
  induction d with
  | zero =>
    intro k met hk hm
    rw [cT (r:=Out.brk met) (by simp [kN];omega),List.drop_eq_nil_of_le (by omega)];rfl
  | succ d ih =>
    intro k met hk hm
    have hk':k < s.Rows.length:=by omega
    have hd:s.Rows.drop k=s.Rows[k] :: s.Rows.drop (k+1):=List.drop_eq_getElem_cons hk'
    have hst:kN s ((k:Int),met)=if wZ s.Rows[k]∧met.getD (l5 s.Rows[k]).toNat true=false then some (.next (((k+1:Nat):Int),met.set (l5 s.Rows[k]).toNat true)) else some (.stop (Out.ret false)):=by
      simp only [kN]
      rw [if_pos (by simp;omega),aX hk']
      simp only [aJ,hY,d5]
      generalize s.Rows[k]=x
      by_cases q:rG x.Handle
      · by_cases q2:0≤x.aL∧x.aL≤100000
        · have hm2:=q.mod
          obtain⟨j,hj0⟩:=Int.eq_ofNat_of_zero_le hm2.2.1
          have hj:j < met.length:=by omega
          have e:met.getD j true=met[j]:=by rw [List.getD_eq_getElem?_getD,List.getElem?_eq_getElem hj];rfl
          have hr:wZ x:=⟨q,q2⟩
          simp only [q,q2,and_self,decide_true,eS,bB,if_false,iX,hm2.1,hj0,Int.toNat_natCast,hr,true_and,l5,e]
          rw [aU (by omega),aX hj]
          simp only [aJ]
          cases met[j]
          · simp only [bB,if_false,if_true]
            rw [aU (by omega),iE (oC hk' hl)]
          · simp
        · rw [bI q,bR q2];simp only [eS,nE,bB,if_false,if_true,iX];rw [if_neg (fun y:wZ x∧_=>q2 y.1.2)]
      · rw [bR q];simp only [nE,if_true,iX];rw [if_neg (fun y:wZ x∧_=>q y.1.1)]
    rw [hd,goR]
    by_cases q:wZ s.Rows[k]∧met.getD (l5 s.Rows[k]).toNat true=false
    · rw [if_pos q] at hst ⊢
      rw [cR hst,ih (k+1) _ (by omega) (by simpa using hm)]
    · rw [if_neg q] at hst ⊢
      rw [cT hst];rfl
theorem aMO{l:List aO}(hn:l.length≤1000)(hs:∀s∈l,s.Rows.length≤maxLen):∀d k (met:List Bool),k+d=l.length→met.length=24 →
    loop (kO l) ((k:Int),met)=some (if (goR met (bU (l.drop k))).isSome=true then Out.brk () else Out.ret false):=by
  intro d
  induction d with
  | zero =>
    intro k met hk hm
    rw [List.drop_eq_nil_of_le (by omega),if_pos (show(goR met (bU [])).isSome=true from rfl)]
    refine cT ?_
    simp only [kO]
    rw [if_neg (by simp;omega)]
  | succ d ih =>
    intro k met hk hm
    have hk':k < l.length:=by omega
    have hd:l.drop k=l[k] :: l.drop (k+1):=List.drop_eq_getElem_cons hk'
    have hsk:=hs _ (List.getElem_mem hk')
    have hf:bU (l.drop k)=l[k].Rows++bU (l.drop (k+1)):=by unfold bU;rw [hd,List.flatMap_cons]
    have h4:=aMN hsk _ 0 met (Nat.zero_add _) hm
    rw [show((0:Nat):Int)=0 from rfl,List.drop_zero] at h4
    have hst:kO l ((k:Int),met)=(match goR met l[k].Rows with | some m=>some (.next (((k+1:Nat):Int),m)) | none=>some (.stop (Out.ret false))):=by
      simp only [kO]
      rw [if_pos (by simp;omega),aX hk']
      simp only [aJ]
      rw [h4]
      cases goR met l[k].Rows with
      | none=>rfl
      | some m=>simp only [aJ,aGS,N6,xP];rw [aS (by omega) (by omega)];rfl
    rw [hf,aB8]
    cases hg:goR met l[k].Rows with
    | none =>
      rw [hg] at hst
      rw [cT hst,if_neg (by simp)]
    | some m =>
      rw [hg] at hst
      rw [cR hst,ih (k+1) m (by omega) (by rw [aLS hg];exact hm)]
      simp only [aJ]
theorem U0{l:List aO}(hn:l.length≤1000)(h:(bU l).length≤1073741824):tI l=some ((bU l).length:Int):=by
  unfold tI
  have key:loop (iJ l) (0,0)=some ((bU l).length:Int):=by
    refine l9 (f:=iJ l) l.length (fun k=>(((bU (l.take k)).length:Int),(k:Int))) _ (fun k hk=>?_) ?_
    · have h1:=UZ l (k+1)
      rw [IL hk,List.length_append] at h1
      simp only [iJ]
      rw [if_pos (by simp;omega),aX hk]
      simp only [aJ]
      rw [aS (by omega) (by omega),aS (by omega) (by omega),IL hk,List.length_append]
      simp
    · simp [iJ]
  rw [key];rfl
theorem yH{l:List aO}(h:(bU l).length≤1073741824):lC l=some (decide (rH l)):=by
  unfold lC
  by_cases h3:l.length=3
  · have n1:((l.length:Int) != 3)=false:=by simp;omega
    have hb:(1073741824:Nat)≤maxLen:=by simp [maxLen]
    simp only [n1,bB,if_false]
    have key:=aMO (l:=l) (by omega) (fun s hs=>by have:=MF hs;omega) l.length 0 [false,false,false,false,false,false,false,false,false,false,false,false,false,false,false,false,false,false,false,false,false,false,false,false] (by omega) rfl
    rw [show((0:Nat):Int)=0 from rfl,List.drop_zero] at key
    rw [key]
    have hm0:∀j:Nat,j < 24→[false,false,false,false,false,false,false,false,false,false,false,false,false,false,false,false,false,false,false,false,false,false,false,false].getD j true=false:=by decide
    have hiff:rH l↔(bU l).length≤24∧(goR [false,false,false,false,false,false,false,false,false,false,false,false,false,false,false,false,false,false,false,false,false,false,false,false] (bU l)).isSome=true:=by
      rw [aIH,TC _ _ rfl]
      have hr:(∀r∈bU l,wZ r)→∀x∈(bU l).map l5,0≤x∧x≤23:=by
        intro q x hx
        obtain⟨r,hr,rfl⟩:=List.mem_map.1 hx
        exact(q r hr).1.mod.2
      constructor
      · rintro⟨_,q1,q2,q3⟩
        exact⟨q1,q2,hr q2,q3,fun x hx=>hm0 _ (by have:=hr q2 x hx;omega)⟩
      · rintro⟨q1,q2,_,q3,_⟩
        exact⟨h3,q1,q2,q3⟩
    by_cases q:(goR [false,false,false,false,false,false,false,false,false,false,false,false,false,false,false,false,false,false,false,false,false,false,false,false] (bU l)).isSome=true
    · rw [if_pos q]
      simp only [aJ,N7,xO]
      rw [U0 (by omega) h]
      simp only [aJ]
      congr 1
      rw [Bool.eq_iff_iff];simp only [decide_eq_true_eq]
      rw [hiff]
      exact⟨fun a=>⟨by omega,q⟩,fun a=>by omega⟩
    · rw [if_neg q,bR (fun x=>q (hiff.1 x).2)];rfl
  · have n1:((l.length:Int) != 3)=true:=by simp;omega
    simp only [n1,if_true]
    rw [bR (fun q:rH l=>h3 q.1)]
def dK(h:Int):Prop:=h=0∨rG h
instance (h:Int):Decidable (dK h):=by unfold dK;infer_instance
def K9(z:List Int):Prop:=z.length=3∧∀h∈z,dK h
instance (z:List Int):Decidable (K9 z):=by unfold K9;infer_instance
theorem LA{z:List Int}(hl:z.length≤maxLen):CV z=some (decide (K9 z)):=by
  unfold CV
  have hst:∀k (hk:k < z.length),vZ z (k:Int)=if dK z[k] then some (.next ((k+1:Nat):Int)) else some (.stop (Out.ret false)):=by
    intro k hk
    simp only [vZ,DH]
    rw [if_pos (by simp;omega),aX hk,iE (oC hk hl)]
    simp only [aJ,fL]
    generalize z[k]=x
    by_cases q:x=0
    · have n:(x != 0)=false:=by simp only [bne_eq_false_iff_eq];exact q
      rw [n,if_pos (show dK x from .inl q)];rfl
    · have n:(x != 0)=true:=by simp only [bne_iff_ne];exact q
      by_cases q2:rG x
      · rw [n,bI q2,if_pos (show dK x from .inr q2)];rfl
      · rw [n,bR q2,if_neg (fun a:dK x=>a.elim q q2)];rfl
  have key:=jE (f:=vZ z) z (fun k=>(k:Int)) dK (Out.brk ()) (Out.ret false) (fun k hk hx=>by rw [hst k hk,if_pos hx]) (fun k hk hx=>by rw [hst k hk,if_neg hx]) (by simp [vZ])
  rw [show((0:Nat):Int)=0 from rfl] at key
  rw [key]
  by_cases q:∀x∈z,dK x
  · rw [if_pos q]
    have:K9 z↔z.length=3:=⟨fun a=>a.1,fun a=>⟨a,q⟩⟩
    simp only [aJ,RU,RT,this]
    congr 1;rw [Bool.eq_iff_iff];simp only [beq_iff_eq,decide_eq_true_eq];omega
  · rw [if_neg q,bR (fun a:K9 z=>q a.2)];rfl
theorem LB{z:List Int}(hl:z.length≤maxLen):CZ z=some (decide (K9 z)):=by
  unfold CZ DN
  have e:(fun y0=>GI y0)=fun y:Int=>some (!decide (dK y)):=by
    funext y
    unfold GI pK tJ
    rw [hY]
    by_cases q:y=0
    · have n:(y == 0)=true:=by simp only [beq_iff_eq];exact q
      rw [n,bI (show dK y from .inl q)];rfl
    · have n:(y == 0)=false:=by simp only [beq_eq_false_iff_ne];exact q
      by_cases q2:rG y
      · rw [n,bI q2,bI (show dK y from .inr q2)];rfl
      · rw [n,bR q2,bR (fun a:dK y=>a.elim q q2)];rfl
  rw [e,CB hl,EB]
  by_cases h3:z.length=3
  · have n:((z.length:Int) == 3)=true:=by simp;omega
    have:K9 z↔∀h∈z,dK h:=⟨fun a=>a.2,fun a=>⟨h3,a⟩⟩
    simp only [n,if_true,aJ,Bool.not_not,this]
  · have n:((z.length:Int) == 3)=false:=by simp;omega
    simp only [n,bB,if_false]
    rw [bR (fun a:K9 z=>h3 a.1)]
end Go.Gv
end
noncomputable section
namespace Go.Gv
theorem IN{α:Type}(l:List α)(f:α→Bool){body:Int→Option (Step Int (Out Unit Int))}(hb:∀k (hk:k < l.length),body (k:Int)=if f l[k] then some (.stop (.ret (k:Int))) else some (.next ((k+1:Nat):Int)))(he:body (l.length:Int)=some (.stop (.brk ()))) :
    ∃o,loop body 0=some o∧match o with | .brk _=>l.any f=false | .ret r=>0≤r∧l.any f=true:=by
  have key:=aMK (f:=body) l.length (fun k=>(k:Int)) (fun k=>if (l.drop k).any f then Out.ret ((k+(l.drop k).findIdx f:Nat):Int) else Out.brk ()) (fun k hk=>by
    by_cases h:k < l.length
    · have hd:l.drop k=l[k] :: l.drop (k+1):=List.drop_eq_getElem_cons h
      rw [hb k h,hd]
      simp only [List.any_cons,List.findIdx_cons]
      by_cases h4:f l[k]=true
      · left;simp [h4]
      · right
        have h4:f l[k]=false:=by simpa using h4
        refine⟨h,by simp [h4],?_⟩
        simp only [h4,Bool.false_or,cond_false]
        congr 2;omega
    · left
      obtain rfl:k=l.length:=by omega
      rw [he];simp) 0 (Nat.zero_le _)
  rw [show((0:Nat):Int)=0 from rfl,List.drop_zero] at key
  refine⟨_,key,?_⟩
  by_cases h:l.any f=true
  · rw [if_pos h];exact⟨by omega,h⟩
  · rw [if_neg h];simpa using h
theorem SJ{l:List b8}(hl:l.length≤maxLen)(f:b8→Bool):gT l (fun x=>some (f x))=some (l.any f):=by
  obtain⟨o,e,h⟩:=IN l f (body:=jK l (fun x=>some (f x))) (fun k hk=>by
    simp only [jK]
    rw [if_pos (by simp;omega),aX hk,iE (oC hk hl)];rfl) (by simp [jK])
  unfold gT rU
  rw [e]
  cases o with
  | brk u=>simp only at h;simp [nG,wH,h]
  | ret r=>simp only at h;simp [nG,h]
theorem QO{l:List aO}(hl:l.length≤maxLen)(f:aO→Bool)(g:aO→Option Bool)(hg:∀x∈l,g x=some (f x)):gH l g=some (l.any f):=by
  obtain⟨o,e,h⟩:=IN l f (body:=i9 l g) (fun k hk=>by
    simp only [i9]
    rw [if_pos (by simp;omega),aX hk,iE (oC hk hl)]
    simp only [aJ,hg _ (List.getElem_mem hk)]) (by simp [i9])
  unfold gH pZ
  rw [e]
  cases o with
  | brk u=>simp only at h;simp [mE,vK,h]
  | ret r=>simp only at h;simp [mE,h]
theorem QP{l:List aH}(hl:l.length≤maxLen)(f:aH→Bool)(g:aH→Option Bool)(hg:∀x∈l,g x=some (f x)):gI l g=some (l.any f):=by
  obtain⟨o,e,h⟩:=IN l f (body:=jA l g) (fun k hk=>by
    simp only [jA]
    rw [if_pos (by simp;omega),aX hk,iE (oC hk hl)]
    simp only [aJ,hg _ (List.getElem_mem hk)]) (by simp [jA])
  unfold gI p7
  rw [e]
  cases o with
  | brk u=>simp only at h;simp [mF,vL,h]
  | ret r=>simp only at h;simp [mF,h]
theorem contains_eq{l:List Int}(hl:l.length≤maxLen)(v:Int):nS l v=some (decide (v∈l)):=by
  obtain⟨o,e,h⟩:=IN l (fun x=>v == x) (body:=eC l v) (fun k hk=>by
    simp only [eC]
    rw [if_pos (by simp;omega),aX hk,iE (oC hk hl)];rfl) (by simp [eC])
  have ha:l.any (fun x=>v == x)=decide (v∈l):=by
    rw [Bool.eq_iff_iff];simp
  rw [ha] at h
  unfold nS lS
  rw [e]
  cases o with
  | brk u=>simp only at h;simp [nR,FY,h]
  | ret r=>simp only at h;simp [nR,h]
theorem RH{l:List aH}{x:Int}:x∈dB l↔∃s∈l,x∈s.aP:=List.mem_flatMap
noncomputable section
variable {m:Mem} (hsh:fN m.aE) (hl:(eB m.aA).length≤1073741824) (hg:m.aA.Global.length≤maxLen) (ho:m.aA.bJ.length≤maxLen)
include hl hg ho
theorem aB9(s:Int):I9 m.aA s=some (decide (s∈eB m.aA)):=by
  have hb:(1073741824:Nat)≤maxLen:=by simp [maxLen]
  unfold I9
  rw [K7 hl hg ho]
  simp only [aJ]
  rw [EE (by omega)];rfl
theorem QQ(s:Int):ES m.aA s=some (decide (s∈eB m.aA)):=by
  have hb:(1073741824:Nat)≤maxLen:=by simp [maxLen]
  have hal:=gU m.aA
  have e1:∀x∈m.aA.Global,nH x s=some (decide (s∈x.aP)):=fun x hx=>by
    have:=uA hx
    unfold nH;rw [contains_eq (by omega)];rfl
  have e2:∀x∈m.aA.bJ,nH x s=some (decide (s∈x.aP)):=fun x hx=>by
    have:=uA hx
    unfold nH;rw [contains_eq (by omega)];rfl
  unfold ES AM
  rw [QP hg (fun x=>decide (s∈x.aP)) _ e1,QP ho (fun x=>decide (s∈x.aP)) _ e2]
  have a1:(m.aA.Global.any fun x=>decide (s∈x.aP))=decide (s∈dB m.aA.Global):=by
    rw [Bool.eq_iff_iff];simp [RH]
  have a2:(m.aA.bJ.any fun x=>decide (s∈x.aP))=decide (s∈dB m.aA.bJ):=by
    rw [Bool.eq_iff_iff];simp [RH]
  rw [a1,a2]
  simp only [aJ,eB,List.mem_append]
  by_cases q:s∈dB m.aA.Global <;> simp [q]
def jX(m:Mem)(s:Int):Int:=if bK m.aE s < 0 then 0 else if s∈eB m.aA then 1 else if 6 < nL m.aE s then 2 else 3
include hsh
theorem Y4(s:Int):GA m s=some (jX m s):=by
  unfold GA jX
  rw [i4 hsh,aB9 hl hg ho]
  simp only [aJ]
  by_cases q:bK m.aE s < 0
  · simp [q]
  · rw [wX hsh (by omega)]
    by_cases q2:s∈eB m.aA
    · simp [q,q2]
    · by_cases q3:6 < nL m.aE s <;> simp [q,q2,q3]
theorem Y5(s:Int):GJ m s=some (jX m s):=by
  unfold GJ jX
  rw [kR hsh,QQ hl hg ho]
  simp only [aJ]
  by_cases q:bK m.aE s < 0
  · simp [q]
  · rw [ED hsh (by omega)]
    by_cases q2:s∈eB m.aA
    · simp [q,q2]
    · by_cases q3:6 < nL m.aE s <;> simp [q,q2,q3]
def vM(m:Mem)(h:Int):Prop:=rG h∧jX m (h % 32)=3∧nL m.aE (h % 32)=h / 32
instance (m:Mem) (h:Int):Decidable (vM m h):=by unfold vM;infer_instance
omit hl hg ho hsh in
theorem E2{m:Mem}{s:Int}(h:jX m s=3):0≤bK m.aE s:=by
  unfold jX at h
  split at h
  · omega
  · omega
theorem rI(h:Int):pO m h=some (decide (vM m h)):=by
  unfold pO qQ
  rw [fL,d7]
  by_cases q:rG h
  · have hm:=q.mod
    rw [bI q,if_pos q]
    simp only [aJ,if_true,Y4 hsh hl hg ho]
    by_cases q2:jX m (h % 32)=3
    · have n:(jX m (h % 32) == 3)=true:=by simpa using q2
      have eg:zR h=some (h / 32):=by
        unfold zR
        unfold rG at q
        rw [fL,bI (show rG h from q),E1 (by omega),aS (by omega) (by omega)];rfl
      rw [n,wX hsh (E2 q2),eg]
      simp only [if_true,aJ]
      congr 1;rw [Bool.eq_iff_iff];simp only [beq_iff_eq,decide_eq_true_eq]
      exact⟨fun a=>⟨q,q2,a⟩,fun a=>a.2.2⟩
    · have n:(jX m (h % 32) == 3)=false:=by simpa using q2
      rw [n,bR (fun a:vM m h=>q2 a.2.1)];rfl
  · rw [bR q,bR (fun a:vM m h=>q a.1)];rfl
theorem IP(h:Int):zH m h=some (decide (vM m h)):=by
  unfold zH tK
  rw [hY]
  by_cases q:rG h
  · have hm:=q.mod
    rw [bI q,hm.1]
    simp only [aJ,if_true,Y5 hsh hl hg ho]
    by_cases q2:jX m (h % 32)=3
    · have n:(jX m (h % 32) == 3)=true:=by simpa using q2
      have eg:bC (Int.tdiv h 32)=h / 32:=by
        unfold rG at q
        rw [E1 (by omega),aS (by omega) (by omega)]
      rw [n,ED hsh (E2 q2),eg]
      simp only [if_true,aJ]
      congr 1;rw [Bool.eq_iff_iff];simp only [beq_iff_eq,decide_eq_true_eq]
      exact⟨fun a=>⟨q,q2,a⟩,fun a=>a.2.2⟩
    · have n:(jX m (h % 32) == 3)=false:=by simpa using q2
      rw [n,bR (fun a:vM m h=>q2 a.2.1)];rfl
  · rw [bR q,bR (fun a:vM m h=>q a.1)];rfl
end
def vI(b:aB)(r:b8):Prop:=vM b.Mem r.Handle∧r.aL≤b.aI.aL
instance (b:aB) (r:b8):Decidable (vI b r):=by unfold vI;infer_instance
def l6(b:aB):Prop:=(pI b.Mem∧OQ b.aI∧rH b.aV∧K9 b.iC)∧∀r∈bU b.aV,vI b r
instance (b:aB):Decidable (l6 b):=by unfold l6;infer_instance
def FT(b:aB):Prop:=nM b.Mem∧b.aI.bA.length≤1048576∧b.aV.length≤1048576∧(bU b.aV).length≤1048576∧b.iC.length≤1048576
theorem FT.rows{b:aB}(h:FT b):∀s∈b.aV,s.Rows.length≤1048576:=fun s hs=>by
  have:=MF hs;have:=h.2.2.2.1;omega
noncomputable section
variable {b:aB} (hf:b.Mem.aE.Bytes.length≤maxLen∧(eB b.Mem.aA).length≤1073741824∧b.aI.bA.length≤maxLen∧b.aV.length≤maxLen∧(bU b.aV).length≤1073741824∧b.iC.length≤maxLen)
include hf
theorem QT:EJ b=some (decide (l6 b)):=by
  obtain⟨f1,f2,f3,f4,f5,f6⟩:=hf
  unfold EJ oH
  rw [K8 f1 f2,rE,FR f5 f4,LA f6]
  by_cases q1:pI b.Mem
  · by_cases q2:OQ b.aI
    · by_cases q3:rH b.aV
      · by_cases q4:K9 b.iC
        · have hg:b.Mem.aA.Global.length≤maxLen:=by rw [q1.1.2.1];simp [maxLen]
          have ho:b.Mem.aA.bJ.length≤maxLen:=by rw [q1.1.2.2.1];simp [maxLen]
          have hmx:(1073741824:Nat)≤maxLen:=by simp [maxLen]
          simp only [bI q1,bI q2,bI q3,bI q4,aJ,eS,bB,if_false]
          rw [IM f5 f4]
          simp only [aJ]
          have hst:∀k (hk:k < (bU b.aV).length),sT b (bU b.aV) (k:Int)=if vI b (bU b.aV)[k] then some (.next ((k+1:Nat):Int)) else some (.stop (Out.ret false)):=by
            intro k hk
            simp only [sT,zT]
            rw [if_pos (by simp;omega),aX hk,iE (show k < maxLen by omega)]
            generalize (bU b.aV)[k]=r
            simp only [aJ,rI q1.1.1.1 f2 hg ho]
            by_cases a1:vM b.Mem r.Handle
            · rw [bI a1]
              simp only [eS,bB,if_false]
              by_cases a2:r.aL≤b.aI.aL
              · rw [if_neg (by simp;omega),if_pos ⟨a1,a2⟩]
              · rw [if_pos (by simp;omega),if_neg (fun x=>a2 x.2)]
            · rw [bR a1]
              simp only [nE,if_true]
              rw [if_neg (fun x=>a1 x.1)]
          have key:=jE (f:=sT b (bU b.aV)) (bU b.aV) (fun k=>(k:Int)) (vI b) (Out.brk ()) (Out.ret false) (fun k hk hx=>by rw [hst k hk,if_pos hx]) (fun k hk hx=>by rw [hst k hk,if_neg hx]) (by simp [sT])
          rw [show((0:Nat):Int)=0 from rfl] at key
          rw [key]
          by_cases q:∀r∈bU b.aV,vI b r
          · rw [if_pos q,bI (show l6 b from ⟨⟨q1,q2,q3,q4⟩,q⟩)];rfl
          · rw [if_neg q,bR (fun x:l6 b=>q x.2)];rfl
        · rw [bR (fun x:l6 b=>q4 x.1.2.2.2),bI q1,bI q2,bI q3,bR q4];rfl
      · rw [bR (fun x:l6 b=>q3 x.1.2.2.1),bI q1,bI q2,bR q3];rfl
    · rw [bR (fun x:l6 b=>q2 x.1.2.1),bI q1,bR q2];rfl
  · rw [bR (fun x:l6 b=>q1 x.1.1),bR q1];rfl
theorem aCA:JG b=some (decide (l6 b)):=by
  obtain⟨f1,f2,f3,f4,f5,f6⟩:=hf
  unfold JG oW
  rw [SI f1 f2,rF f3,yH f5,LB f6]
  by_cases q1:pI b.Mem
  · by_cases q2:OQ b.aI
    · by_cases q3:rH b.aV
      · by_cases q4:K9 b.iC
        · have hg:b.Mem.aA.Global.length≤maxLen:=by rw [q1.1.2.1];simp [maxLen]
          have ho:b.Mem.aA.bJ.length≤maxLen:=by rw [q1.1.2.2.1];simp [maxLen]
          have hmx:(1073741824:Nat)≤maxLen:=by simp [maxLen]
          simp only [bI q1,bI q2,bI q3,bI q4,aJ,eS,bB,if_false]
          have e1:(fun y0=>xQ y0 b)=fun r:b8=>some (!decide (vI b r)):=by
            funext r
            unfold xQ p8
            rw [IP q1.1.1.1 f2 hg ho]
            by_cases a1:vM b.Mem r.Handle
            · by_cases a2:r.aL≤b.aI.aL
              · rw [bI a1,bI (show vI b r from ⟨a1,a2⟩),bR (show ¬b.aI.aL < r.aL by omega)];rfl
              · rw [bI a1,bR (fun x:vI b r=>a2 x.2),bI (show b.aI.aL < r.aL by omega)];rfl
            · rw [bR a1,bR (fun x:vI b r=>a1 x.1)];rfl
          have e2:∀l∈b.aV,(fun y0=>DO y0 b) l=some (!decide (∀r∈l.Rows,vI b r)):=fun l hl=>by
            have:=MF hl
            simp only [DO]
            rw [e1,SJ (by omega),EB];rfl
          rw [QO f4 _ _ e2,EB]
          have hiff:l6 b↔∀l∈b.aV,∀r∈l.Rows,vI b r:=by
            constructor
            · intro x l hl r hr
              exact x.2 r (List.mem_flatMap.2 ⟨l,hl,hr⟩)
            · intro x
              refine⟨⟨q1,q2,q3,q4⟩,fun r hr=>?_⟩
              obtain⟨l,hl,hr⟩:=List.mem_flatMap.1 hr
              exact x l hl r hr
          simp only [aJ,Bool.not_not,hiff]
        · rw [bR (fun x:l6 b=>q4 x.1.2.2.2),bI q1,bI q2,bI q3,bR q4];rfl
      · rw [bR (fun x:l6 b=>q3 x.1.2.2.1),bI q1,bI q2,bR q3];rfl
    · rw [bR (fun x:l6 b=>q2 x.1.2.1),bI q1,bR q2];rfl
  · rw [bR (fun x:l6 b=>q1 x.1.1),bR q1];rfl
end
end Go.Gv
end
noncomputable section
namespace Go.Gv
theorem QU{α:Type}{f:(List α×Int)→Option (Step (List α×Int) (List α))}(l:List α)
    (h:∀k (hk:k < l.length),f (l.take k,(k:Int))=some (.next (l.take k ++ [l[k]],((k+1:Nat):Int)))) (he:f (l,(l.length:Int))=some (.stop l)):loop f ([],0)=some l:=by
  have:=l9 (f:=f) l.length (fun k=>(l.take k,(k:Int))) l (fun k hk=>by rw [h k hk,List.take_succ_eq_append_getElem hk]) (by rw [List.take_length];exact he)
  simpa using this
theorem aE6{α:Type}{f:(Int×List α)→Option (Step (Int×List α) (List α))}(l:List α)
    (h:∀k (hk:k < l.length),f ((k:Int),l.take k)=some (.next (((k+1:Nat):Int),l.take k ++ [l[k]]))) (he:f ((l.length:Int),l)=some (.stop l)):loop f (0,[])=some l:=by
  have:=l9 (f:=f) l.length (fun k=>((k:Int),l.take k)) l (fun k hk=>by rw [h k hk,List.take_succ_eq_append_getElem hk]) (by rw [List.take_length];exact he)
  simpa using this
theorem C8{l:List Int}(h:l.length≤1073741824):lH l=some l:=by
  unfold lH;rw [aU (by simpa using h)];rfl
theorem nD{l:List Int}(h:l.length≤1073741824):eX l=some l:=by
  unfold eX;rw [aU (by simpa using h)];rfl
theorem aGU{l:List gK}(h:l.length≤1073741824):uQ l=some l:=by
  unfold uQ;rw [aU (by simpa using h)];rfl
theorem aEB{l:List b8}(h:l.length≤1073741824):rZ l=some l:=by
  unfold rZ;rw [aU (by simpa using h)];rfl
theorem aE7{l:List aH}(hl:l.length≤1048576)(hs:∀s∈l,s.aP.length≤1048576):EK l=some l:=by
  unfold EK
  rw [QU l]
  · rfl
  · intro k hk
    have:=hs _ (List.getElem_mem hk)
    simp only [HK]
    rw [if_pos (by simp;omega),aX hk]
    simp only [aJ]
    rw [C8 (by omega),aJ,aU (by simp;omega),aS (by omega) (by omega)];rfl
  · simp [HK]
theorem EF{l:aA}(h1:l.Global.length≤1048576)(h2:l.bJ.length≤1048576)(h3:∀s∈l.Global,s.aP.length≤1048576)(h4:∀s∈l.bJ,s.aP.length≤1048576):sV l=some l:=by
  unfold sV;rw [aE7 h1 h3,aE7 h2 h4];rfl
theorem LC{l:aA}(h1:l.Global.length≤1048576)(h2:l.bJ.length≤1048576)(h3:∀s∈l.Global,s.aP.length≤1048576)(h4:∀s∈l.bJ,s.aP.length≤1048576):gR l=some l:=by
  unfold gR
  rw [aE6 l.Global]
  · simp only [aJ,JE,JD]
    rw [aE6 l.bJ]
    · rfl
    · intro k hk
      have:=h4 _ (List.getElem_mem hk)
      simp only [AD]
      rw [if_pos (by simp;omega),aX hk]
      simp only [aJ]
      rw [nD (by omega),aJ,aU (by simp;omega),AB,aS (by omega) (by omega)];rfl
    · simp [AD]
  · intro k hk
    have:=h3 _ (List.getElem_mem hk)
    simp only [AF]
    rw [if_pos (by simp;omega),aX hk]
    simp only [aJ]
    rw [nD (by omega),aJ,aU (by simp;omega),AE,aS (by omega) (by omega)];rfl
  · simp [AF]
theorem NM{h:aE}(h1:h.Bytes.length≤1048576)(h2:h.Class.length≤1048576):y8 h=some h:=by
  unfold y8;rw [C8 (by omega),C8 (by omega)];rfl
theorem NN{h:aE}(h1:h.Bytes.length≤1048576)(h2:h.Class.length≤1048576):rN h=some h:=by
  unfold rN;rw [nD (by omega),nD (by omega)];rfl
theorem E3{m:Mem}(h:nM m):sW m=some m:=by
  have a:=NM h.1 h.2.1
  have b:=EF h.2.2.1 h.2.2.2.1 h.UY.1 h.UY.2
  unfold sW;rw [a,b];rfl
theorem XF{m:Mem}(h:nM m):AG m=some m:=by
  have a:=NN h.1 h.2.1
  have b:=LC h.2.2.1 h.2.2.2.1 h.UY.1 h.UY.2
  unfold AG;rw [a,b];rfl
theorem xA{c:aI}(h:c.bA.length≤1048576):mW c=some c:=by
  unfold mW;rw [aU (by simp;omega)];rfl
theorem xB{c:aI}(h:c.bA.length≤1048576):jS c=some c:=by
  unfold jS;rw [aGU (by omega)];rfl
theorem SK{l:List aO}(hl:l.length≤1048576)(hs:∀s∈l,s.Rows.length≤1048576):uL l=some l:=by
  unfold uL
  rw [QU l]
  · rfl
  · intro k hk
    have:=hs _ (List.getElem_mem hk)
    simp only [E9]
    rw [if_pos (by simp;omega),aX hk]
    simp only [aJ]
    rw [aU (by simp;omega),aU (by simp;omega),aS (by omega) (by omega)];rfl
  · simp [E9]
theorem LD{l:List aO}(hl:l.length≤1048576)(hs:∀s∈l,s.Rows.length≤1048576):jT l=some l:=by
  unfold jT
  rw [QU l]
  · rfl
  · intro k hk
    have:=hs _ (List.getElem_mem hk)
    simp only [AH]
    rw [if_pos (by simp;omega),aX hk]
    simp only [aJ]
    rw [aEB (by omega),aJ,aU (by simp;omega),aS (by omega) (by omega)];rfl
  · simp [AH]
theorem U1{b:aB}(h:FT b):zW b=some b:=by
  have m:=E3 h.1
  have c:=xA h.2.1
  have l:=SK h.2.2.1 h.rows
  have:=h.2.2.2.2
  unfold zW;rw [m,c,l,C8 (by omega)];rfl
theorem aGV{b:aB}(h:FT b):DJ b=some b:=by
  have m:=XF h.1
  have c:=xB h.2.1
  have l:=LD h.2.2.1 h.rows
  have:=h.2.2.2.2
  unfold DJ;rw [m,c,l,nD (by omega)];rfl
end Go.Gv
end
noncomputable section
namespace Go.Gv
theorem i5(w:Int):e9 w=some (decide (0≤w∧w≤2)):=by
  unfold e9;rw [d5];rfl
noncomputable section
variable {c:aI} (hc:OQ c) {w:Int} (hw:0≤w∧w≤2)
include hc
theorem OQ.small:c.bA.length≤1048576∧c.bA.length≤maxLen:=by
  have:=hc.2.1;simp only [maxLen];omega
theorem OQ.aGW{k:Nat}{p:gK}(hp:POk c.aL p):OQ ⟨c.aL,c.bA.set k p⟩:=⟨hc.1,by simpa using hc.2.1,fun q hq=>(List.mem_or_eq_of_mem_set hq).elim (hc.2.2 q) (fun e=>e ▸ hp)⟩
theorem OQ.aWT(h:c.aL+1≤100000):OQ ⟨c.aL+1,c.bA⟩:=by
  have h1:=hc.1
  exact⟨⟨by simp only;omega,h⟩,hc.2.1,fun q hq=>by
    obtain⟨a,b,d⟩:=hc.2.2 q hq
    exact⟨⟨a.1,by simp only;omega⟩,b,d⟩⟩
include hw
theorem WX:∃p,idx c.bA w=some p∧POk c.aL p:=by
  have h3:=hc.2.1
  rw [iT hw.1 (by omega)]
  exact⟨_,rfl,hc.2.2 _ (List.getElem_mem _)⟩
theorem aE8(e:Int):∃r,EL c w e=some r∧JJ c w e=some r∧OQ r.1∧r.1.aL=c.aL:=by
  obtain⟨p,hp,h1,⟨hs0,hs1⟩,h2⟩:=WX hc hw
  have h3:=hc.2.1
  unfold EL JJ
  rw [xA hc.small.1,xB hc.small.1,rE,rF hc.small.2,i5,bY,bI hc,bI hw]
  simp only [aJ,eS,bB,if_false,z5,AV,hp]
  cases h4:p.On
  · exact⟨_,rfl,rfl,hc,rfl⟩
  · cases h5:p.fF
    · by_cases h6:p.aL=e
      · simp only [oJ,oY,h6,beq_self_eq_true,if_true,eS,bB,if_false]
        exact⟨_,rfl,rfl,hc,rfl⟩
      · have h6':(p.aL == e)=false:=by simpa using h6
        simp only [oJ,oY,h6',eS,bB,if_false,hp,aJ]
        by_cases h7:p.Seen=2
        · simp only [h7,beq_self_eq_true,if_true,show ¬((2:Int) < 2) by omega,decide_false,bB,if_false]
          exact⟨_,rfl,rfl,hc.aGW ⟨h1,by simp,fun q=>by simp [h4] at q⟩,rfl⟩
        · have h7':(p.Seen == 2)=false:=by simpa using h7
          simp only [h7',show p.Seen < 2 by omega,decide_true,if_true,bB,if_false]
          have hw7:bC (p.Seen+1)=p.Seen+1:=aS (by omega) (by omega)
          exact⟨_,rfl,rfl,hc.aGW ⟨h1,by simp only [hw7];omega,fun q=>by simp [h4] at q⟩,rfl⟩
    · exact⟨_,rfl,rfl,hc,rfl⟩
theorem aII(e:Int):∃r,HP c w e=some r∧MV c w e=some r∧(OQ r.1∧r.1.aL=c.aL)∧(r.2=false→r.1=c):=by
  obtain⟨p,hp,hpk⟩:=WX hc hw
  have h3:=hc.2.1
  unfold HP MV
  rw [xA hc.small.1,xB hc.small.1,rE,rF hc.small.2,i5,bY,bY,d5,bI hc,bI hw]
  simp only [aJ,eS,bB,if_false,v8,wL,hp]
  by_cases h:0≤e∧e≤c.aL
  · simp only [bI h,eS,bB,if_false]
    exact⟨_,rfl,rfl,⟨hc.aGW ⟨h,by simp,fun q=>by cases q⟩,rfl⟩,fun q=>by cases q⟩
  · simp only [bR h,nE,if_true]
    exact⟨_,rfl,rfl,⟨hc,rfl⟩,fun _=>rfl⟩
omit hw in
theorem aLT(e:Int):∃r,LS c e=some r∧RE c e=some r∧OQ r.1∧c.aL≤r.1.aL:=by
  have h3:=hc.2.1
  unfold LS RE
  rw [xA hc.small.1,xB hc.small.1,rE,rF hc.small.2,bI hc]
  simp only [aJ,eS,bB,if_false,z6,AW]
  by_cases h:c.aL=e
  · subst h
    simp only [bne_self_eq_false,bB,if_false]
    by_cases h:c.aL=100000
    · simp only [h,beq_self_eq_true,if_true];exact⟨_,rfl,rfl,hc,by simp [h]⟩
    · have h':(c.aL == 100000)=false:=by simpa using h
      have hE:=hc.1
      have hw7:bC (c.aL+1)=c.aL+1:=aS (by omega) (by omega)
      simp only [h',bB,if_false,hw7];exact⟨_,rfl,rfl,hc.aWT (by omega),by simp only;omega⟩
  · have h':(c.aL != e)=true:=by simpa using h
    simp only [h',if_true];exact⟨_,rfl,rfl,hc,Int.le_refl _⟩
end
theorem aUY{b:aB}(hc:OQ b.aI){w:Int}(hw:0≤w∧w≤2)(s:Sub) :
    ∃x y,JA b w s=some (x,y)∧uY s b w=some (y,x)∧∃cl,x=⟨b.Mem,cl,b.aV,b.iC⟩∧OQ cl∧b.aI.aL≤cl.aL:=by
  obtain⟨r,e1,e2,h3,h4⟩:=aII hc hw s.E
  unfold JA uY
  rw [e1,e2]
  simp only [cC,bG,vQ,aJ]
  by_cases p0:s.Pc=0
  · simp only [p0,beq_self_eq_true,if_true];exact⟨_,_,rfl,rfl,_,rfl,hc,by omega⟩
  · have p0':(s.Pc == 0)=false:=by simpa using p0
    simp only [p0',bB,if_false]
    by_cases p1:s.Pc=1
    · simp only [p1,beq_self_eq_true,if_true]
      cases h:r.2
      · rw [h4 h];exact⟨_,_,rfl,rfl,_,rfl,hc,by omega⟩
      · exact⟨_,_,rfl,rfl,_,rfl,h3.1,by rw [h3.2];exact Int.le_refl _⟩
    · have p1':(s.Pc == 1)=false:=by simpa using p1
      simp only [p1',bB,if_false]
      by_cases p2:s.Pc=2
      · simp only [p2,beq_self_eq_true,if_true]
        by_cases q:b.aI.aL=s.E
        · simp only [q,beq_self_eq_true,if_true];exact⟨_,_,rfl,rfl,_,rfl,hc,by omega⟩
        · have q':(b.aI.aL == s.E)=false:=by simpa using q
          simp only [q',bB,if_false];exact⟨_,_,rfl,rfl,_,rfl,hc,by omega⟩
      · have p2':(s.Pc == 2)=false:=by simpa using p2
        simp only [p2',bB,if_false];exact⟨_,_,rfl,rfl,_,rfl,hc,by omega⟩
theorem aJ0{b:aB}(hc:OQ b.aI)(s:Sub) :
    ∃x y,xJ b s=some (x,y)∧m5 s b=some (y,x)∧∃cl,x=⟨b.Mem,cl,b.aV,b.iC⟩∧OQ cl∧b.aI.aL≤cl.aL:=by
  obtain⟨r2,e3,e4,h4⟩:=aLT hc s.E
  unfold xJ m5 j9
  rw [e3,e4,bY,i5]
  simp only [cC,bG,pR,pS,j8,aJ]
  by_cases p0:s.Pc=0
  · simp only [p0,beq_self_eq_true,if_true];exact⟨_,_,rfl,rfl,_,rfl,hc,by omega⟩
  · have p0':(s.Pc == 0)=false:=by simpa using p0
    simp only [p0',bB,if_false]
    by_cases p1:s.Pc=1
    · simp only [p1,beq_self_eq_true,if_true,show((1:Int) == 2)=false from rfl,bB,if_false]
      by_cases hB:0≤s.B∧s.B≤2
      · obtain⟨r,e1,e2,h3,h3'⟩:=aE8 hc hB s.E
        simp only [bI hB,eS,bB,if_false,if_true,e1,e2,aJ]
        cases h:r.2
        · exact⟨_,_,rfl,rfl,_,rfl,h3,by rw [h3'];exact Int.le_refl _⟩
        · by_cases q:bC (s.B+1)=3
          · simp only [q,beq_self_eq_true,if_true,eS,bB,if_false];exact⟨_,_,rfl,rfl,_,rfl,h3,by rw [h3'];exact Int.le_refl _⟩
          · have q':(bC (s.B+1) == 3)=false:=by simpa using q
            simp only [q',eS,bB,if_false];exact⟨_,_,rfl,rfl,_,rfl,h3,by rw [h3'];exact Int.le_refl _⟩
      · simp only [bR hB,nE,bB,if_false,if_true]
        exact⟨_,_,rfl,rfl,_,rfl,hc,by omega⟩
    · have p1':(s.Pc == 1)=false:=by simpa using p1
      simp only [p1',bB,if_false]
      by_cases p2:s.Pc=2
      · simp only [p2,beq_self_eq_true,if_true]
        cases h:r2.2
        · simp only [bB,if_false];exact⟨_,_,rfl,rfl,_,rfl,h4⟩
        · simp only [if_true];exact⟨_,_,rfl,rfl,_,rfl,h4⟩
      · have p2':(s.Pc == 2)=false:=by simpa using p2
        simp only [p2',bB,if_false];exact⟨_,_,rfl,rfl,_,rfl,hc,by omega⟩
end Go.Gv
end
noncomputable section
namespace Go.Gv
theorem aJ1:∀(n:Nat) (l:List Int),l.Nodup→(∀x∈l,0≤x∧x < (n:Int))→l.length≤n
  | 0, l, _, h => by
    cases l with
    | nil=>simp
    | cons a t=>have:=h a (by simp);omega
  | n + 1, l, hn, h => by
    have ih:=aJ1 n (l.erase (n:Int)) (hn.erase _) (fun x hx=>by
      have h1:=(hn.mem_erase_iff).1 hx
      have h2:=h x h1.2
      have:=h1.1
      omega)
    have:=List.length_erase (a:=(n:Int)) (l:=l)
    split at this <;> omega
theorem aGX(a b:List aO):bU (a++b)=bU a++bU b:=by simp [bU]
theorem U2(a b:List aH):dB (a++b)=dB a++dB b:=by simp [dB]
theorem C9{l:List aO}{k:Nat}(hk:k < l.length)(x:aO):bU (l.set k x)=bU (l.take k)++(x.Rows++bU (l.drop (k+1))):=by
  rw [List.set_eq_take_append_cons_drop,if_pos hk,aGX];simp [bU]
theorem zI{l:List aO}{k:Nat}(hk:k < l.length):bU l=bU (l.take k)++(l[k].Rows++bU (l.drop (k+1))):=by
  conv=>lhs;rw [←List.set_getElem_self hk,C9 hk]
theorem DA{l:List aH}{k:Nat}(hk:k < l.length)(x:aH):dB (l.set k x)=dB (l.take k)++(x.aP++dB (l.drop (k+1))):=by
  rw [List.set_eq_take_append_cons_drop,if_pos hk,U2];simp [dB]
theorem zJ{l:List aH}{k:Nat}(hk:k < l.length):dB l=dB (l.take k)++(l[k].aP++dB (l.drop (k+1))):=by
  conv=>lhs;rw [←List.set_getElem_self hk,DA hk]
def aGY(l:List aO)(s:Int):Prop:=∃r∈bU l,rG r.Handle∧r.Handle % 32=s
instance (l:List aO) (s:Int):Decidable (aGY l s):=by unfold aGY;infer_instance
noncomputable section
variable {l:List aO} (hl:rH l)
include hl
theorem rH.small:(bU l).length≤1073741824∧l.length≤maxLen∧l.length≤1048576∧∀s∈l,s.Rows.length≤24:=by
  have:=hl.1;have h2:=hl.2.1
  refine⟨by omega,by simp only [maxLen];omega,by omega,fun s hs=>?_⟩
  have:=MF hs;omega
theorem Y6(s:Int):GF l s=some (decide (aGY l s)):=by
  have hm:=hl.small
  unfold GF
  rw [IM hm.1 hm.2.1,aJ]
  have key:=jE (f:=mP s (bU l)) (bU l) (fun k=>(k:Int)) (fun r=>¬(rG r.Handle∧r.Handle % 32=s)) (Out.brk ()) (Out.ret true)
    (fun k hk hp=>by
      have hk':=hl.2.1
      simp only [mP,qS]
      rw [if_pos (by simp;omega),aX hk,iE (show k < maxLen by simp only [maxLen];omega)]
      simp only [aJ,fL,d7]
      by_cases q:rG (bU l)[k].Handle
      · have:((bU l)[k].Handle % 32 == s)=false:=by simpa using fun a=>hp ⟨q,a⟩
        simp [q,this]
      · simp [q])
    (fun k hk hp=>by
      have hp:=Classical.not_not.1 hp
      simp only [mP,qS]
      rw [if_pos (by simp;omega),aX hk]
      simp [fL,d7,hp.1,hp.2])
    (by simp [mP])
  have key':loop (mP s (bU l)) 0=_:=key
  rw [key']
  by_cases q:aGY l s
  · rw [if_neg (fun a=>by obtain⟨r,hr,e⟩:=q;exact a r hr e),bI q];rfl
  · rw [if_pos (fun r hr e=>q ⟨r,hr,e⟩),bR q];rfl
theorem Y7(s:Int):GP l s=some (decide (aGY l s)):=by
  have hm:=hl.small
  unfold GP
  have e1:∀(r:b8),oX r s=some (decide (rG r.Handle∧r.Handle % 32=s)):=by
    intro r
    unfold oX nU
    rw [hY]
    by_cases q:rG r.Handle
    · rw [q.mod.1];simp [q];rfl
    · simp [q]
  have e2:∀x∈l,AU x s=some (x.Rows.any fun r=>decide (rG r.Handle∧r.Handle % 32=s)):=by
    intro x hx
    unfold AU
    have:x.Rows.length≤maxLen:=by have:=hm.2.2.2 x hx;simp only [maxLen];omega
    rw [show(fun y0=>oX y0 s)=fun r=>some (decide (rG r.Handle∧r.Handle % 32=s)) from funext e1,SJ this];rfl
  rw [QO hm.2.1 (fun x=>x.Rows.any fun r=>decide (rG r.Handle∧r.Handle % 32=s)) _ e2]
  simp only [aJ]
  congr 1
  rw [Bool.eq_iff_iff,decide_eq_true_iff]
  simp only [List.any_eq_true,decide_eq_true_eq,aGY,bU,List.mem_flatMap]
  constructor
  · rintro⟨x,hx,r,hr,h⟩;exact⟨r,⟨x,hx,hr⟩,h⟩
  · rintro⟨r,⟨x,hx,hr⟩,h⟩;exact⟨x,hx,r,hr,h⟩
theorem rH.more{k:Nat}(hk:k < l.length){r:b8}(hr:wZ r)(hn:¬aGY l (r.Handle % 32)):rH (l.set k ⟨l[k].Rows ++ [r]⟩):=by
  have e:=C9 hk (⟨l[k].Rows ++ [r]⟩:aO)
  have p:(bU (l.set k ⟨l[k].Rows ++ [r]⟩)).Perm (r :: bU l):=by
    rw [e,zI hk]
    refine List.Perm.trans ?_ List.perm_middle
    simp only [List.append_assoc]
    exact List.Perm.append_left _ (by simp only [List.singleton_append];exact(List.perm_middle (l₁:=l[k].Rows) (l₂:=bU (l.drop (k+1))) (a:=r)))
  have h1:∀x∈bU (l.set k ⟨l[k].Rows ++ [r]⟩),wZ x:=fun x hx=>by
    rcases List.mem_cons.1 (p.mem_iff.1 hx) with rfl | h
    · exact hr
    · exact hl.2.2.1 x h
  have h2:((bU (l.set k ⟨l[k].Rows ++ [r]⟩)).map l5).Nodup:=by
    refine(List.Perm.nodup_iff (p.map l5)).2 ?_
    rw [List.map_cons,List.nodup_cons]
    refine⟨fun h=>hn ?_,hl.2.2.2⟩
    obtain⟨x,hx,e⟩:=List.mem_map.1 h
    exact⟨x,hx,(hl.2.2.1 x hx).1,e⟩
  refine⟨by simpa using hl.1,?_,h1,h2⟩
  have:=aJ1 24 _ h2 (fun x hx=>by
    obtain⟨y,hy,rfl⟩:=List.mem_map.1 hx
    have:=(h1 y hy).1.mod
    unfold l5;omega)
  simpa using this
end
theorem aMP{b:aB}(hb:l6 b)(hs:FT b){w:Int}(hw:0≤w∧w≤2)(s:Sub) :
    ∃x y,z4 b w s=some (x,y)∧nV s b w=some (y,x)∧∃L,x=⟨b.Mem,b.aI,L,b.iC⟩∧rH L∧∀r∈bU L,vI b r:=by
  have hL:=hb.1.2.2.1
  have hm:=hb.1.1
  have hlen:w.toNat < b.aV.length:=by have:=hL.1;omega
  have hx:idx b.aV w=some b.aV[w.toNat]:=iT hw.1 (by omega)
  have hg:b.Mem.aA.Global.length≤maxLen:=by rw [hm.1.2.1];simp [maxLen]
  have ho:b.Mem.aA.bJ.length≤maxLen:=by rw [hm.1.2.2.1];simp [maxLen]
  have hall:(eB b.Mem.aA).length≤1073741824:=by have:=hs.1.2.2.2.2;omega
  have hrow:=hL.small.2.2.2 _ (List.getElem_mem hlen)
  have he:=hb.1.2.1.1
  unfold z4 nV lG
  rw [bY,d5,rI hm.1.1.1 hall hg ho,IP hm.1.1.1 hall hg ho,d7]
  simp only [cC,bG,aJ,rY,z0,lF]
  by_cases p0:s.Pc=0
  · simp only [p0,beq_self_eq_true,if_true];exact⟨_,_,rfl,rfl,_,rfl,hL,hb.2⟩
  · have p0' : (s.Pc == 0) = false := by simpa using p0
    simp only [p0',bB,if_false]
    by_cases p1:s.Pc=1
    · simp only [p1,beq_self_eq_true,bne_self_eq_false,bB,if_false,if_true]
      by_cases q1:0≤s.E∧s.E≤b.aI.aL
      · simp only [bI q1,eS,bB,if_false]
        by_cases q2:vM b.Mem s.A
        · have hh:=q2.1
          simp only [bI q2,eS,bB,if_false,if_pos hh,hh.mod.1,Y6 hL,Y7 hL,aJ]
          by_cases q3:aGY b.aV (s.A % 32)
          · simp only [bI q3,if_true];exact⟨_,_,rfl,rfl,_,rfl,hL,hb.2⟩
          · have hmore:=hL.more hlen (r:=⟨s.A,s.E⟩) ⟨hh,q1.1,by simp only;omega⟩ q3
            have e:DU b.aV w s.A s.E=some (b.aV.set w.toNat ⟨b.aV[w.toNat].Rows ++ [⟨s.A,s.E⟩]⟩,true):=by
              unfold DU uW
              rw [yH hL.small.1,i5,LD hL.small.2.2.1 (fun s h=>by have:=hL.small.2.2.2 s h;omega)]
              simp only [bI hL,bI hw,aJ,eS,bB,if_false,hx]
              rw [aU (by simp;omega),yH hmore.small.1,bI hmore];rfl
            simp only [bR q3,bB,if_false,hx,e,aJ]
            rw [aU (by simp;omega)]
            refine⟨_,_,rfl,rfl,_,rfl,hmore,fun r hr=>?_⟩
            rw [C9 hlen] at hr
            have hsp:=zI hlen
            rcases List.mem_append.1 hr with h | h
            · exact hb.2 r (by rw [hsp];exact List.mem_append_left _ h)
            · rcases List.mem_append.1 h with h | h
              · rcases List.mem_append.1 h with h | h
                · exact hb.2 r (by rw [hsp];exact List.mem_append_right _ (List.mem_append_left _ h))
                · simp at h;subst h;exact⟨q2,q1.2⟩
              · exact hb.2 r (by rw [hsp];exact List.mem_append_right _ (List.mem_append_right _ h))
        · simp only [bR q2,nE,if_true];exact⟨_,_,rfl,rfl,_,rfl,hL,hb.2⟩
      · simp only [bR q1,nE,if_true];exact⟨_,_,rfl,rfl,_,rfl,hL,hb.2⟩
    · have p1':(s.Pc == 1)=false:=by simpa using p1
      have p1'':(s.Pc != 1)=true:=by simpa using p1
      simp only [p1',p1'',bB,if_false,if_true];exact⟨_,_,rfl,rfl,_,rfl,hL,hb.2⟩
end Go.Gv
end
noncomputable section
namespace Go.Gv
def st4(b:List Int)(a:Nat)(n:Int):List Int:=(((b.set a 0).set (a+1) 0).set (a+2) 0).set (a+3) n
theorem EG(b:List Int)(a:Nat)(n:Int):(st4 b a n).length=b.length:=by simp [st4]
theorem aIJ{b:List Int}(h:sH b)(a:Nat){n:Int}(hn:0≤n∧n≤255):sH (st4 b a n):=by
  have key:∀{l:List Int} (i:Nat) (v:Int),sH l→0≤v∧v≤255→sH (l.set i v):=fun i v hl hv x hx=>by
    rcases List.mem_or_eq_of_mem_set hx with h | rfl
    · exact hl x h
    · exact hv
  exact key _ _ (key _ _ (key _ _ (key _ _ h (by omega)) (by omega)) (by omega)) hn
theorem aQB{n:Int}(hn:0≤n∧n≤255):((u8 n).toNat:Int)=n:=by
  obtain⟨m,rfl⟩:=Int.eq_ofNat_of_zero_le hn.1
  unfold u8
  rw [UInt8.toNat_ofNat'];omega
theorem U3{l:List Int}(i:Nat){v:Int}(hl:sH l)(hv:0≤v∧v≤255):sH (l.set i v):=fun x hx=>by
  rcases List.mem_or_eq_of_mem_set hx with h | rfl
  · exact hl x h
  · exact hv
def LF(b:List Int)(a:Nat)(n:Int):List Int:=(((b.set a (n / 16777216)).set (a+1) (n / 65536 % 256)).set (a+2) (n / 256 % 256)).set (a+3) (n % 256)
theorem U4(b:List Int)(a:Nat)(n:Int):(LF b a n).length=b.length:=by simp [LF]
theorem aMQ{b:List Int}(h:sH b)(a:Nat){n:Int}(hn:0≤n∧n≤4294967295):sH (LF b a n):=by
  unfold LF
  exact U3 _ (U3 _ (U3 _ (U3 _ h (by omega)) (by omega)) (by omega)) (by omega)
theorem aMR(b:List Int)(a:Nat)(x y z u:Int):(((b.set (a+3) u).set (a+2) z).set (a+1) y).set a x=(((b.set a x).set (a+1) y).set (a+2) z).set (a+3) u:=by
  refine List.ext_getElem (by simp) fun j h1 h2=>?_
  simp only [List.getElem_set]
  by_cases j0:a=j
  · subst j0;simp
  · by_cases j1:a+1=j
    · subst j1;simp
    · by_cases j2:a+2=j
      · subst j2;simp
      · by_cases j3:a+3=j
        · subst j3;simp
        · simp [j0,j1,j2,j3]
theorem aFA{b:List Int}{a:Nat}(h:a+4≤b.length)(hl:b.length≤100000){n:Int}(hn:0≤n∧n≤4294967295):jH b (a:Int) 4 n=some (LF b a n):=by
  have st:∀(c:List Int) (m:Int) (i:Nat),c.length=b.length→0≤m→m≤4294967295→i < 4→qR (a:Int) (c,m,(i:Int))=some (.next (c.set (a+i) (m % 256),m / 256,(i:Int) - 1)):=fun c m i hc h0 h1 hi=>by
    simp only [qR]
    rw [if_pos (by simp),aS (x:=(a:Int)+i) (by omega) (by omega),show(a:Int)+i=((a+i:Nat):Int) by omega,aX (by omega),aJ,wV h0,E1 h0,aS (x:=m / 256) (by omega) (by omega),aS (x:=(i:Int) - 1) (by omega) (by omega),Int.toNat_natCast]
  unfold jH
  rw [show bC (4 - 1)=((3:Nat):Int) from by rw [aS (by omega) (by omega)];rfl]
  rw [cR (st b n 3 rfl hn.1 hn.2 (by omega)),show((3:Nat):Int) - 1=((2:Nat):Int) by rfl,
    cR (st _ _ 2 (by simp) (by omega) (by omega) (by omega)),show((2:Nat):Int) - 1=((1:Nat):Int) by rfl,
    cR (st _ _ 1 (by simp) (by omega) (by omega) (by omega)),show((1:Nat):Int) - 1=((0:Nat):Int) by rfl,
    cR (st _ _ 0 (by simp) (by omega) (by omega) (by omega)),cT (r:=LF b a n)]
  · rfl
  · simp only [qR]
    rw [if_neg (by simp)]
    have e1:n / 256 / 256=n / 65536:=by omega
    have e2:n / 256 / 256 / 256=n / 16777216:=by omega
    have e3:n / 16777216 % 256=n / 16777216:=by omega
    rw [e1,show n / 65536 / 256=n / 16777216 by omega,e3]
    unfold LF
    simp only [Nat.add_zero]
    rw [aMR]
def SL(n:Int):List UInt8:=[u8 (n / 16777216),u8 (n / 65536),u8 (n / 256),u8 n]
theorem aCB{n:Int}(hn:0≤n∧n≤4294967295):yT n 4=some (SL n):=by
  have hw:jL 4=some true:=by unfold jL;rw [d5];rfl
  unfold yT
  rw [hw]
  have e1:IntKind.u64.wrap (bC (8 * 4))=32:=by decide
  have e2:aEI .i64 1 32=4294967296:=by decide
  simp only [aJ,eS,bB,if_false,e1,e2]
  rw [if_neg (by simp;omega),aU (by omega),bR (by omega)]
  simp only [wJ,bB,if_false]
  rw [aU (by omega),show bC (4 - 1)=((3:Nat):Int) from by rw [aS (by omega) (by omega)];rfl]
  have st:∀(m:Int) (c:List UInt8) (i:Nat),i < c.length→i < 4→0≤m→DR (m,c,(i:Int))=some (.next (m / 256,c.set i (u8 m),(i:Int) - 1)):=fun m c i hc hi h0=>by
    simp only [DR]
    rw [if_pos (by simp),aX hc,aJ,show(8:Int)=((8:Nat):Int) from rfl,aSA h0 (by omega),aS (by omega) (by omega),Int.toNat_natCast];rfl
  rw [cR (st n _ 3 (by simp) (by omega) hn.1),show((3:Nat):Int) - 1=((2:Nat):Int) by rfl,
    cR (st _ _ 2 (by simp) (by omega) (by omega)),show((2:Nat):Int) - 1=((1:Nat):Int) by rfl,
    cR (st _ _ 1 (by simp) (by omega) (by omega)),show((1:Nat):Int) - 1=((0:Nat):Int) by rfl,
    cR (st _ _ 0 (by simp) (by omega) (by omega)),cT (r:=SL n)]
  · rfl
  · simp only [DR]
    rw [if_neg (by simp)]
    have e1:n / 256 / 256=n / 65536:=by omega
    rw [e1,show n / 65536 / 256=n / 16777216 by omega]
    rfl
theorem aGZ{n:Int}(hn:0≤n):((u8 n).toNat:Int)=n % 256:=by
  have:u8 n=u8 (n % 256):=by
    unfold u8
    congr 1
    omega
  rw [this,aQB (by omega)]
theorem aCC{b:List Int}{a:Nat}(h:a+4≤b.length)(hl:b.length≤100000){n:Int}(hn:0≤n∧n≤4294967295):tN b (a:Int) (SL n)=some (LF b a n):=by
  have st:∀(c:List Int) (i:Nat) (v:UInt8),c.length=b.length→i < 4→idx (SL n) (i:Int)=some v→AS b (a:Int) (SL n) (c,(i:Int))=some (.next (c.set (a+i) (v.toNat:Int),((i+1:Nat):Int))):=fun c i v hc hi hv=>by
    simp only [AS]
    rw [aU hc,if_pos (by simp [SL];omega),hv,aJ,aS (x:=(a:Int)+i) (by omega) (by omega),show(a:Int)+i=((a+i:Nat):Int) by omega,aX (by omega),aJ,aS (by omega) (by omega),Int.toNat_natCast];rfl
  unfold tN
  rw [show(0:Int)=((0:Nat):Int) from rfl,cR (st b 0 _ rfl (by omega) rfl),cR (st _ 1 _ (by simp) (by omega) rfl),cR (st _ 2 _ (by simp) (by omega) rfl),cR (st _ 3 _ (by simp) (by omega) rfl),cT (r:=LF b a n)]
  · simp only [aJ,PG,PF]
    rw [aU (U4 b a n)]
  · simp only [AS]
    rw [aU (by simp),if_neg (by simp [SL])]
    simp only [aGZ hn.1,aGZ (show 0≤n / 16777216 by omega),aGZ (show 0≤n / 65536 by omega),aGZ (show 0≤n / 256 by omega)]
    rw [show n / 16777216 % 256=n / 16777216 by omega]
    rfl
theorem aQC{b:List Int}{a:Nat}{n:Int}(hn:0≤n∧n≤255):LF b a n=st4 b a n:=by
  unfold LF st4
  rw [show n / 16777216=0 by omega,show n / 65536 % 256=0 by omega,show n / 256 % 256=0 by omega,show n % 256=n by omega]
theorem OR{b:List Int}{a:Nat}(h:a+4≤b.length)(hl:b.length≤100000){n:Int}(hn:0≤n∧n≤255):jH b (a:Int) 4 n=some (st4 b a n):=by
  rw [aFA h hl ⟨hn.1,by omega⟩,aQC hn]
theorem aWU{n:Int}(hn:0≤n∧n≤255):SL n=[0,0,0,u8 n]:=by
  unfold SL
  rw [show n / 16777216=0 by omega,show n / 65536=0 by omega,show n / 256=0 by omega];rfl
theorem SM{n:Int}(hn:0≤n∧n≤255):yT n 4=some [0,0,0,u8 n]:=by
  rw [aCB ⟨hn.1,by omega⟩,aWU hn]
theorem QV{b:List Int}{a:Nat}(h:a+4≤b.length)(hl:b.length≤100000){n:Int}(hn:0≤n∧n≤255):tN b (a:Int) [0,0,0,u8 n]=some (st4 b a n):=by
  rw [←aWU hn,aCC h hl ⟨hn.1,by omega⟩,aQC hn]
end Go.Gv
end
noncomputable section
namespace Go.Gv
theorem aTB{x y z:Int}:∀(a:Nat) (l:List Int),a+3≤l.length→dQ l a [x,y,z]=((l.set a x).set (a+1) y).set (a+2) z
  | 0, l, h => by
    match l,h with
    | _ :: _ :: _ :: t,_=>simp [dQ]
  | a + 1, l, h => by
    match l,h with
    | u :: t, h =>
      have ih:=aTB (x:=x) (y:=y) (z:=z) a t (by simp at h;omega)
      simp only [List.set_cons_succ,←ih]
      simp [dQ,Nat.add_right_comm]
def aQD(p k:Nat)(c:Int):Nat:=(fW ((p:Int) * 4+k) c).toNat
def gB(b:List Int)(p:Nat)(c:Int):Nat→List Int
  | 0=>((b.set (p * 64) 171).set (p * 64+1) c).set (p * 64+2) (cS c)
  | k+1=>st4 (gB b p c k) (aQD p k c) 1
theorem IQ(b:List Int)(p:Nat)(c:Int):∀k,(gB b p c k).length=b.length
  | 0=>by simp [gB]
  | k+1=>by rw [gB,EG,IQ b p c k]
theorem aCD{l:List Int}(i:Nat){v:Int}(hl:sH l)(hv:0≤v∧v≤255):sH (l.set i v):=fun x hx=>by
  rcases List.mem_or_eq_of_mem_set hx with h | rfl
  · exact hl x h
  · exact hv
theorem aG0{b:List Int}(hb:sH b)(p:Nat){c:Int}(hc:0≤c∧c≤2):∀k,sH (gB b p c k)
  | 0 => by
    have:=mA c
    exact aCD _ (aCD _ (aCD _ hb (by omega)) (by omega)) (by omega)
  | k+1=>aIJ (aG0 hb p hc k) _ (by omega)
def gS(p:Nat)(n:Nat):List Int:=(List.range n).map fun(i:Nat)=>(p:Int) * 4+(i:Int)
theorem WY(p n:Nat):(gS p n).length=n:=by simp [gS]
theorem aLU(p n:Nat):gS p (n+1)=gS p n ++ [(p:Int) * 4+(n:Int)]:=by simp [gS,List.range_succ]
theorem aG1{p k:Nat}{c:Int}(hp:p < 6)(hk:(k:Int) < cS c):fW ((p:Int) * 4+k) c=(aQD p k c:Int)∧aQD p k c+4≤384:=by
  have h4:=mA c
  have hm:=IH (c:=c) (i:=(k:Int)) (by omega) hk
  have hst:4≤aW c:=by
    have:0≤c∧c≤2:=kX.1 (by omega)
    rcases fK this with e | e | e <;> rw [e] <;> decide
  have e:fW ((p:Int) * 4+k) c=(p:Int) * 64+8+(k:Int) * aW c:=by
    unfold fW
    rw [if_pos ⟨by omega,by omega⟩,show((p:Int) * 4+k) / 4=p by omega,show((p:Int) * 4+k) % 4=k by omega]
  unfold aQD
  rw [e];omega
theorem aFB{p k:Nat}(hp:p < 6)(hk:k < 4):pJ (p:Int) (k:Int)=some ((p:Int) * 4+k)∧JH (p:Int) (k:Int)=some ((p:Int) * 4+k):=by
  have a:0≤(p:Int)∧(p:Int)≤5:=by omega
  have b:0≤(k:Int)∧(k:Int)≤3:=by omega
  have e1:bC ((p:Int) * 4)=(p:Int) * 4:=aS (by omega) (by omega)
  have e2:bC ((p:Int) * 4+k)=(p:Int) * 4+k:=aS (by omega) (by omega)
  constructor
  · unfold pJ sN;rw [bY,bY,bI a,bI b,e1,e2];rfl
  · unfold JH AT;rw [d5,d5,bI a,bI b,e1,e2];rfl
noncomputable section
variable {b:List Int} (hb:b.length=384) {p:Nat} (hp:p < 6) {c:Int} (hc:0≤c∧c≤2)
include hb hp hc
theorem aJ2:loop (xI c (p:Int)) ([],0,gB b p c 0)=some (gS p (cS c).toNat,gB b p c (cS c).toNat):=by
  have h4:=mA c
  refine l9 (cS c).toNat (fun k=>(gS p k,(k:Int),gB b p c k)) _ (fun k hk=>?_) ?_
  · have ho:=aG1 (c:=c) hp (k:=k) (by omega)
    simp only [xI,FC,g9,aJ]
    rw [if_pos (by simp;omega),(aFB hp (by omega)).1]
    simp only [aJ,rT,ho.1]
    rw [OR (by rw [IQ];omega) (by rw [IQ];omega) (by omega)]
    simp only [aJ]
    rw [aU (by rw [WY];simp;omega),aS (by omega) (by omega),aLU];rfl
  · simp only [xI,g9,aJ]
    rw [if_neg (by simp;omega)]
theorem aJ3:loop (DS c (p:Int) (cS c)) ([],0,gB b p c 0)=some (gS p (cS c).toNat,gB b p c (cS c).toNat):=by
  have h4:=mA c
  refine l9 (cS c).toNat (fun k=>(gS p k,(k:Int),gB b p c k)) _ (fun k hk=>?_) ?_
  · have ho:=aG1 (c:=c) hp (k:=k) (by omega)
    simp only [DS,KK]
    rw [if_pos (by simp;omega),(aFB hp (by omega)).2]
    simp only [aJ,wW,ho.1]
    rw [SM (by omega),aJ,QV (by rw [IQ];omega) (by rw [IQ];omega) (by omega)]
    simp only [aJ]
    rw [aU (by rw [WY];simp;omega),aS (by omega) (by omega),aLU];rfl
  · simp only [DS]
    rw [if_neg (by simp;omega)]
end
theorem aIK{h:aE}(hh:UW h){c:Int}(hc:0≤c∧c≤2) :
    (pP h c=some (h,[])∧C0 h c=some (h,[])) ∨
    ∃p,p < 6∧b7 h p < 0∧pP h c=some (⟨gB h.Bytes p c (cS c).toNat,h.Class.set p c⟩,gS p (cS c).toNat)∧C0 h c=some (⟨gB h.Bytes p c (cS c).toNat,h.Class.set p c⟩,gS p (cS c).toNat):=by
  have hs:=hh.1
  have h6:=hs.2.1
  have h384:=hs.1
  have hp4:=mA c
  have hcp:=NN (h:=h) (by omega) (by omega)
  have hne:∀j (hj:j < 6),j < h.Class.findIdx (fun x=>decide (x = -1))→h.Class[j]≠-1:=fun j hj hlt=>by
    have:=List.not_of_lt_findIdx hlt
    simpa using this
  generalize hq:h.Class.findIdx (fun x=>decide (x = -1))=q at hne
  have hq6:q≤6:=by rw [←hq,←h6];exact List.findIdx_le_length
  have s1:∀k (hk:k < q),kJ h c (k:Int)=some (.next ((k+1:Nat):Int)):=fun k hk=>by
    have:=hne k (by omega) hk
    have n:(h.Class[k] != -1)=true:=by simpa using this
    simp only [kJ,FB]
    rw [if_pos (by simp;omega),aX (by omega),aJ,n,if_pos rfl,aS (by omega) (by omega)];rfl
  have s2:∀k (hk:k < q),eC h.Class (-1) (k:Int)=some (.next ((k+1:Nat):Int)):=fun k hk=>by
    have:=hne k (by omega) hk
    have n:((-1:Int) == h.Class[k])=false:=by simpa using fun a=>this a.symm
    simp only [eC]
    rw [if_pos (by simp;omega),aX (by omega),aJ,n,aS (by omega) (by omega)];rfl
  have hm:h.Bytes.length≤maxLen:=by rw [h384];simp [maxLen]
  by_cases h5:q=6
  · left
    have a1:loop (kJ h c) 0=some (Out.brk ()):=l9 q (fun k=>(k:Int)) _ s1 (by simp only [kJ];rw [if_neg (by simp;omega)])
    have a2:loop (eC h.Class (-1)) 0=some (Out.brk ()):=l9 q (fun k=>(k:Int)) _ s2 (by simp only [eC];rw [if_neg (by simp;omega)])
    constructor
    · unfold pP;rw [a1];rfl
    · unfold C0 lS
      rw [a2,hcp,IK hm,i3,bI hh,bI hc];rfl
  · right
    have hq5:q < 6:=by omega
    have he:h.Class[q] = -1:=by
      have:=List.findIdx_getElem (xs:=h.Class) (p:=fun x=>decide (x = -1)) (w:=by rw [hq];omega)
      simp only [hq,decide_eq_true_eq] at this
      exact this
    refine⟨q,hq5,by rw [←aLQ hs hq5,he];omega,?_,?_⟩
    · have a1:loop (kJ h c) 0=some (Out.ret (⟨gB h.Bytes q c (cS c).toNat,h.Class.set q c⟩,gS q (cS c).toNat)):=l9 q (fun k=>(k:Int)) _ s1 (by
        have e0:bC ((q:Int) * 64)=((q * 64:Nat):Int):=by rw [aS (by omega) (by omega)];omega
        have e1:bC (((q * 64:Nat):Int)+1)=((q * 64+1:Nat):Int):=by rw [aS (by omega) (by omega)];omega
        have e2:bC (((q * 64:Nat):Int)+2)=((q * 64+2:Nat):Int):=by rw [aS (by omega) (by omega)];omega
        have n:(h.Class[q] != -1)=false:=by simpa using he
        simp only [kJ,e0,e1,e2,Int.toNat_natCast]
        rw [if_pos (by simp;omega),aX (by omega),aJ,n,if_neg (by simp),aX (by omega),aJ,aX (by simp;omega),aJ,g9,aJ,aX (by simp;omega),aJ]
        have:=aJ2 h384 hq5 hc
        simp only [gB] at this
        rw [this];rfl)
      unfold pP;rw [a1];rfl
    · have a2:loop (eC h.Class (-1)) 0=some (Out.ret (q:Int)):=l9 q (fun k=>(k:Int)) _ s2 (by
        have n:((-1:Int) == h.Class[q])=true:=by rw [he];rfl
        simp only [eC]
        rw [if_pos (by simp;omega),aX (by omega),aJ,n];rfl)
      unfold C0 lS
      rw [a2,hcp,IK hm,i3,bI hh,bI hc]
      have e0:bC ((q:Int) * 64)=((q * 64:Nat):Int):=by rw [aS (by omega) (by omega)];omega
      simp only [aJ,nR,eS,bB,if_false,wK,e0,yE,KL,Int.toNat_natCast]
      rw [bR (by omega),if_neg (by simp),aX (by omega),aJ,aU (by omega),aTB _ _ (by omega)]
      have:=aJ3 h384 hq5 hc
      simp only [gB] at this
      rw [this];rfl
theorem LOk.count{l:aA}(h:LOk l):(eB l).length≤24:=aJ1 24 _ h.2.2.2.2 (fun x hx=>by have:=h.2.2.2.1 x hx;omega)
theorem aFC{m:Mem}(hs:fN m.aE){s:Int}(hc:0≤bK m.aE s):∃h,v7 m s=some h∧DT m s=some h:=by
  unfold v7 DT nF KM lO uV
  rw [wX hs hc,ED hs hc,aJ,aJ,bY,bY,t9,d5]
  have h1:=(CD hc).1
  simp only [bI h1,aJ,eS,bB,if_false]
  by_cases q:1≤nL m.aE s∧nL m.aE s≤6
  · simp only [bI q,eS,bB,if_false];exact⟨_,rfl,rfl⟩
  · simp only [bR q,nE,if_true];exact⟨_,rfl,rfl⟩
theorem DB{l:List aH}{k:Nat}(hk:k < l.length)(t:List Int):(dB (l.set k ⟨l[k].aP++t⟩)).length=(dB l).length+t.length:=by
  rw [DA hk,zJ hk];simp;omega
end Go.Gv
end
noncomputable section
namespace Go.Gv
def bt(b:List Int)(i:Nat):Int:=b.getD i 0
theorem aCE{b:List Int}{i:Nat}(h:i < b.length):b[i]=bt b i:=by
  unfold bt;rw [List.getD_eq_getElem?_getD,List.getElem?_eq_getElem h];rfl
theorem ld4{b:List Int}{a:Nat}(h:a+4≤b.length):ld b a 4=((bt b a * 256+bt b (a+1)) * 256+bt b (a+2)) * 256+bt b (a+3):=by
  unfold ld
  rw [List.drop_eq_getElem_cons (by omega),List.drop_eq_getElem_cons (by omega),List.drop_eq_getElem_cons (by omega),List.drop_eq_getElem_cons (by omega)]
  simp only [List.take_succ_cons,List.take_zero,ldF,List.foldl_cons,List.foldl_nil,aCE (b:=b) (i:=a) (by omega),aCE (b:=b) (i:=a+1) (by omega),aCE (b:=b) (i:=a+1+1) (by omega),aCE (b:=b) (i:=a+1+1+1) (by omega)]
  simp only [Nat.add_assoc,Nat.reduceAdd];omega
theorem IS{b:List Int}{i j:Nat}{v:Int}(hi:i < b.length):bt (b.set i v) j=if j=i then v else bt b j:=by
  unfold bt
  rw [List.getD_eq_getElem?_getD,List.getD_eq_getElem?_getD,List.getElem?_set]
  by_cases h:i=j
  · subst h;simp [hi]
  · have h':¬j=i:=fun q=>h q.symm
    simp [h,h']
theorem yX{b:List Int}{a:Nat}{n:Int}(h:a+4≤b.length)(j:Nat):bt (st4 b a n) j=if j=a+3 then n else if a≤j∧j < a+3 then 0 else bt b j:=by
  unfold st4
  rw [IS (by simp;omega),IS (by simp;omega),IS (by simp;omega),IS (by omega)]
  by_cases h1:j=a+3
  · simp [h1]
  · rw [if_neg h1,if_neg h1]
    by_cases h2:a≤j∧j < a+3
    · rw [if_pos h2]
      by_cases h3:j=a+2
      · simp [h3]
      · rw [if_neg h3]
        by_cases h4:j=a+1
        · simp [h4]
        · rw [if_neg h4,if_pos (by omega)]
    · rw [if_neg h2,if_neg (by omega),if_neg (by omega),if_neg (by omega)]
theorem aJ4{b:List Int}{a:Nat}{n:Int}(h:a+4≤b.length):ld (st4 b a n) a 4=n:=by
  rw [ld4 (by rw [EG];exact h),yX h,yX h,yX h,yX h,if_neg (by omega),if_pos (by omega),if_neg (by omega),if_pos (by omega),if_neg (by omega),if_pos (by omega),if_pos rfl]
  omega
theorem RI{b b':List Int}{a:Nat}(h:a+4≤b.length)(hl:b'.length=b.length)(hs:∀j,a≤j→j < a+4→bt b' j=bt b j):ld b' a 4=ld b a 4:=by
  rw [ld4 (by omega),ld4 h,hs a (by omega) (by omega),hs (a+1) (by omega) (by omega),hs (a+2) (by omega) (by omega),hs (a+3) (by omega) (by omega)]
def Y8(h:aE)(p:Nat):Prop:=
  if b7 h p < 0 then ∀k,k < 64→bt h.Bytes (p * 64+k)=0
  else ((bt h.Bytes (p * 64)=171∧bt h.Bytes (p * 64+1)=b7 h p∧bt h.Bytes (p * 64+2)=cS (b7 h p))∧(∀k,3≤k→k < 8→bt h.Bytes (p * 64+k)=0)∧∀i,i < (cS (b7 h p)).toNat→1≤ld h.Bytes (p * 64+8+i * (aW (b7 h p)).toNat) 4∧ld h.Bytes (p * 64+8+i * (aW (b7 h p)).toNat) 4≤7)
theorem aFD{h:aE}(hs:fN h){p:Nat}(hp:p < 6){k:Nat}(hk:k < 64):(dW h p).getD k 0=bt h.Bytes (p * 64+k):=by
  rw [←aE3 hs hp hk,aCE (by have:=hs.1;omega)]
theorem U5{l:List Int}{x:Int}:x∈l↔∃k,k < l.length∧l.getD k 0=x:=by
  rw [List.mem_iff_getElem]
  constructor
  · rintro⟨k,hk,e⟩
    exact⟨k,hk,by rw [List.getD_eq_getElem?_getD,List.getElem?_eq_getElem hk];exact e⟩
  · rintro⟨k,hk,e⟩
    exact⟨k,hk,by rw [List.getD_eq_getElem?_getD,List.getElem?_eq_getElem hk] at e;exact e⟩
theorem MG{h:aE}(hs:fN h){p:Nat}(hp:p < 6):lZ h p↔Y8 h p:=by
  unfold lZ Y8
  have hl:=IJ hs hp
  split
  · constructor
    · intro q k hk
      rw [←aFD hs hp hk]
      exact q _ (U5.2 ⟨k,by omega,rfl⟩)
    · intro q x hx
      obtain⟨k,hk,rfl⟩:=U5.1 hx
      rw [aFD hs hp (by omega)];exact q k (by omega)
  · rw [aFD hs hp (by omega),aFD hs hp (by omega),aFD hs hp (by omega)]
    have e:(∀x∈((dW h p).drop 3).take 5,x=0)↔∀k,3≤k→k < 8→bt h.Bytes (p * 64+k)=0:=by
      have g:∀j,j < 5→(((dW h p).drop 3).take 5).getD j 0=bt h.Bytes (p * 64+(3+j)):=fun j hj=>by
        rw [←aFD hs hp (by omega),List.getD_eq_getElem?_getD,List.getD_eq_getElem?_getD,List.getElem?_take,if_pos hj,List.getElem?_drop]
      constructor
      · intro q k h3 h8
        have:=q _ (U5.2 ⟨k - 3,by simp [hl];omega,rfl⟩)
        rw [g _ (by omega)] at this
        rw [show 3+(k - 3)=k by omega] at this;exact this
      · intro q x hx
        obtain⟨k,hk,rfl⟩:=U5.1 hx
        simp [hl] at hk
        rw [g _ hk];exact q _ (by omega) (by omega)
    rw [e];rfl
theorem Y8.same{h h':aE}{p:Nat}(hp:p < 6)(hs:fN h)(hl:h'.Bytes.length=h.Bytes.length)(hc:b7 h' p=b7 h p)(hb:∀k,k < 64→bt h'.Bytes (p * 64+k)=bt h.Bytes (p * 64+k))(q:Y8 h p):Y8 h' p:=by
  have h1:=hs.1
  unfold Y8 at q ⊢
  rw [hc]
  split
  · rename_i q0;rw [if_pos q0] at q
    exact fun k hk=>by rw [hb k hk];exact q k hk
  · rename_i q0;rw [if_neg q0] at q
    obtain⟨⟨a1,a2,a3⟩,a4,a5⟩:=q
    have b0:=hb 0 (by omega);have b1:=hb 1 (by omega);have b2:=hb 2 (by omega)
    simp only [Nat.add_zero] at b0
    refine⟨⟨by rw [b0];exact a1,by rw [b1];exact a2,by rw [b2];exact a3⟩,fun k k3 k8=>by rw [hb k (by omega)];exact a4 k k3 k8,fun i hi=>?_⟩
    have hz:=vH hs hp (c:=b7 h p) rfl hi
    rw [RI (b:=h.Bytes) (by omega) hl fun j j1 j2=>by
      have:=hb (j - p * 64) (by omega)
      rw [show p * 64+(j - p * 64)=j by omega] at this;exact this]
    exact a5 i hi
theorem CG{h:aE}{s:Int}(hc:0≤bK h s):∃p i,p < 6∧i < (cS (b7 h p)).toNat∧s=(p:Int) * 4+i∧bK h s=b7 h p∧(fW s (bK h s)).toNat=p * 64+8+i * (aW (b7 h p)).toNat∧(s / 4).toNat=p:=by
  obtain⟨h1,h2,h3⟩:=CD hc
  have hle:=mA (b7 h (s / 4).toNat)
  refine⟨(s / 4).toNat,(s % 4).toNat,by omega,by omega,by omega,h3,?_,rfl⟩
  rw [h3]
  unfold fW
  rw [if_pos ⟨h1,by omega⟩]
  have hst:=(TB (b7 h (s / 4).toNat)).1
  have e:s % 4 * aW (b7 h (s / 4).toNat)=(((s % 4).toNat * (aW (b7 h (s / 4).toNat)).toNat:Nat):Int):=by
    rw [Int.natCast_mul,Int.toNat_of_nonneg (by omega),Int.toNat_of_nonneg hst]
  omega
theorem NO{c:Int}{i j:Nat}(hi:i < (cS c).toNat)(hj:j < (cS c).toNat)(hn:i≠j):i * (aW c).toNat+4≤j * (aW c).toNat∨j * (aW c).toNat+4≤i * (aW c).toNat:=by
  have hc:0≤c∧c≤2:=kX.1 (by omega)
  have h12:12≤(aW c).toNat:=by rcases fK hc with rfl | rfl | rfl <;> decide
  rcases Nat.lt_or_gt_of_ne hn with q | q
  · left
    have:(i+1) * (aW c).toNat≤j * (aW c).toNat:=Nat.mul_le_mul_right _ q
    rw [Nat.add_mul] at this;omega
  · right
    have:(j+1) * (aW c).toNat≤i * (aW c).toNat:=Nat.mul_le_mul_right _ q
    rw [Nat.add_mul] at this;omega
theorem UW.aUZ{h:aE}(hh:UW h){s g:Int}(hc:0≤bK h s)(hg:1≤g∧g≤7) :
    UW ⟨st4 h.Bytes (fW s (bK h s)).toNat g,h.Class⟩∧∀t,0≤bK h t→nL ⟨st4 h.Bytes (fW s (bK h s)).toNat g,h.Class⟩ t=if t=s then g else nL h t:=by
  obtain⟨hs,hp⟩:=hh
  have h384:=hs.1
  have hs':fN ⟨st4 h.Bytes (fW s (bK h s)).toNat g,h.Class⟩:=⟨by rw [EG];exact hs.1,hs.2.1,aIJ hs.2.2.1 _ (by omega),hs.2.2.2⟩
  obtain⟨p,i,p6,hi,es,ec,eo,ep⟩:=CG hc
  have hz:=vH hs p6 rfl hi
  have h4:=mA (b7 h p)
  refine⟨⟨hs',fun q hq=>?_⟩,fun t ht=>?_⟩
  · rw [MG hs' hq]
    have hold:=(MG hs hq).1 (hp q hq)
    by_cases e:q=p
    · subst e
      have hpos:0 < cS (b7 h q):=by omega
      have hcl:¬b7 h q < 0:=by have:=kX.1 hpos;omega
      unfold Y8 at hold ⊢
      have hcl':b7 ⟨st4 h.Bytes (fW s (bK h s)).toNat g,h.Class⟩ q=b7 h q:=rfl
      rw [hcl']
      rw [if_neg hcl] at hold ⊢
      obtain⟨⟨a1,a2,a3⟩,a4,a5⟩:=hold
      have bs:∀k,k < 8→bt (st4 h.Bytes (fW s (bK h s)).toNat g) (q * 64+k)=bt h.Bytes (q * 64+k):=fun k hk=>by
        rw [yX (by omega),if_neg (by omega),if_neg (by omega)]
      have b0:=bs 0 (by omega);have b1:=bs 1 (by omega);have b2:=bs 2 (by omega)
      simp only [Nat.add_zero] at b0
      refine⟨⟨by rw [b0];exact a1,by rw [b1];exact a2,by rw [b2];exact a3⟩,fun k k3 k8=>by rw [bs k k8];exact a4 k k3 k8,fun j hj=>?_⟩
      have hzj:=vH hs p6 rfl hj
      by_cases ej:j=i
      · subst ej
        simp only [eo]
        rw [aJ4 (by omega)];exact hg
      · rw [RI (b:=h.Bytes) (by omega) (by simp only [EG]) fun k k1 k2=>?_]
        · exact a5 j hj
        · simp only [eo]
          have:=NO hi hj (fun q=>ej q.symm)
          rw [yX (by omega),if_neg (by omega),if_neg (by omega)]
    · refine Y8.same hq hs (by simp only [EG]) rfl (fun k hk=>?_) hold
      rw [yX (by omega),if_neg (by omega),if_neg (by omega)]
  · have e2:bK ⟨st4 h.Bytes (fW s (bK h s)).toNat g,h.Class⟩ t=bK h t:=rfl
    unfold nL
    rw [e2]
    by_cases e:t=s
    · subst e;rw [if_pos rfl];simp only;rw [aJ4 (by omega)]
    · rw [if_neg e]
      obtain⟨p',i',p6',hi',es',ec',eo',ep'⟩:=CG ht
      have hz':=vH hs p6' rfl hi'
      rw [RI (b:=h.Bytes) (by omega) (by simp only [EG]) fun k k1 k2=>?_]
      simp only
      by_cases ee:p'=p
      · subst ee
        have:=NO hi hi' (fun q=>e (by rw [es,es',q]))
        rw [yX (by omega),if_neg (by omega),if_neg (by omega)]
      · have h4':=mA (b7 h p')
        rw [yX (by omega),if_neg (by omega),if_neg (by omega)]
theorem ZT{p k:Nat}{c:Int}(hp:p < 6)(hk:(k:Int) < cS c):aQD p k c=p * 64+8+k * (aW c).toNat∧8+k * (aW c).toNat+4≤64:=by
  have hc:0≤c∧c≤2:=kX.1 (by omega)
  have h1:=aG1 (c:=c) hp hk
  have hle:=mA c
  have e:=h1.1
  unfold fW at e
  rw [if_pos (by omega)] at e
  have e1:((p:Int) * 4+k) / 4=p:=by omega
  have e2:((p:Int) * 4+k) % 4=k:=by omega
  rw [e1,e2] at e
  rcases fK hc with rfl | rfl | rfl
  · rw [show aW 0=12 from rfl] at e ⊢
    rw [show cS 0=4 from rfl] at hk
    rw [show(12:Int).toNat=12 from rfl]
    omega
  · rw [show aW 1=20 from rfl] at e ⊢
    rw [show cS 1=2 from rfl] at hk
    rw [show(20:Int).toNat=20 from rfl]
    omega
  · rw [show aW 2=44 from rfl] at e ⊢
    rw [show cS 2=1 from rfl] at hk
    rw [show(44:Int).toNat=44 from rfl]
    omega
theorem aTC{b:List Int}{p:Nat}{c:Int}(hl:b.length=384)(hp:p < 6)(hc:0≤c∧c≤2):∀k:Nat,(k:Int)≤cS c→∀j,(j < p * 64∨p * 64+64≤j→bt (gB b p c k) j=bt b j)∧(3≤j→j < 8→bt (gB b p c k) (p * 64+j)=bt b (p * 64+j))∧bt (gB b p c k) (p * 64)=171∧bt (gB b p c k) (p * 64+1)=c∧bt (gB b p c k) (p * 64+2)=cS c
  | 0, hk, j => by
    have key:∀i,bt (gB b p c 0) i=if i=p * 64+2 then cS c else if i=p * 64+1 then c else if i=p * 64 then 171 else bt b i:=fun i=>by
      unfold gB
      rw [IS (by simp;omega),IS (by simp;omega),IS (by omega)]
    refine⟨fun h=>?_,fun h1 h2=>?_,?_,?_,?_⟩
    · rw [key,if_neg (by omega),if_neg (by omega),if_neg (by omega)]
    · rw [key,if_neg (by omega),if_neg (by omega),if_neg (by omega)]
    · rw [key,if_neg (by omega),if_neg (by omega),if_pos rfl]
    · rw [key,if_neg (by omega),if_pos rfl]
    · rw [key,if_pos rfl]
  | k + 1, hk, j => by
    have ih:=aTC hl hp hc k (by omega)
    have hoff:=ZT (c:=c) hp (by omega:(k:Int) < cS c)
    have hbl:=IQ b p c k
    unfold gB
    refine⟨fun h=>?_,fun h1 h2=>?_,?_,?_,?_⟩
    · rw [yX (by omega),if_neg (by omega),if_neg (by omega)];exact(ih j).1 h
    · rw [yX (by omega),if_neg (by omega),if_neg (by omega)];exact(ih j).2.1 h1 h2
    · rw [yX (by omega),if_neg (by omega),if_neg (by omega)];exact(ih j).2.2.1
    · rw [yX (by omega),if_neg (by omega),if_neg (by omega)];exact(ih j).2.2.2.1
    · rw [yX (by omega),if_neg (by omega),if_neg (by omega)];exact(ih j).2.2.2.2
theorem aQE{b:List Int}{p:Nat}{c:Int}(hl:b.length=384)(hp:p < 6):∀k:Nat,(k:Int)≤cS c→∀i,i < k→ld (gB b p c k) (p * 64+8+i * (aW c).toNat) 4=1
  | 0,_,i,h=>absurd h (by omega)
  | k + 1, hk, i, h => by
    have hbl:=IQ b p c k
    have ho:=ZT (c:=c) hp (by omega:(k:Int) < cS c)
    unfold gB
    by_cases e:i=k
    · subst e;rw [←ho.1];exact aJ4 (by omega)
    · have hoi:=ZT (c:=c) hp (by omega:(i:Int) < cS c)
      have ha:=NO (c:=c) (i:=i) (j:=k) (by omega) (by omega) e
      rw [RI (b:=gB b p c k) (by omega) (by rw [EG]) fun j j1 j2=>by rw [yX (by omega),if_neg (by omega),if_neg (by omega)]]
      exact aQE hl hp k (by omega) i (by omega)
theorem U6{h:aE}(hs:fN h){B:List Int}{p q:Nat}(hq:q < 6){c:Int}:b7 ⟨B,h.Class.set p c⟩ q=if q=p then c else b7 h q:=by
  have h6:=hs.2.1
  unfold b7
  rw [List.getD_eq_getElem?_getD,List.getD_eq_getElem?_getD,List.getElem?_set]
  by_cases e:p=q
  · subst e;simp [h6,hq]
  · have e':¬q=p:=fun z=>e z.symm
    simp [e,e']
theorem UW.aWV{h:aE}(hh:UW h){p:Nat}(hp:p < 6)(hun:b7 h p < 0){c:Int}(hc:0≤c∧c≤2) :
    UW ⟨gB h.Bytes p c (cS c).toNat,h.Class.set p c⟩∧(∀t,(t / 4).toNat≠p→bK ⟨gB h.Bytes p c (cS c).toNat,h.Class.set p c⟩ t=bK h t)∧(∀t,0≤bK h t→(t / 4).toNat≠p∧nL ⟨gB h.Bytes p c (cS c).toNat,h.Class.set p c⟩ t=nL h t) ∧
      ∀i,i < (cS c).toNat→bK ⟨gB h.Bytes p c (cS c).toNat,h.Class.set p c⟩ ((p:Int) * 4+i)=c∧nL ⟨gB h.Bytes p c (cS c).toNat,h.Class.set p c⟩ ((p:Int) * 4+i)=1:=by
  obtain⟨hs,hpg⟩:=hh
  have h384:=hs.1
  have hle:=mA c
  have hpn:((cS c).toNat:Int)≤cS c:=by omega
  have hb:=aTC h384 hp hc (cS c).toNat hpn
  have hbl:=IQ h.Bytes p c (cS c).toNat
  have hs':fN ⟨gB h.Bytes p c (cS c).toNat,h.Class.set p c⟩:=⟨by simp only [hbl];exact h384,by simp only [List.length_set];exact hs.2.1,aG0 hs.2.2.1 p hc _,fun x hx=>by
    rcases List.mem_or_eq_of_mem_set hx with q | rfl
    · exact hs.2.2.2 x q
    · omega⟩
  have hcls:∀t:Int,(t / 4).toNat≠p→bK ⟨gB h.Bytes p c (cS c).toNat,h.Class.set p c⟩ t=bK h t:=fun t ht=>by
    unfold bK
    by_cases q:0≤t∧t≤23
    · rw [U6 hs (by omega),if_neg ht]
    · rw [if_neg (fun z=>q z.1),if_neg (fun z=>q z.1)]
  refine⟨⟨hs',fun q hq=>?_⟩,hcls,fun t ht=>?_,fun i hi=>?_⟩
  · rw [MG hs' hq]
    have hold:=(MG hs hq).1 (hpg q hq)
    by_cases e:q=p
    · subst e
      unfold Y8 at hold ⊢
      rw [if_pos hun] at hold
      rw [U6 hs hq,if_pos rfl,if_neg (by omega)]
      refine⟨(hb 0).2.2,fun k k3 k8=>?_,fun i hi=>?_⟩
      · simp only;rw [(hb k).2.1 k3 k8];exact hold k (by omega)
      · simp only;rw [aQE h384 hp _ hpn i hi];omega
    · refine Y8.same hq hs (by simp only [hbl]) (by rw [U6 hs hq,if_neg e]) (fun k hk=>?_) hold
      exact(hb _).1 (by omega)
  · obtain⟨p',i',p6',hi',es',ec',eo',ep'⟩:=CG ht
    have hne:(t / 4).toNat≠p:=fun z=>by rw [ec',←ep',z] at ht;omega
    refine⟨hne,?_⟩
    have hz':=vH hs p6' rfl hi'
    unfold nL
    rw [hcls t hne,RI (b:=h.Bytes) (by omega) (by simp only [hbl]) fun k k1 k2=>(hb k).1 (by omega)]
  · have e1:((p:Int) * 4+i) / 4=p:=by omega
    have e2:((p:Int) * 4+i) % 4=i:=by omega
    have ec:bK ⟨gB h.Bytes p c (cS c).toNat,h.Class.set p c⟩ ((p:Int) * 4+i)=c:=by
      unfold bK
      rw [e1,e2,Int.toNat_natCast,U6 hs hp,if_pos rfl,if_pos (by omega)]
    refine⟨ec,?_⟩
    unfold nL
    rw [ec]
    have ho:=ZT (c:=c) hp (by omega:(i:Int) < cS c)
    have:(fW ((p:Int) * 4+i) c).toNat=p * 64+8+i * (aW c).toNat:=ho.1
    rw [this]
    exact aQE h384 hp _ hpn i hi
def vN(m m':Mem)(k:Int):Prop:=pI m'∧∀s,jX m s=3→s≠k→jX m' s=3∧nL m'.aE s=nL m.aE s∧bK m'.aE s=bK m.aE s
theorem vN.refl{m:Mem}(h:pI m)(k:Int):vN m m k:=⟨h,fun _ h _=>⟨h,rfl,rfl⟩⟩
theorem vN.live{m m':Mem}{k h:Int}(q:vN m m' k)(hl:vM m h)(hn:h % 32≠k):vM m' h:=by
  obtain⟨h1,h2,h3⟩:=hl
  obtain⟨a,b,_⟩:=q.2 _ h2 hn
  exact⟨h1,a,by rw [b];exact h3⟩
theorem KB{l:List aH}{k j:Nat}(hk:k < l.length){t:aH}:kD (l.set k t) j=if j=k then t.aP else kD l j:=by
  unfold kD
  rw [List.getD_eq_getElem?_getD,List.getD_eq_getElem?_getD,List.getElem?_set]
  by_cases e:k=j
  · subst e;simp [hk]
  · have e':¬j=k:=fun z=>e z.symm
    simp [e,e']
theorem aFE{l:List aH}{k:Nat}(hk:k < l.length){t:aH}(ht:t.aP.Sublist l[k].aP):(dB (l.set k t)).Sublist (dB l):=by
  rw [DA hk,zJ hk]
  exact(List.Sublist.refl _).append (ht.append (List.Sublist.refl _))
theorem U7{l:List aH}{k:Nat}(hk:k < l.length){xs:List Int}{s:Int}:s∈dB (l.set k ⟨l[k].aP++xs⟩)↔s∈dB l∨s∈xs:=by
  rw [DA hk,zJ hk]
  simp only [List.mem_append]
  constructor
  · rintro(h | (h | h) | h)
    · exact .inl (.inl h)
    · exact .inl (.inr (.inl h))
    · exact .inr h
    · exact .inl (.inr (.inr h))
  · rintro((h | h | h) | h)
    · exact .inl h
    · exact .inr (.inl (.inl h))
    · exact .inr (.inr h)
    · exact .inr (.inl (.inr h))
theorem QW{l:List aH}{k:Nat}(hk:k < l.length){xs r q:List Int}(h:(q++(dB l++r)).Nodup)(hx:xs.Nodup)(hd:∀x∈xs,x∉q++(dB l++r)):(q++(dB (l.set k ⟨l[k].aP++xs⟩)++r)).Nodup:=by
  have hp:(q++(dB (l.set k ⟨l[k].aP++xs⟩)++r)).Perm (xs++(q++(dB l++r))):=by
    rw [DA hk,zJ hk]
    have e1:q++(dB (l.take k)++(l[k].aP++xs++dB (l.drop (k+1)))++r)=(q++dB (l.take k)++l[k].aP)++(xs++(dB (l.drop (k+1))++r)):=by simp
    have e2:xs++(q++(dB (l.take k)++(l[k].aP++dB (l.drop (k+1)))++r))=xs++((q++dB (l.take k)++l[k].aP)++(dB (l.drop (k+1))++r)):=by simp
    rw [e1,e2]
    exact List.perm_append_comm_assoc _ _ _
  rw [hp.nodup_iff,List.nodup_append]
  exact⟨hx,h,fun a ha b hb e=>hd a ha (e ▸ hb)⟩
theorem rJ{m:Mem}{s:Int}:jX m s=3↔0≤bK m.aE s∧s∉eB m.aA∧nL m.aE s≤6:=by
  unfold jX
  constructor
  · intro h
    split at h
    · omega
    · split at h
      · omega
      · split at h
        · omega
        · exact⟨by omega,by assumption,by omega⟩
  · rintro⟨a,b,c⟩
    rw [if_neg (by omega),if_neg b,if_neg (by omega)]
noncomputable section
variable {m:Mem} (hm:pI m)
include hm
theorem pI.aU0{k:Nat}(hk:k < 9){t:aH}(ht:t.aP.Sublist (kD m.aA.bJ k)):vN m ⟨m.aE,⟨m.aA.Global,m.aA.bJ.set k t⟩⟩ (-1):=by
  obtain⟨⟨hh,h3,h9,h2,hr,hn⟩,hg,ho⟩:=hm
  have hk':k < m.aA.bJ.length:=by omega
  have ht':t.aP.Sublist m.aA.bJ[k].aP:=by rw [f8 hk'];exact ht
  have hsub:(eB ⟨m.aA.Global,m.aA.bJ.set k t⟩).Sublist (eB m.aA):=(List.Sublist.refl _).append (aFE hk' ht')
  refine⟨⟨⟨hh,h3,by simpa using h9,fun s hs=>?_,fun x hx=>hr x (hsub.subset hx),hsub.nodup hn⟩,hg,fun j hj=>?_⟩,fun s hs _=>⟨?_,rfl,rfl⟩⟩
  · rcases List.mem_or_eq_of_mem_set hs with q | rfl
    · exact h2 s q
    · have:=ht'.length_le;have:=h2 _ (List.getElem_mem hk');omega
  · unfold CF
    simp only [KB hk']
    split
    · rename_i e;subst e
      exact fun x hx=>ho j hj x (ht.subset hx)
    · exact ho j hj
  · rw [rJ] at hs ⊢
    exact⟨hs.1,fun q=>hs.2.1 (hsub.subset q),hs.2.2⟩
theorem pI.aMS{k:Nat}(hk:k < 3){t:aH}(ht:t.aP.Sublist (kD m.aA.Global k)):vN m ⟨m.aE,⟨m.aA.Global.set k t,m.aA.bJ⟩⟩ (-1):=by
  obtain⟨⟨hh,h3,h9,h2,hr,hn⟩,hg,ho⟩:=hm
  have hk':k < m.aA.Global.length:=by omega
  have ht':t.aP.Sublist m.aA.Global[k].aP:=by rw [f8 hk'];exact ht
  have hsub:(eB ⟨m.aA.Global.set k t,m.aA.bJ⟩).Sublist (eB m.aA):=(aFE hk' ht').append (List.Sublist.refl _)
  refine⟨⟨⟨hh,by simpa using h3,h9,h2,fun x hx=>hr x (hsub.subset hx),hsub.nodup hn⟩,fun j hj=>?_,ho⟩,fun s hs _=>⟨?_,rfl,rfl⟩⟩
  · unfold I0
    simp only [KB hk']
    split
    · rename_i e;subst e
      exact fun x hx=>hg j hj x (ht.subset hx)
    · exact hg j hj
  · rw [rJ] at hs ⊢
    exact⟨hs.1,fun q=>hs.2.1 (hsub.subset q),hs.2.2⟩
theorem pI.aSC{k:Nat}(hk:k < 9){xs:List Int}(hl:(kD m.aA.bJ k).length+xs.length≤2)(hx:xs.Nodup)(hf:CE m.aE xs ((k % 3:Nat):Int))(hd:∀x∈xs,x∉eB m.aA)(hk':k < m.aA.bJ.length) :
    pI ⟨m.aE,⟨m.aA.Global,m.aA.bJ.set k ⟨m.aA.bJ[k].aP++xs⟩⟩⟩∧∀s,s∉xs→jX m s=3→jX ⟨m.aE,⟨m.aA.Global,m.aA.bJ.set k ⟨m.aA.bJ[k].aP++xs⟩⟩⟩ s=3:=by
  obtain⟨⟨hh,h3,h9,h2,hr,hn⟩,hg,ho⟩:=hm
  have hmem:∀s,s∈eB ⟨m.aA.Global,m.aA.bJ.set k ⟨m.aA.bJ[k].aP++xs⟩⟩↔s∈eB m.aA∨s∈xs:=fun s=>by
    unfold eB;simp only [List.mem_append,U7 hk'];rw [or_assoc]
  have hcl:∀x∈xs,0≤x∧x≤23:=fun x h=>by
    have:=(hf x h).1
    exact(CD (h:=m.aE) (s:=x) (by omega)).1
  refine⟨⟨⟨hh,h3,by simpa using h9,fun s hs=>?_,fun x hx=>?_,?_⟩,hg,fun j hj=>?_⟩,fun s hs h3=>?_⟩
  · rcases List.mem_or_eq_of_mem_set hs with q | rfl
    · exact h2 s q
    · rw [←f8 hk'] at hl;simpa using hl
  · rcases(hmem x).1 hx with q | q
    · exact hr x q
    · exact hcl x q
  · have:=QW (q:=dB m.aA.Global) (r:=[]) hk' (by simpa [eB] using hn) hx (by simpa [eB] using hd)
    simpa [eB] using this
  · unfold CF
    simp only [KB hk']
    split
    · rename_i e;subst e
      intro x hx
      rcases List.mem_append.1 hx with q | q
      · rw [f8 hk'] at q;exact ho j hj x q
      · exact hf x q
    · exact ho j hj
  · rw [rJ] at h3 ⊢
    exact⟨h3.1,fun q=>(((hmem s).1 q).elim h3.2.1 hs),h3.2.2⟩
theorem pI.aCF{k:Nat}(hk:k < 3){xs:List Int}(hx:xs.Nodup)(hf:CE m.aE xs (k:Int))(hd:∀x∈xs,x∉eB m.aA)(hk':k < m.aA.Global.length) :
    pI ⟨m.aE,⟨m.aA.Global.set k ⟨m.aA.Global[k].aP++xs⟩,m.aA.bJ⟩⟩∧∀s,s∉xs→jX m s=3→jX ⟨m.aE,⟨m.aA.Global.set k ⟨m.aA.Global[k].aP++xs⟩,m.aA.bJ⟩⟩ s=3:=by
  obtain⟨⟨hh,h3,h9,h2,hr,hn⟩,hg,ho⟩:=hm
  have hmem:∀s,s∈eB ⟨m.aA.Global.set k ⟨m.aA.Global[k].aP++xs⟩,m.aA.bJ⟩↔s∈eB m.aA∨s∈xs:=fun s=>by
    unfold eB;simp only [List.mem_append,U7 hk'];rw [or_right_comm]
  have hcl:∀x∈xs,0≤x∧x≤23:=fun x h=>by
    have:=(hf x h).1
    exact(CD (h:=m.aE) (s:=x) (by omega)).1
  refine⟨⟨⟨hh,by simpa using h3,h9,h2,fun x hx=>?_,?_⟩,fun j hj=>?_,ho⟩,fun s hs h3=>?_⟩
  · rcases(hmem x).1 hx with q | q
    · exact hr x q
    · exact hcl x q
  · have:=QW (q:=[]) (r:=dB m.aA.bJ) hk' (by simpa [eB] using hn) hx (by simpa [eB] using hd)
    simpa [eB] using this
  · unfold I0
    simp only [KB hk']
    split
    · rename_i e;subst e
      intro x hx
      rcases List.mem_append.1 hx with q | q
      · rw [f8 hk'] at q;exact hg j hj x q
      · exact hf x q
    · exact hg j hj
  · rw [rJ] at h3 ⊢
    exact⟨h3.1,fun q=>(((hmem s).1 q).elim h3.2.1 hs),h3.2.2⟩
theorem pI.QX{x:Int}(hx:x∈eB m.aA):0≤bK m.aE x∧nL m.aE x≤6:=by
  obtain⟨⟨hh,h3,h9,h2,hr,hn⟩,hg,ho⟩:=hm
  have key:∀(l:List aH),x∈dB l→∃k,k < l.length∧x∈kD l k:=fun l h=>by
    obtain⟨s,h1,h2⟩:=RH.1 h
    obtain⟨k,hk,rfl⟩:=List.mem_iff_getElem.1 h1
    exact⟨k,hk,by rw [←f8 hk];exact h2⟩
  rcases List.mem_append.1 hx with q | q
  · obtain⟨k,hk,h⟩:=key _ q
    have:=hg k (by omega) x h
    exact⟨by omega,this.2⟩
  · obtain⟨k,hk,h⟩:=key _ q
    have:=ho k (by omega) x h
    exact⟨by omega,this.2⟩
theorem pI.heap{h':aE}(hh:UW h')(hs:∀x∈eB m.aA,bK h' x=bK m.aE x∧nL h' x=nL m.aE x):pI ⟨h',m.aA⟩:=by
  obtain⟨⟨_,hl⟩,hg,ho⟩:=hm
  have key:∀(l:List aH) k x,x∈kD l k→x∈dB l:=fun l k x h=>by
    unfold kD at h
    rw [List.getD_eq_getElem?_getD] at h
    cases hk:l[k]? with
    | none=>rw [hk] at h;simp at h
    | some s=>rw [hk] at h;exact RH.2 ⟨s,List.mem_of_getElem? hk,h⟩
  refine⟨⟨hh,hl⟩,fun k hk x hx=>?_,fun k hk x hx=>?_⟩
  · obtain⟨a,b⟩:=hs x (List.mem_append_left _ (key _ k x hx))
    show bK h' x=_∧nL h' x≤6
    rw [a,b];exact hg k hk x hx
  · obtain⟨a,b⟩:=hs x (List.mem_append_right _ (key _ k x hx))
    show bK h' x=_∧nL h' x≤6
    rw [a,b];exact ho k hk x hx
theorem pI.aX8{s g:Int}(hu:jX m s=3)(hg:1≤g∧g≤7):vN m ⟨⟨st4 m.aE.Bytes (fW s (bK m.aE s)).toNat g,m.aE.Class⟩,m.aA⟩ s∧nL ⟨st4 m.aE.Bytes (fW s (bK m.aE s)).toNat g,m.aE.Class⟩ s=g:=by
  have hu':=rJ.1 hu
  obtain⟨a,b⟩:=UW.aUZ hm.1.1 hu'.1 hg
  refine⟨⟨pI.heap hm a fun x hx=>⟨rfl,?_⟩,fun t ht hn=>?_⟩,by rw [b s hu'.1,if_pos rfl]⟩
  · rw [b x (pI.QX hm hx).1,if_neg (show ¬x=s from fun e=>hu'.2.1 (e ▸ hx))]
  · have ht':=rJ.1 ht
    have e:nL ⟨st4 m.aE.Bytes (fW s (bK m.aE s)).toNat g,m.aE.Class⟩ t=nL m.aE t:=by rw [b t ht'.1,if_neg hn]
    exact⟨rJ.2 ⟨ht'.1,ht'.2.1,by simp only [e];exact ht'.2.2⟩,e,rfl⟩
theorem pI.aLV{p:Nat}(hp:p < 6)(hun:b7 m.aE p < 0){c:Int}(hc:0≤c∧c≤2){xs:List Int}(hxs:∀x∈xs,∃i,i < (cS c).toNat∧x=(p:Int) * 4+(i:Nat))(hx:xs.Nodup)(hk':c.toNat < m.aA.Global.length) :
    vN m ⟨⟨gB m.aE.Bytes p c (cS c).toNat,m.aE.Class.set p c⟩,⟨m.aA.Global.set c.toNat ⟨m.aA.Global[c.toNat].aP++xs⟩,m.aA.bJ⟩⟩ (-1):=by
  obtain⟨a,b,d,e⟩:=UW.aWV hm.1.1 hp hun hc
  have h1:pI ⟨⟨gB m.aE.Bytes p c (cS c).toNat,m.aE.Class.set p c⟩,m.aA⟩:=pI.heap hm a fun x hx=>by
    obtain⟨q,r⟩:=d x (pI.QX hm hx).1
    exact⟨b x q,r⟩
  have hno:∀x∈xs,¬0≤bK m.aE x:=fun x h q=>by
    obtain⟨i,hi,rfl⟩:=hxs x h
    have h4:=mA c
    exact(d _ q).1 (by omega)
  obtain⟨f,g⟩:=pI.aCF h1 (k:=c.toNat) (by omega) hx (fun x h=>by
    obtain⟨i,hi,rfl⟩:=hxs x h
    have:=e i hi
    exact⟨by simp only [this.1];omega,by simp only [this.2];omega⟩) (fun x h q=>hno x h (pI.QX hm q).1) hk'
  refine⟨f,fun s hs _=>?_⟩
  have hs':=rJ.1 hs
  obtain⟨q,r⟩:=d s hs'.1
  have h2:jX ⟨⟨gB m.aE.Bytes p c (cS c).toNat,m.aE.Class.set p c⟩,m.aA⟩ s=3:=rJ.2 ⟨by simp only [b s q];exact hs'.1,hs'.2.1,by simp only [r];exact hs'.2.2⟩
  exact⟨g s (fun h=>hno s h hs'.1) h2,r,b s q⟩
end
end Go.Gv
end
noncomputable section
namespace Go.Gv
theorem aU1{p n:Nat}{x:Int}(h:x∈gS p n):∃i,i < n∧x=(p:Int) * 4+(i:Nat):=by
  simp only [gS,List.mem_map,List.mem_range] at h
  obtain⟨i,h1,h2⟩:=h
  exact⟨i,h1,h2.symm⟩
theorem aQF(p n:Nat):(gS p n).Nodup:=by
  unfold gS
  rw [List.Nodup,List.pairwise_map]
  exact List.Pairwise.imp (fun h e=>h (by omega)) (List.nodup_range (n:=n))
theorem aIL{m:Mem}(hm:pI m){c:Int}(hc:0≤c∧c≤2) :
    ∃m' s,zZ m c=some (m',s)∧GO m c=some (m',s)∧nM m'∧(0≤s→fN m'.aE∧0≤bK m'.aE s)∧vN m m' (-1):=by
  have hl:=hm.1.2
  have hcnt:=hl.count
  have hs:=hm.1.1.1
  have hsl:=hl.UY (by omega)
  have hp4:=mA c
  have hpp:0 < cS c:=kX.2 hc
  have hall:=gU m.aA
  have hsG:∀s∈m.aA.Global,s.aP.length≤24:=fun s h=>by have:=uA h;omega
  have hsO:∀s∈m.aA.bJ,s.aP.length≤24:=fun s h=>by have:=uA h;omega
  have h3:=hl.1
  have h9:=hl.2.1
  have hcpl:=LC (l:=m.aA) (by omega) (by omega) (fun s h=>by have:=hsG s h;omega) (fun s h=>by have:=hsO s h;omega)
  unfold zZ GO
  rcases aIK hm.1.1 hc with ⟨e1,e2⟩ | ⟨p,hp,hun,e1,e2⟩
  · rw [e1,e2,hcpl]
    have h1:=hs.1;have h2:=hs.2.1
    exact⟨_,_,rfl,rfl,⟨by simp only;omega,by simp only;omega,by simp only;omega,by simp only;omega,by simp only;omega⟩,fun h=>absurd h (by omega),vN.refl hm _⟩
  · rw [e1,e2,hcpl]
    simp only [aJ,FI,FH,FD,WY]
    have hn:(((cS c).toNat:Int) == 0)=false:=by simpa using (by omega:¬((cS c).toNat:Int)=0)
    have hk:c.toNat < m.aA.Global.length:=by omega
    have hg0:=hsG _ (List.getElem_mem hk)
    have hx:idx m.aA.Global c=some m.aA.Global[c.toNat]:=iT hc.1 (by omega)
    have hz:idx (gS p (cS c).toNat) 0=some ((p:Int) * 4):=by
      have:=aX (l:=gS p (cS c).toNat) (k:=0) (by rw [WY];omega)
      rw [show((0:Nat):Int)=0 from rfl] at this
      rw [this];simp [gS]
    have hlen:(List.drop (1:Int).toNat (List.take (cS c).toNat (gS p (cS c).toNat))).length≤4:=by simp [WY];omega
    simp only [hn,bB,if_false,hx,aJ,hz]
    rw [aU (by omega),aU (by omega)]
    have hcl:b7 ⟨gB m.aE.Bytes p c (cS c).toNat,m.aE.Class.set p c⟩ p=c:=by
      have h6:=hs.2.1
      unfold b7;simp [List.getD_eq_getElem?_getD,List.getElem?_set,h6,hp]
    refine⟨_,_,rfl,rfl,⟨by simp only [IQ];have:=hs.1;omega,by simp only [List.length_set];have:=hs.2.1;omega,by simp only [List.length_set];omega,by simp only;omega,?_⟩,fun _=>⟨⟨by simp only [IQ];exact hs.1,by simp only [List.length_set];exact hs.2.1,aG0 hs.2.2.1 p hc _,fun x hx=>?_⟩,?_⟩,?_⟩
    · rw [gU];simp only [DB hk];omega
    · rcases List.mem_or_eq_of_mem_set hx with h | rfl
      · exact hs.2.2.2 x h
      · omega
    · unfold bK
      have e4:((p:Int) * 4 / 4).toNat=p:=by omega
      rw [e4]
      simp only [hcl]
      rw [if_pos ⟨by omega,by omega⟩];exact hc.1
    · exact pI.aLV hm hp hun hc (fun x hx=>aU1 (List.mem_of_mem_take (List.mem_of_mem_drop hx))) ((aQF p _).sublist ((List.drop_sublist _ _).trans (List.take_sublist _ _))) hk
theorem aCG(n:Int):∃c,zY n=some c∧GM n=some c∧(c = -1∨(0≤c∧c≤2)):=by
  have s1:∀k,0≤k∧k≤2→iW n k=some (if 1≤n∧n≤gN k then .stop (Out.ret k) else .next (k+1)):=fun k hk=>by
    simp only [iW]
    rw [if_pos (by simp;omega),CA,aJ,bY,aJ,aS (by omega) (by omega)]
    by_cases q:1≤n∧n≤gN k
    · rw [bI q,if_pos rfl,if_pos q]
    · rw [bR q,if_neg (by simp),if_neg q]
  have s2:∀k,0≤k∧k≤2→iZ n k=some (if 1≤n∧n≤gN k then .stop (Out.ret k) else .next (k+1)):=fun k hk=>by
    simp only [iZ,xS]
    rw [if_pos (by simp;omega),QG,aJ,aS (by omega) (by omega)]
    by_cases q1:1≤n
    · by_cases q2:n≤gN k <;> simp [q1,q2]
    · simp [q1]
  have st:∀k,0≤k∧k≤2→1≤n∧n≤gN k→loop (iW n) k=some (Out.ret k)∧loop (iZ n) k=some (Out.ret k):=fun k hk h=>
    ⟨cT (by rw [s1 k hk,if_pos h]),cT (by rw [s2 k hk,if_pos h])⟩
  have nx:∀k,0≤k∧k≤2→¬(1≤n∧n≤gN k)→loop (iW n) k=loop (iW n) (k+1)∧loop (iZ n) k=loop (iZ n) (k+1):=fun k hk h=>
    ⟨cR (by rw [s1 k hk,if_neg h]),cR (by rw [s2 k hk,if_neg h])⟩
  unfold zY GM
  by_cases q0:1≤n∧n≤gN 0
  · have:=st 0 (by omega) q0
    rw [this.1,this.2];exact⟨_,rfl,rfl,.inr (by omega)⟩
  · have h0:=nx 0 (by omega) q0
    rw [h0.1,h0.2,show(0:Int)+1=1 from rfl]
    by_cases q1:1≤n∧n≤gN 1
    · have:=st 1 (by omega) q1
      rw [this.1,this.2];exact⟨_,rfl,rfl,.inr (by omega)⟩
    · have h1:=nx 1 (by omega) q1
      rw [h1.1,h1.2,show(1:Int)+1=2 from rfl]
      by_cases q2:1≤n∧n≤gN 2
      · have:=st 2 (by omega) q2
        rw [this.1,this.2];exact⟨_,rfl,rfl,.inr (by omega)⟩
      · have h2:=nx 2 (by omega) q2
        rw [h2.1,h2.2,show(2:Int)+1=3 from rfl,cT (body:=iW n) (r:=Out.brk ()) (by simp [iW]),cT (body:=iZ n) (r:=Out.brk ()) (by simp [iZ])]
        exact⟨_,rfl,rfl,.inl rfl⟩
theorem aQG{s:aH}(hl:s.aP.length≤1048576):∃t x,pQ s=some (t,x)∧tM s=some (x,t)∧t.aP.length≤s.aP.length∧(0≤x→x∈s.aP)∧t.aP.Sublist s.aP:=by
  unfold pQ tM KH
  rw [aS (by omega) (by omega)]
  by_cases q:s.aP.length=0
  · rw [if_pos (by simpa using q),if_pos (by simp;omega)]
    exact⟨_,_,rfl,rfl,Nat.le_refl _,fun h=>absurd h (by omega),List.Sublist.refl _⟩
  · have hx:idx s.aP ((s.aP.length:Int) - 1)=some (s.aP[s.aP.length - 1]'(by omega)):=by
      rw [show((s.aP.length:Int) - 1)=((s.aP.length - 1:Nat):Int) by omega,aX (by omega)]
    rw [if_neg (by simpa using q),if_neg (by simp;omega),aU (by omega),hx]
    simp only [aJ]
    rw [aU (by omega)]
    exact⟨_,_,rfl,rfl,by simp,fun _=>List.getElem_mem _,(List.drop_sublist _ _).trans (List.take_sublist _ _)⟩
theorem MH{w c:Int}(hw:0≤w∧w≤2)(hc:0≤c∧c≤2):lV w c=some (w * 3+c)∧HT w c=some (w * 3+c):=by
  have e:bC (bC (w * 3)+c)=w * 3+c:=by rw [aS (x:=w * 3) (by omega) (by omega),aS (by omega) (by omega)]
  constructor
  · unfold lV rL;rw [bY,bY,bI hw,bI hc,e];rfl
  · unfold HT DQ;rw [i5,i3,bI hw,bI hc,e];rfl
theorem aCH{l:List aH}{k:Nat}(hk:k < l.length){t:aH}(ht:t.aP.length≤l[k].aP.length):(dB (l.set k t)).length≤(dB l).length:=by
  rw [DA hk,zJ hk];simp;omega
noncomputable section
variable {m:Mem} (hm:pI m)
include hm
theorem pI.facts:(eB m.aA).length≤24∧m.aA.Global.length=3∧m.aA.bJ.length=9∧m.aE.Bytes.length=384∧m.aE.Class.length=6∧nM m∧gR m.aA=some m.aA∧jI m.aA=some true ∧
    (∀s∈m.aA.Global,s.aP.length≤24)∧(∀s∈m.aA.bJ,s.aP.length≤24):=by
  have hl:=hm.1.2
  have hcnt:=hl.count
  have hall:=gU m.aA
  have hsG:∀s∈m.aA.Global,s.aP.length≤24:=fun s h=>by have:=uA h;omega
  have hsO:∀s∈m.aA.bJ,s.aP.length≤24:=fun s h=>by have:=uA h;omega
  have h3:=hl.1;have h9:=hl.2.1
  have h1:=hm.1.1.1.1;have h2:=hm.1.1.1.2.1
  refine⟨hcnt,h3,h9,h1,h2,⟨by omega,by omega,by omega,by omega,by omega⟩,LC (by omega) (by omega) (fun s h=>by have:=hsG s h;omega) (fun s h=>by have:=hsO s h;omega),by rw [OO (by omega),bI hl],hsG,hsO⟩
theorem aCI{w c:Int}(hw:0≤w∧w≤2)(hc:0≤c∧c≤2) :
    ∃l t x,idx m.aA.bJ (w * 3+c)=some l∧pQ l=some (t,x)∧GN m.aA w c=some (⟨m.aA.Global,m.aA.bJ.set (w * 3+c).toNat t⟩,x) ∧
      nM ⟨m.aE,⟨m.aA.Global,m.aA.bJ.set (w * 3+c).toNat t⟩⟩∧(0≤x→0≤bK m.aE x)∧vN m ⟨m.aE,⟨m.aA.Global,m.aA.bJ.set (w * 3+c).toNat t⟩⟩ (-1):=by
  obtain⟨hcnt,h3,h9,h1,h2,hsm,hcp,hlo,hsG,hsO⟩:=pI.facts hm
  have hk:(w * 3+c).toNat < m.aA.bJ.length:=by omega
  have hx:idx m.aA.bJ (w * 3+c)=some m.aA.bJ[(w * 3+c).toNat]:=iT (by omega) (by omega)
  have h24:=hsO _ (List.getElem_mem hk)
  obtain⟨t,x,e1,e2,ht,hmem,hsub⟩:=aQG (s:=m.aA.bJ[(w * 3+c).toNat]) (by omega)
  have hall:=gU m.aA
  refine⟨_,t,x,hx,e1,?_,⟨by simp only;omega,by simp only;omega,by simp only;omega,by simp only [List.length_set];omega,?_⟩,fun h0=>?_,pI.aU0 hm (by omega) (by rw [←f8 hk];exact hsub)⟩
  · unfold GN xT
    rw [hcp,(MH hw hc).2,hlo]
    simp only [aJ,eS,bB,if_false]
    rw [bR (by omega),if_neg (by simp),hx,aJ,e2];rfl
  · have:=aCH hk ht
    rw [gU];simp only;omega
  · have:=hm.2.2 (w * 3+c).toNat (by omega) x (by rw [←f8 hk];exact hmem h0)
    omega
theorem SN{c:Int}(hc:0≤c∧c≤2) :
    ∃l t x,idx m.aA.Global c=some l∧pQ l=some (t,x)∧xU m.aA c=some (⟨m.aA.Global.set c.toNat t,m.aA.bJ⟩,x) ∧
      nM ⟨m.aE,⟨m.aA.Global.set c.toNat t,m.aA.bJ⟩⟩∧(0≤x→0≤bK m.aE x)∧vN m ⟨m.aE,⟨m.aA.Global.set c.toNat t,m.aA.bJ⟩⟩ (-1):=by
  obtain⟨hcnt,h3,h9,h1,h2,hsm,hcp,hlo,hsG,hsO⟩:=pI.facts hm
  have hk:c.toNat < m.aA.Global.length:=by omega
  have hx:idx m.aA.Global c=some m.aA.Global[c.toNat]:=iT (by omega) (by omega)
  have h24:=hsG _ (List.getElem_mem hk)
  obtain⟨t,x,e1,e2,ht,hmem,hsub⟩:=aQG (s:=m.aA.Global[c.toNat]) (by omega)
  have hall:=gU m.aA
  refine⟨_,t,x,hx,e1,?_,⟨by simp only;omega,by simp only;omega,by simp only [List.length_set];omega,by simp only;omega,?_⟩,fun h0=>?_,pI.aMS hm (by omega) (by rw [←f8 hk];exact hsub)⟩
  · unfold xU qB
    rw [hcp,hlo,i3,bI hc]
    simp only [aJ,eS,bB,if_false]
    rw [hx,aJ,e2];rfl
  · have:=aCH hk ht
    rw [gU];simp only;omega
  · have:=hm.2.1 c.toNat (by omega) x (by rw [←f8 hk];exact hmem h0)
    omega
theorem aLW{w h:Int}(hw:0≤w∧w≤2)(hv:vM m h):∃m',EN m w (h % 32)=some m'∧MU m w h=some m'∧nM m'∧vN m m' (h % 32):=by
  obtain⟨hcnt,h3,h9,h1,h2,hsm,hcp,hlo,hsG,hsO⟩:=pI.facts hm
  have hs:=hm.1.1.1
  have hh:=hv.1
  have hhm:=hh.mod
  have hcl:=E2 hv.2.1
  have hgo:=EC hcl
  have hc2:0≤bK m.aE (h % 32)∧bK m.aE (h % 32)≤2:=by
    obtain⟨_,q,e⟩:=CD hcl
    rw [e];exact kX.1 (by omega)
  have hg6:1≤h / 32∧h / 32≤6:=by unfold rG at hh;omega
  have hbl:m.aE.Bytes.length≤maxLen:=by rw [h1];simp [maxLen]
  have hnot:h % 32∉eB m.aA:=fun q=>by
    have:=hv.2.1;unfold jX at this;rw [if_neg (by omega),if_pos q] at this;omega
  have hcpH:=NN (h:=m.aE) (by omega) (by omega)
  have eo:fW (h % 32) (bK m.aE (h % 32))=(((fW (h % 32) (bK m.aE (h % 32))).toNat:Nat):Int):=by omega
  have ew:bC (h / 32+1)=h / 32+1:=aS (by omega) (by omega)
  have ed:bC (Int.tdiv h 32)=h / 32:=by rw [E1 (by unfold rG at hh;omega),aS (by omega) (by omega)]
  have hall:=gU m.aA
  obtain⟨hr1,hr2⟩:=pI.aX8 hm hv.2.1 (g:=h / 32+1) (by omega)
  have hu:=rJ.1 hv.2.1
  unfold EN MU PI pY
  rw [hhm.1,i4 hs,hcpH,CC hbl,bI hs,kR hs,ed,ew,hcp]
  simp only [aJ,eS,bB,if_false,HV,AY,HU]
  rw [wX hs hcl,hv.2.2,d5,bR (show ¬bK m.aE (h % 32) < 0 by omega),bI (show 1≤h / 32+1∧h / 32+1≤7 by omega)]
  simp only [aJ,eS,bB,if_false,rT,wW,ew]
  generalize hgn:(fW (h % 32) (bK m.aE (h % 32))).toNat=a at eo
  rw [hgn] at hr1 hr2
  rw [eo,OR (by omega) (by omega) (by omega),SM (by omega)]
  simp only [aJ]
  rw [QV (by omega) (by omega) (by omega)]
  simp only [aJ,HO,KO,ed,ew,hhm.1]
  by_cases q:h / 32+1≤6
  · have hk:(w * 3+bK m.aE (h % 32)).toNat < m.aA.bJ.length:=by omega
    have hx:idx m.aA.bJ (w * 3+bK m.aE (h % 32))=some m.aA.bJ[(w * 3+bK m.aE (h % 32)).toNat]:=iT (by omega) (by omega)
    have hk2:(bK m.aE (h % 32)).toNat < m.aA.Global.length:=by omega
    have hx2:idx m.aA.Global (bK m.aE (h % 32))=some m.aA.Global[(bK m.aE (h % 32)).toNat]:=iT (by omega) (by omega)
    have b1:=hsO _ (List.getElem_mem hk)
    have b2:=hsG _ (List.getElem_mem hk2)
    rw [bI q,if_pos rfl,if_pos rfl]
    unfold EM V2 uX
    rw [kR hs,aJ,hcp,(MH hw hc2).1,(MH hw hc2).2,hlo,t9,bI (show 0≤h % 32∧h % 32≤23 by omega),QQ (by omega) (by simp only [maxLen];omega) (by simp only [maxLen];omega),bR hnot]
    simp only [aJ,eS,bB,if_false,hx,hx2]
    have nz:¬w * 3+bK m.aE (h % 32) < 0:=by omega
    simp only [bR nz,bB,if_false]
    by_cases q2:m.aA.bJ[(w * 3+bK m.aE (h % 32)).toNat].aP.length < 2
    · have y1:(m.aA.bJ[(w * 3+bK m.aE (h % 32)).toNat].aP.length:Int) < 2:=by omega
      have y2:¬(2:Int)≤m.aA.bJ[(w * 3+bK m.aE (h % 32)).toNat].aP.length:=by omega
      simp only [bI y1,bR y2,bB,if_false,if_true]
      rw [aU (by simp;omega),aU (by simp;omega)]
      refine⟨_,rfl,rfl,⟨by simp only [EG];omega,by simp only;omega,by simp only;omega,by simp only [List.length_set];omega,?_⟩,?_⟩
      · rw [gU];simp only [DB hk];simp;omega
      · have hmod:((w * 3+bK m.aE (h % 32)).toNat % 3:Nat)=(bK m.aE (h % 32)).toNat:=by omega
        obtain⟨z1,z2⟩:=pI.aSC hr1.1 (k:=(w * 3+bK m.aE (h % 32)).toNat) (by omega) (xs:=[h % 32]) (by simp only [←f8 hk,List.length_cons,List.length_nil];omega) (by simp) (fun x hx=>by
          simp at hx;subst hx
          exact⟨by rw [hmod];show bK m.aE (h % 32)=_;omega,by rw [hr2];omega⟩) (fun x hx=>by simp at hx;subst hx;exact hnot) hk
        refine⟨z1,fun s h1 h2=>?_⟩
        obtain⟨y1,y2,y3⟩:=hr1.2 s h1 h2
        exact⟨z2 s (by simpa using h2) y1,y2,y3⟩
    · have y1:¬(m.aA.bJ[(w * 3+bK m.aE (h % 32)).toNat].aP.length:Int) < 2:=by omega
      have y2:(2:Int)≤m.aA.bJ[(w * 3+bK m.aE (h % 32)).toNat].aP.length:=by omega
      simp only [bI y2,bR y1,bB,if_false,if_true]
      rw [aU (by simp;omega),aU (by simp;omega)]
      refine⟨_,rfl,rfl,⟨by simp only [EG];omega,by simp only;omega,by simp only [List.length_set];omega,by simp only;omega,?_⟩,?_⟩
      · rw [gU];simp only [DB hk2];simp;omega
      · obtain⟨z1,z2⟩:=pI.aCF hr1.1 (k:=(bK m.aE (h % 32)).toNat) (by omega) (xs:=[h % 32]) (by simp) (fun x hx=>by
          simp at hx;subst hx
          exact⟨by show bK m.aE (h % 32)=_;omega,by rw [hr2];omega⟩) (fun x hx=>by simp at hx;subst hx;exact hnot) hk2
        refine⟨z1,fun s h1 h2=>?_⟩
        obtain⟨y1,y2,y3⟩:=hr1.2 s h1 h2
        exact⟨z2 s (by simpa using h2) y1,y2,y3⟩
  · rw [bR q,if_neg (by simp),if_neg (by simp)]
    refine⟨_,rfl,rfl,⟨by simp only [EG];omega,by simp only;omega,by simp only;omega,by simp only;omega,by rw [gU];simp only;omega⟩,hr1⟩
end
theorem alloc_eq{b:aB}(hm:pI b.Mem){w:Int}(hw:0≤w∧w≤2)(s:Sub) :
    ∃x y,DI b w s=some (x,y)∧qC s b w=some (y,x)∧∃m',x=⟨m',b.aI,b.aV,b.iC⟩∧nM m'∧vN b.Mem m' (-1):=by
  have hsm:=(pI.facts hm).2.2.2.2.2.1
  have hs:=hm.1.1.1
  obtain⟨c,ec,ei,hcc⟩:=aCG s.A
  unfold DI qC
  rw [ec,ei]
  simp only [aJ]
  by_cases c0:c < 0
  · simp only [bI c0,if_true,cC,bG];exact⟨_,_,rfl,rfl,_,rfl,hsm,vN.refl hm _⟩
  have hc:0≤c∧c≤2:=by omega
  simp only [bR c0,bB,if_false]
  have fin:∀(m':Mem) (x:Int),nM m'→vN b.Mem m' (-1)→(0≤x→fN m'.aE∧0≤bK m'.aE x) →
      ∃X Y,lP s x ⟨m',b.aI,b.aV,b.iC⟩=some (X,Y)∧gP s x ⟨m',b.aI,b.aV,b.iC⟩=some (Y,X)∧∃m',X=⟨m',b.aI,b.aV,b.iC⟩∧nM m'∧vN b.Mem m' (-1):=by
    intro m' x hs' hst hx
    unfold lP gP
    simp only [uM,MR,cC,bG]
    by_cases x0:0≤x
    · obtain⟨h,e1,e2⟩:=aFC (m:=m') (hx x0).1 (hx x0).2
      rw [bR (show ¬x < 0 by omega),bI x0]
      simp only [bB,if_false,if_true,e1,e2,aJ]
      exact⟨_,_,rfl,rfl,m',rfl,hs',hst⟩
    · rw [bI (show x < 0 by omega),bR x0]
      by_cases p3:s.Pc=3
      · simp only [p3,beq_self_eq_true,if_true,bB,if_false,aJ];exact⟨_,_,rfl,rfl,m',rfl,hs',hst⟩
      · have p3':(s.Pc == 3)=false:=by simpa using p3
        simp only [p3',if_true,bB,if_false,aJ];exact⟨_,_,rfl,rfl,m',rfl,hs',hst⟩
  by_cases p0:s.Pc=0
  · obtain⟨l,t,x,e1,e2,e3,h1,h2,h3⟩:=aCI hm hw hc
    simp only [p0,beq_self_eq_true,if_true,(MH hw hc).1,aJ,e1,e2,e3]
    exact fin _ x h1 h3 (fun h=>⟨hs,h2 h⟩)
  · have p0':(s.Pc == 0)=false:=by simpa using p0
    simp only [p0',bB,if_false,uN,l8]
    obtain⟨l,t,x,e1,e2,e3,h1,h2,h3⟩:=SN hm hc
    by_cases p1:s.Pc=1
    · simp only [p1,beq_self_eq_true,if_true,aJ,e1,e2,e3]
      exact fin _ x h1 h3 (fun h=>⟨hs,h2 h⟩)
    · have p1':(s.Pc == 1)=false:=by simpa using p1
      simp only [p1',bB,if_false]
      by_cases p3:s.Pc=3
      · simp only [p3,beq_self_eq_true,if_true,aJ,e1,e2,e3]
        exact fin _ x h1 h3 (fun h=>⟨hs,h2 h⟩)
      · have p3':(s.Pc == 3)=false:=by simpa using p3
        simp only [p3',bB,if_false]
        by_cases p2:s.Pc=2
        · obtain⟨m',x,e1,e2,h1,h2,h3⟩:=aIL hm hc
          simp only [p2,beq_self_eq_true,if_true,aJ,e1,e2]
          exact fin m' x h1 h3 h2
        · have p2':(s.Pc == 2)=false:=by simpa using p2
          simp only [p2',bB,if_false,cC,bG];exact⟨_,_,rfl,rfl,_,rfl,hsm,vN.refl hm _⟩
end Go.Gv
end
noncomputable section
namespace Go.Gv
theorem aLX(r:b8)(e:Int):∃v,LU r e=some v∧LW r e=some v:=by
  unfold LU LW GG GQ
  by_cases h:2≤e
  · simp only [bI h,if_true];exact⟨_,rfl,rfl⟩
  · simp only [bR h,bB,if_false];exact⟨_,rfl,rfl⟩
theorem aSD{b:aB}{w:Int}{l:aO}(hx:idx b.aV w=some l)(hl:l.Rows.length≤1000)(s:Sub) :
    (z7 l.Rows s.Row s.E=some (-1)∧m6 s b w=(bG s 0).bind fun x=>some (x,b)) ∨
    ∃k,∃h:k < l.Rows.length,z7 l.Rows s.Row s.E=some (k:Int)∧m6 s b w=some (⟨s.Kind,s.A,2,s.E,(k:Int),0,l.Rows[k].Handle,s.Out,s.Code,s.cQ⟩,b):=by
  have key:∀d k,k+d=l.Rows.length →
      (loop (gY l.Rows s.E) (k:Int)=some (Out.brk ())∧loop (eI s b w) (k:Int)=some (Out.brk ())) ∨
      ∃j,∃h:j < l.Rows.length,loop (gY l.Rows s.E) (k:Int)=some (Out.ret (j:Int))∧loop (eI s b w) (k:Int)=some (Out.ret (⟨s.Kind,s.A,2,s.E,(j:Int),0,l.Rows[j].Handle,s.Out,s.Code,s.cQ⟩,b)):=by
    intro d
    induction d with
    | zero =>
      intro k hk
      left
      exact⟨cT (by simp only [gY];rw [if_neg (by simp;omega)]),cT (by simp only [eI,hx,aJ];rw [if_neg (by simp;omega)])⟩
    | succ d ih =>
      intro k hk
      have hk':k < l.Rows.length:=by omega
      obtain⟨v,e1,e2⟩:=aLX l.Rows[k] s.E
      cases v with
      | true =>
        right
        refine⟨k,hk',cT ?_,cT ?_⟩
        · simp only [gY]
          rw [if_pos (by simp;omega),aX hk',aJ,e1];rfl
        · simp only [eI,hx,aJ]
          rw [if_pos (by simp;omega),aX hk',aJ,e2];rfl
      | false =>
        have n1:gY l.Rows s.E (k:Int)=some (.next ((k+1:Nat):Int)):=by
          simp only [gY]
          rw [if_pos (by simp;omega),aX hk',aJ,e1,aJ,aS (by omega) (by omega)];rfl
        have n2:eI s b w (k:Int)=some (.next ((k+1:Nat):Int)):=by
          simp only [eI,hx,aJ]
          rw [if_pos (by simp;omega),aX hk',aJ,e2,aJ,aS (by omega) (by omega)];rfl
        rw [cR n1,cR n2]
        exact ih (k+1) (by omega)
  unfold z7 m6
  have hst:∃i:Nat,(if 0 < s.Row then s.Row else 0)=(i:Int)∧(if s.Row < 0 then 0 else s.Row)=(i:Int):=by
    refine⟨s.Row.toNat,?_,?_⟩ <;> split <;> omega
  obtain⟨i,i1,i2⟩:=hst
  rw [i1,i2]
  by_cases hi:i≤l.Rows.length
  · rcases key (l.Rows.length - i) i (by omega) with ⟨a,c⟩ | ⟨j,hj,a,c⟩
    · left;rw [a,c];exact⟨rfl,rfl⟩
    · right;rw [a,c];exact⟨j,hj,rfl,rfl⟩
  · left
    rw [cT (body:=gY l.Rows s.E) (r:=Out.brk ()) (by simp only [gY];rw [if_neg (by simp;omega)]),
      cT (body:=eI s b w) (r:=Out.brk ()) (by simp only [eI,hx,aJ];rw [if_neg (by simp;omega)])]
    exact⟨rfl,rfl⟩
theorem del_eq{α:Type}{l:List α}{k:Nat}(h:k < l.length):((dQ l k (l.drop (k+1))).take (k+(l.length - (k+1)))).drop 0=l.eraseIdx k:=by
  have h1:(l.take k).length=k:=by rw [List.length_take];omega
  have h2:(l.drop (k+1)).length=l.length - (k+1):=by simp
  unfold dQ
  rw [List.drop_zero,List.eraseIdx_eq_take_drop_succ,List.take_of_length_le (l:=l.drop (k+1)) (by rw [h2];omega),←List.append_assoc]
  rw [show k+(l.length - (k+1))=(l.take k++l.drop (k+1)).length by rw [List.length_append,h1,h2]]
  exact List.take_left
theorem aJ5{α:Type}{l:List α}{k:Nat}(h:k < l.length):l.Perm (l[k] :: l.eraseIdx k):=by
  have e:l=l.take k++l[k] :: l.drop (k+1):=by rw [←List.drop_eq_getElem_cons h,List.take_append_drop]
  rw [List.eraseIdx_eq_take_drop_succ]
  refine(List.Perm.of_eq e).trans ?_
  exact List.perm_middle
theorem rH.drop{b:List aO}(hL:rH b){w:Nat}(hw:w < b.length):∀k (hk:k < b[w].Rows.length),rH (b.set w ⟨b[w].Rows.eraseIdx k⟩)∧∀r∈bU (b.set w ⟨b[w].Rows.eraseIdx k⟩),r∈bU b∧r.Handle % 32≠b[w].Rows[k].Handle % 32:=by
  intro k hk
  have hsub:(bU (b.set w ⟨b[w].Rows.eraseIdx k⟩)).Sublist (bU b):=by
    rw [C9 hw,zI hw]
    exact(List.Sublist.refl _).append ((List.eraseIdx_sublist _ _).append (List.Sublist.refl _))
  have hnd:=hL.2.2.2
  refine⟨⟨by simpa using hL.1,Nat.le_trans hsub.length_le hL.2.1,fun r hr=>hL.2.2.1 r (hsub.subset hr),(hsub.map l5).nodup hnd⟩,fun r hr=>⟨hsub.subset hr,?_⟩⟩
  have hp:(bU b).Perm (b[w].Rows[k] :: bU (b.set w ⟨b[w].Rows.eraseIdx k⟩)):=by
    rw [C9 hw,zI hw]
    refine List.Perm.trans (List.Perm.append_left _ (List.Perm.append_right _ (aJ5 hk))) ?_
    exact List.perm_middle
  have:=(hp.map l5).nodup_iff.1 hnd
  rw [List.map_cons,List.nodup_cons] at this
  exact fun e=>this.1 (List.mem_map.2 ⟨r,hr,e⟩)
theorem aJ6{b:aB}(hb:l6 b){w:Int}(hw:0≤w∧w≤2)(s:Sub) :
    ∃x y,xK b w s=some (x,y)∧m7 s b w=some (y,x)∧∃m' L,x=⟨m',b.aI,L,b.iC⟩∧nM m'∧pI m'∧rH L∧∀r∈bU L,vM m' r.Handle∧r.aL≤b.aI.aL:=by
  have hm:=hb.1.1
  have hL:=hb.1.2.2.1
  have hZ:=hb.1.2.2.2
  have hsm:=(pI.facts hm).2.2.2.2.2.1
  have hlen:w.toNat < b.aV.length:=by have:=hL.1;omega
  have hx:idx b.aV w=some b.aV[w.toNat]:=iT hw.1 (by omega)
  have hrow:=hL.small.2.2.2 _ (List.getElem_mem hlen)
  have hmemL:b.aV[w.toNat]∈b.aV:=List.getElem_mem hlen
  have hset:=rH.drop hL hlen
  generalize b.aV[w.toNat]=l at hx hrow hset hmemL
  have done:∀y:Sub,∃x z,(some (b,y):Option (aB×Sub))=some (x,z)∧(some (y,b):Option (Sub×aB))=some (z,x)∧∃m' L,x=⟨m',b.aI,L,b.iC⟩∧nM m'∧pI m'∧rH L∧∀r∈bU L,vM m' r.Handle∧r.aL≤b.aI.aL:=
    fun y=>⟨_,_,rfl,rfl,b.Mem,b.aV,rfl,hsm,hm,hL,hb.2⟩
  have hw1:bC ((l.Rows.length:Int) - 1)=(l.Rows.length:Int) - 1:=aS (by omega) (by omega)
  have hhas:EU b.aV w s.Row=some (decide (0≤s.Row∧s.Row≤(l.Rows.length:Int) - 1)):=by
    unfold EU AX
    rw [i5,bI hw,aJ,if_pos rfl,hx,aJ,d5,hw1];rfl
  unfold xK m7
  rw [hhas,hx]
  simp only [aJ,cC,bY,hw1]
  have hat:∃a:Bool,(if decide (0≤s.Row∧s.Row≤(l.Rows.length:Int) - 1)=true then (idx l.Rows s.Row).bind fun x15=>eY s b w (x15.Handle == s.H) else eY s b w false)=eY s b w a ∧
      (if (!decide (0≤s.Row∧s.Row≤(l.Rows.length:Int) - 1))=true then eN b s true else (idx l.Rows s.Row).bind fun x11=>eN b s (x11.Handle != s.H))=eN b s (!a) ∧
      (a=true→∃r,r∈l.Rows∧idx l.Rows s.Row=some r∧r.Handle=s.H∧0≤s.Row∧s.Row < l.Rows.length) ∧
      (a=false→∀f:b8→Option (aB×Sub),(if (!decide (0≤s.Row∧s.Row≤(l.Rows.length:Int) - 1))=true then eO b w s l true else (idx l.Rows s.Row).bind fun x=>if (x.Handle != s.H)=true then eO b w s l true else f x)=eO b w s l true):=by
    by_cases q:0≤s.Row∧s.Row≤(l.Rows.length:Int) - 1
    · have hr:idx l.Rows s.Row=some (l.Rows[s.Row.toNat]'(by omega)):=iT q.1 (by omega)
      by_cases q2:(l.Rows[s.Row.toNat]'(by omega)).Handle=s.H
      · refine⟨true,?_,?_,fun _=>⟨_,List.getElem_mem _,hr,q2,q.1,by omega⟩,fun h=>by cases h⟩
        · rw [bI q,if_pos rfl,hr,aJ,q2,beq_self_eq_true]
        · rw [bI q,if_neg (by simp),hr,aJ,q2,bne_self_eq_false];rfl
      · have n1:((l.Rows[s.Row.toNat]'(by omega)).Handle == s.H)=false:=by simpa using q2
        have n2:((l.Rows[s.Row.toNat]'(by omega)).Handle != s.H)=true:=by simpa using q2
        refine⟨false,?_,?_,(fun h=>by cases h),fun _ f=>?_⟩
        · rw [bI q,if_pos rfl,hr,aJ,n1]
        · rw [bI q,if_neg (by simp),hr,aJ,n2];rfl
        · rw [bI q,if_neg (by simp),hr,aJ,n2,if_pos rfl]
    · refine⟨false,?_,?_,(fun h=>by cases h),fun _ f=>?_⟩
      · rw [bR q,if_neg (by simp)]
      · rw [bR q,if_pos (by simp)];rfl
      · rw [bR q,if_pos (by simp)]
  obtain⟨a,ha1,ha2,ha3,ha4⟩:=hat
  rw [ha1,ha2]
  unfold eY
  by_cases p0:s.Pc=0
  · simp only [p0,beq_self_eq_true,if_true];exact done _
  have p0':(s.Pc == 0)=false:=by simpa using p0
  simp only [p0',bB,if_false]
  by_cases p1:s.Pc=1
  · simp only [p1,beq_self_eq_true,if_true]
    rcases aSD hx (by omega) s with ⟨e1,e2⟩ | ⟨k,hk,e1,e2⟩
    · rw [e1,e2,aJ,if_pos (by simp)];simp only [bG,p1,aJ];exact done _
    · rw [e1,e2,aJ,if_neg (by simp),aX hk];simp only [aJ];exact done _
  have p1':(s.Pc == 1)=false:=by simpa using p1
  simp only [p1',bB,if_false]
  by_cases p2:s.Pc=2
  · simp only [p2,beq_self_eq_true,if_true,i5,aJ]
    by_cases hB:0≤s.B∧s.B≤2
    · rw [bI hB]
      simp only [eS,bB,if_false,if_true]
      cases a with
      | true =>
        have hz:idx b.iC s.B=some (b.iC[s.B.toNat]'(by have:=hZ.1;omega)):=iT hB.1 (by have:=hZ.1;omega)
        simp only [eN,d9,eS,bB,if_false,if_true,hz,aJ,pT]
        by_cases q:(b.iC[s.B.toNat]'(by have:=hZ.1;omega))=s.H
        · simp only [q,beq_self_eq_true,if_true];exact done _
        · have q':((b.iC[s.B.toNat]'(by have:=hZ.1;omega)) == s.H)=false:=by simpa using q
          simp only [q',bB,if_false]
          by_cases q3:bC (s.B+1)=3
          · simp only [q3,beq_self_eq_true,if_true];exact done _
          · have q3':(bC (s.B+1) == 3)=false:=by simpa using q3
            simp only [q3',bB,if_false];exact done _
      | false =>
        simp only [eN,d9,dF,cC,bG,nE,if_true,bB,if_false,p2,show((2:Int) == 3)=false from rfl,aJ]
        exact done _
    · rw [bR hB]
      simp only [eN,d9,dF,cC,bG,nE,if_true,bB,if_false,p2,show((2:Int) == 3)=false from rfl,aJ]
      exact done _
  have p2':(s.Pc == 2)=false:=by simpa using p2
  simp only [p2',bB,if_false,d9]
  by_cases p3:s.Pc=3
  · simp only [p3,beq_self_eq_true,if_true]
    cases a with
    | false =>
      rw [ha4 rfl]
      simp only [eO,dF,cC,bG,if_true,bB,if_false,aJ]
      exact done _
    | true =>
      obtain⟨r,hrm,hr,hrH,r0,r1⟩:=ha3 rfl
      obtain⟨v,e1,e2⟩:=aLX r s.E
      rw [bI (show 0≤s.Row∧s.Row≤(l.Rows.length:Int) - 1 by omega)]
      simp only [eS,bB,if_false,if_true,hr,aJ,hrH,bne_self_eq_false,hx,e1,e2]
      cases v with
      | false =>
        simp only [eO,dF,cC,bG,nE,if_true,bB,if_false,aJ]
        exact done _
      | true =>
        have hlive:vM b.Mem s.H:=by
          have:r∈bU b.aV:=List.mem_flatMap.2 ⟨l,hmemL,hrm⟩
          have:=(hb.2 r this).1
          rwa [hrH] at this
        obtain⟨m',f1,f2,f3,f4⟩:=aLW hm hw hlive
        have ew:bC (s.Row+1)=s.Row+1:=aS (by omega) (by omega)
        have hdrop:GR b.aV w s.Row=some (b.aV.set w.toNat ⟨((dQ l.Rows s.Row.toNat (l.Rows.drop (s.Row+1).toNat)).take (s.Row.toNat+(l.Rows.length - (s.Row+1).toNat))).drop 0⟩,true):=by
          unfold GR xV
          rw [LD hL.small.2.2.1 (fun s h=>by have:=hL.small.2.2.2 s h;omega),yH hL.small.1,bI hL,hhas,bI (show 0≤s.Row∧s.Row≤(l.Rows.length:Int) - 1 by omega)]
          simp only [aJ,eS,bB,if_false,hx,ew]
          unfold yU
          rw [aU (by omega),if_neg (by simp;omega),aU (by omega),aU (by omega),aU (by omega),aU]
          · rfl
          · rw [fS (by omega)]
            simp only [List.drop_zero,List.length_take,fS (show s.Row.toNat≤l.Rows.length by omega)]
            omega
        simp only [eO,dF,yN,ew,eS,bB,if_false,if_true]
        rw [aU (by omega),aU (by omega),aU (by omega),d7,if_pos hlive.1,aJ,f1,f2,hdrop]
        have hk:s.Row.toNat < l.Rows.length:=by omega
        have eL:((dQ l.Rows s.Row.toNat (l.Rows.drop (s.Row+1).toNat)).take (s.Row.toNat+(l.Rows.length - (s.Row+1).toNat))).drop 0=l.Rows.eraseIdx s.Row.toNat:=by
          rw [show(s.Row+1).toNat=s.Row.toNat+1 by omega];exact del_eq hk
        have er:l.Rows[s.Row.toNat]=r:=by
          have:=aX hk
          rw [show((s.Row.toNat:Nat):Int)=s.Row by omega,hr] at this
          exact(Option.some.inj this).symm
        rw [eL] at hdrop ⊢
        obtain⟨g1,g2⟩:=hset s.Row.toNat hk
        refine⟨_,_,rfl,rfl,m',_,rfl,f3,f4.1,g1,fun q hq=>?_⟩
        obtain⟨g3,g4⟩:=g2 q hq
        obtain⟨g5,g6⟩:=hb.2 q g3
        refine⟨f4.live g5 fun e=>?_,g6⟩
        rw [er,hrH] at g4
        exact g4 e
  · have p3':(s.Pc == 3)=false:=by simpa using p3
    simp only [p3',bB,if_false,dF,bG,aJ]
    exact done _
end Go.Gv
end
noncomputable section
namespace Go.Gv
theorem FT.fits{b:aB}(h:FT b):b.Mem.aE.Bytes.length≤maxLen∧(eB b.Mem.aA).length≤1073741824∧b.aI.bA.length≤maxLen∧b.aV.length≤maxLen∧(bU b.aV).length≤1073741824∧b.iC.length≤maxLen:=by
  have hb:(1048576:Nat)≤maxLen:=by simp [maxLen]
  have g1:=h.1.1;have g2:=h.1.2.2.2.2;have g3:=h.2.1;have g4:=h.2.2.1;have g5:=h.2.2.2.1;have g6:=h.2.2.2.2
  exact⟨by omega,by omega,by omega,by omega,by omega,by omega⟩
theorem step_eq{b:aB}(hb:l6 b)(hs:FT b){w:Int}(hw:0≤w∧w≤2)(s:Sub) :
    ∃x y,sZ b w s=some (x,y)∧jM s b w=some (y,x)∧l6 x:=by
  have hz:=hb.1.2.2.2.1
  have hl:=hb.1.2.2.1
  unfold sZ jM
  cases hd:s.cQ with
  | true=>exact⟨_,_,rfl,rfl,hb⟩
  | false =>
    simp only [bB,if_false]
    by_cases k1:s.Kind=1
    · obtain⟨x,y,e1,e2,m,rfl,h1,h2⟩:=alloc_eq hb.1.1 hw s
      simp only [k1,beq_self_eq_true,if_true,e1,e2,aJ]
      exact⟨_,_,rfl,rfl,⟨h2.1,hb.1.2⟩,fun r hr=>⟨h2.live (hb.2 r hr).1 (by have:=(hb.2 r hr).1.1;unfold rG at this;omega),(hb.2 r hr).2⟩⟩
    have k1':(s.Kind == 1)=false:=by simpa using k1
    simp only [k1',bB,if_false]
    by_cases k2:s.Kind=2
    · obtain⟨x,y,e1,e2,L,rfl,h1,h2⟩:=aMP hb hs hw s
      simp only [k2,beq_self_eq_true,if_true,e1,e2,aJ]
      exact⟨_,_,rfl,rfl,⟨hb.1.1,hb.1.2.1,h1,hb.1.2.2.2⟩,h2⟩
    have k2':(s.Kind == 2)=false:=by simpa using k2
    simp only [k2',bB,if_false]
    by_cases k3:s.Kind=3
    · obtain⟨x,y,e1,e2,c,rfl,h1,h2⟩:=aJ0 hb.1.2.1 s
      simp only [k3,beq_self_eq_true,if_true,e1,e2,aJ]
      exact⟨_,_,rfl,rfl,⟨hb.1.1,h1,hb.1.2.2⟩,fun r hr=>⟨(hb.2 r hr).1,Int.le_trans (hb.2 r hr).2 h2⟩⟩
    have k3':(s.Kind == 3)=false:=by simpa using k3
    simp only [k3',bB,if_false]
    by_cases k4:s.Kind=4
    · obtain⟨x,y,e1,e2,m,L,rfl,h1,h2,h3,h4⟩:=aJ6 hb hw s
      simp only [k4,beq_self_eq_true,if_true,e1,e2,aJ]
      exact⟨_,_,rfl,rfl,⟨h2,hb.1.2.1,h3,hb.1.2.2.2⟩,h4⟩
    have k4':(s.Kind == 4)=false:=by simpa using k4
    simp only [k4',bB,if_false]
    by_cases k5:s.Kind=5
    · obtain⟨x,y,e1,e2,c,rfl,h1,h2⟩:=aUY hb.1.2.1 hw s
      simp only [k5,beq_self_eq_true,if_true,e1,e2,aJ]
      exact⟨_,_,rfl,rfl,⟨hb.1.1,h1,hb.1.2.2⟩,fun r hr=>⟨(hb.2 r hr).1,Int.le_trans (hb.2 r hr).2 h2⟩⟩
    have k5':(s.Kind == 5)=false:=by simpa using k5
    simp only [k5',bB,if_false,cC,bG,aJ]
    exact⟨_,_,rfl,rfl,hb⟩
theorem l6.small{b:aB}(hb:l6 b):FT b:=by
  have h1:=hb.1.2.1.2.1;have h2:=hb.1.2.2.1.1;have h3:=hb.1.2.2.1.2.1;have h4:=hb.1.2.2.2.1
  exact⟨(pI.facts hb.1.1).2.2.2.2.2.1,by omega,by omega,by omega,by omega⟩
end Go.Gv
end
noncomputable section
namespace Go.Gv
theorem ZU{b:List Int}{a:Nat}{n:Int}(h:a+4≤b.length){j:Nat}(hj:j < a∨a+4≤j):bt (LF b a n) j=bt b j:=by
  unfold LF
  rw [IS (by simp;omega),IS (by simp;omega),IS (by simp;omega),IS (by omega),if_neg (by omega),if_neg (by omega),if_neg (by omega),if_neg (by omega)]
theorem UW.put{h:aE}(hh:UW h){s:Int}(hc:0≤bK h s){n:Int}(hn:0≤n∧n≤4294967295) :
    UW ⟨LF h.Bytes ((fW s (bK h s)).toNat+4) n,h.Class⟩∧∀t,0≤bK h t→nL ⟨LF h.Bytes ((fW s (bK h s)).toNat+4) n,h.Class⟩ t=nL h t:=by
  obtain⟨hs,hp⟩:=hh
  have h384:=hs.1
  have hs':fN ⟨LF h.Bytes ((fW s (bK h s)).toNat+4) n,h.Class⟩:=⟨by rw [U4];exact hs.1,hs.2.1,aMQ hs.2.2.1 _ hn,hs.2.2.2⟩
  obtain⟨p,i,p6,hi,es,ec,eo,ep⟩:=CG hc
  have hcl:0≤b7 h p∧b7 h p≤2:=kX.1 (by omega)
  have hroom:8+i * (aW (b7 h p)).toNat+8≤64∧∀j,j < (cS (b7 h p)).toNat→j * (aW (b7 h p)).toNat+4≤i * (aW (b7 h p)).toNat+4∨i * (aW (b7 h p)).toNat+12≤j * (aW (b7 h p)).toNat:=by
    generalize b7 h p=c at hi hcl
    rcases fK hcl with rfl | rfl | rfl
    · rw [show(cS 0).toNat=4 from rfl] at *;rw [show(aW 0).toNat=12 from rfl]
      exact⟨by omega,fun j hj=>by omega⟩
    · rw [show(cS 1).toNat=2 from rfl] at *;rw [show(aW 1).toNat=20 from rfl]
      exact⟨by omega,fun j hj=>by omega⟩
    · rw [show(cS 2).toNat=1 from rfl] at *;rw [show(aW 2).toNat=44 from rfl]
      exact⟨by omega,fun j hj=>by omega⟩
  have hgen:∀q j,q < 6→j < (cS (b7 h q)).toNat→ld (LF h.Bytes ((fW s (bK h s)).toNat+4) n) (q * 64+8+j * (aW (b7 h q)).toNat) 4=ld h.Bytes (q * 64+8+j * (aW (b7 h q)).toNat) 4:=fun q j hq hj=>by
    have hz:=vH hs hq rfl hj
    refine RI (by omega) (by simp only [U4]) fun k k1 k2=>?_
    by_cases e:q=p
    · subst e
      have:=hroom.2 j hj
      exact ZU (by omega) (by omega)
    · exact ZU (by omega) (by omega)
  refine⟨⟨hs',fun q hq=>?_⟩,fun t ht=>?_⟩
  · rw [MG hs' hq]
    have hold:=(MG hs hq).1 (hp q hq)
    by_cases e:q=p
    · subst e
      have hcl':¬b7 h q < 0:=by omega
      unfold Y8 at hold ⊢
      have hcc:b7 ⟨LF h.Bytes ((fW s (bK h s)).toNat+4) n,h.Class⟩ q=b7 h q:=rfl
      rw [hcc]
      rw [if_neg hcl'] at hold ⊢
      obtain⟨⟨a1,a2,a3⟩,a4,a5⟩:=hold
      have bs:∀k,k < 8→bt (LF h.Bytes ((fW s (bK h s)).toNat+4) n) (q * 64+k)=bt h.Bytes (q * 64+k):=fun k hk=>ZU (by omega) (by omega)
      have b0:=bs 0 (by omega);have b1:=bs 1 (by omega);have b2:=bs 2 (by omega)
      simp only [Nat.add_zero] at b0
      refine⟨⟨by rw [b0];exact a1,by rw [b1];exact a2,by rw [b2];exact a3⟩,fun k k3 k8=>by rw [bs k k8];exact a4 k k3 k8,fun j hj=>?_⟩
      rw [hgen q j hq hj];exact a5 j hj
    · refine Y8.same hq hs (by simp only [U4]) rfl (fun k hk=>ZU (by omega) (by omega)) hold
  · obtain⟨p',i',p6',hi',es',ec',eo',ep'⟩:=CG ht
    have e2:bK ⟨LF h.Bytes ((fW s (bK h s)).toNat+4) n,h.Class⟩ t=bK h t:=rfl
    unfold nL
    rw [e2,eo']
    exact hgen p' i' p6' hi'
theorem pI.put{m:Mem}(hm:pI m){s:Int}(hc:0≤bK m.aE s){n:Int}(hn:0≤n∧n≤4294967295):vN m ⟨⟨LF m.aE.Bytes ((fW s (bK m.aE s)).toNat+4) n,m.aE.Class⟩,m.aA⟩ (-1):=by
  obtain⟨a,b⟩:=UW.put hm.1.1 hc hn
  refine⟨pI.heap hm a fun x hx=>⟨rfl,b x (pI.QX hm hx).1⟩,fun t ht _=>?_⟩
  have ht':=rJ.1 ht
  have e:=b t ht'.1
  exact⟨rJ.2 ⟨ht'.1,ht'.2.1,by simp only [e];exact ht'.2.2⟩,e,rfl⟩
theorem start_eq{h:aE}(hs:fN h){s:Int}(hc:0≤bK h s):z9 s (bK h s)=some (fW s (bK h s)+4)∧GS s (bK h s)=some (fW s (bK h s)+4):=by
  have hg:=EC hc
  unfold z9 GS
  rw [rT,wW,aJ,if_neg (by simp;omega),aS (by omega) (by omega)]
  exact⟨rfl,rfl⟩
theorem aCJ{h:aE}(hs:fN h){s:Int}(hc:0≤bK h s):uZ h s 0 4=some (fW s (bK h s)+4):=by
  have hg:=EC hc
  have hc2:0≤bK h s∧bK h s≤2:=by
    obtain⟨_,q,e⟩:=CD hc
    rw [e];exact kX.1 (by omega)
  have hz:8≤gN (bK h s)∧gN (bK h s)≤40:=by rcases fK hc2 with e | e | e <;> rw [e] <;> decide
  unfold uZ MW
  rw [kR hs,aJ,(start_eq hs hc).2,aJ,if_neg (by simp;omega),QG]
  simp only [aJ,d5]
  rw [aS (x:=fW s (bK h s)+4+gN (bK h s)) (by omega) (by omega),aS (x:=fW s (bK h s)+4+gN (bK h s) - (fW s (bK h s)+4)) (by omega) (by omega),aS (x:=fW s (bK h s)+4+gN (bK h s) - (fW s (bK h s)+4) - 4) (by omega) (by omega),bI (by omega),aS (by omega) (by omega)]
  simp
theorem aIM{n:Int}(hn:0≤n∧n≤65535):∃t:List UInt8,yO n 4=some t∧(t == [])=false:=by
  have st:∀(m:Int) (c:List UInt8) (i:Nat),c.length≤4→i < 4→0≤m→m≤4294967295→v9 4 (m,c,(i:Int))=some (.next (m / 256,[u8 (m % 256)]++c,((i+1:Nat):Int))):=fun m c i hc hi h0 h1=>by
    simp only [v9]
    rw [if_pos (by simp;omega),aU (by simp;omega),wV h0,E1 h0,aS (x:=m / 256) (by omega) (by omega),aS (by omega) (by omega)];rfl
  unfold yO
  rw [bY]
  simp only [aJ,show(decide ((1:Int)≤4∧(4:Int)≤7))=true from rfl,eS,bB,if_false,wA,bR (show ¬n < 0 by omega)]
  rw [show(0:Int)=((0:Nat):Int) from rfl,cR (st n [] 0 (by simp) (by omega) hn.1 (by omega)),cR (st _ _ 1 (by simp) (by omega) (by omega) (by omega)),cR (st _ _ 2 (by simp) (by omega) (by omega) (by omega)),cR (st _ _ 3 (by simp) (by omega) (by omega) (by omega)),cT (by simp only [v9];rw [if_neg (by simp)])]
  simp only [aJ,KJ,KI]
  rw [if_neg (by simp;omega)]
  exact⟨_,rfl,rfl⟩
theorem aCK{m:Mem}(hm:pI m){h n:Int}(hn:0≤n∧n≤65535):∃x c,mX m h 0 4 n=some (x,c)∧GU m h 0 4 n=some (x,c)∧vN m x (-1)∧(c≠0→x=m):=by
  obtain⟨hcnt,h3,h9,h1,h2,hsm,hcp,hlo,hsG,hsO⟩:=pI.facts hm
  have hs:=hm.1.1.1
  have hbl:m.aE.Bytes.length≤maxLen:=by rw [h1];simp [maxLen]
  have hall:(eB m.aA).length≤1073741824:=by omega
  have hg:m.aA.Global.length≤maxLen:=by rw [h3];simp [maxLen]
  have ho:m.aA.bJ.length≤maxLen:=by rw [h9];simp [maxLen]
  have hw4:jL 4=some true:=by unfold jL;rw [d5];rfl
  unfold mX GU JB PJ
  rw [E3 hsm,XF hsm,K8 hbl hall,SI hbl hall,bI hm,bY,hw4,aCB ⟨hn.1,by omega⟩]
  simp only [aJ,eS,bB,if_false,tB,AZ,show(decide ((1:Int)≤4∧(4:Int)≤7))=true from rfl,rI hs hall hg ho,IP hs hall hg ho]
  by_cases hv:vM m h
  · have hh:=hv.1
    have hcl:=E2 hv.2.1
    have hgo:=EC hcl
    have hc2:0≤bK m.aE (h % 32)∧bK m.aE (h % 32)≤2:=by
      obtain⟨_,q,e⟩:=CD hcl
      rw [e];exact kX.1 (by omega)
    have hz:8≤gN (bK m.aE (h % 32))∧gN (bK m.aE (h % 32))≤40:=by rcases fK hc2 with e | e | e <;> rw [e] <;> decide
    obtain⟨p,i,p6,hi,es,ec,eo,ep⟩:=CG hcl
    have hroom:(fW (h % 32) (bK m.aE (h % 32))).toNat+8≤384:=by
      rw [eo]
      have hcl':0≤b7 m.aE p∧b7 m.aE p≤2:=by rw [←ec];exact hc2
      generalize b7 m.aE p=c at hi hcl'
      rcases fK hcl' with rfl | rfl | rfl
      · rw [show(cS 0).toNat=4 from rfl] at hi;rw [show(aW 0).toNat=12 from rfl];omega
      · rw [show(cS 1).toNat=2 from rfl] at hi;rw [show(aW 1).toNat=20 from rfl];omega
      · rw [show(cS 2).toNat=1 from rfl] at hi;rw [show(aW 2).toNat=44 from rfl];omega
    simp only [bI hv,eS,bB,if_false,d7,if_pos hh,aJ,i4 hs,CA,bY,hh.mod.1,aCJ hs hcl]
    rw [aS (x:=gN (bK m.aE (h % 32)) - 1) (by omega) (by omega),bI (show(0:Int)≤0∧(0:Int)≤gN (bK m.aE (h % 32)) - 1 by omega),aS (x:=gN (bK m.aE (h % 32)) - 0) (by omega) (by omega),bR (show ¬gN (bK m.aE (h % 32)) - 0 < 4 by omega)]
    simp only [eS,bB,if_false,tA,(start_eq hs hcl).1,aJ]
    rw [aS (x:=fW (h % 32) (bK m.aE (h % 32))+4+0) (by omega) (by omega),Int.add_zero,bR (show ¬fW (h % 32) (bK m.aE (h % 32))+4 < 0 by omega)]
    have eo':fW (h % 32) (bK m.aE (h % 32))+4=(((fW (h % 32) (bK m.aE (h % 32))).toNat+4:Nat):Int):=by omega
    have hput:=pI.put hm hcl (n:=n) ⟨hn.1,by omega⟩
    have hspf:∃t:List UInt8,yO n 4=some t∧(t == [])=false:=aIM hn
    obtain⟨t,ht1,ht2⟩:=hspf
    have hld:lB m.aE.Bytes (((fW (h % 32) (bK m.aE (h % 32))).toNat+4:Nat):Int) 4=some (ld m.aE.Bytes ((fW (h % 32) (bK m.aE (h % 32))).toNat+4) 4):=yF hs.2.2.1 (w:=4) (by omega) (by omega) (by omega)
    rw [eo',hld]
    simp only [aJ,bB,if_false,bne_self_eq_false,ht1,ht2,show(SL n == [])=false from rfl]
    rw [aFA (by omega) (by omega) ⟨hn.1,by omega⟩,aCC (by omega) (by omega) ⟨hn.1,by omega⟩]
    exact⟨_,_,rfl,rfl,hput,fun q=>absurd rfl q⟩
  · simp only [bR hv,nE,if_true,aJ,show((4:Int) != 0)=true from rfl]
    exact⟨_,_,rfl,rfl,vN.refl hm _,fun _=>rfl⟩
theorem aJ7{b:aB}(hm:pI b.Mem)(h:Int):∃r,JC b.Mem.aE h 0 4=some r∧GV b h 0 4=some r:=by
  have hs:=hm.1.1.1
  have h1:=hs.1
  have hbl:b.Mem.aE.Bytes.length≤maxLen:=by rw [h1];simp [maxLen]
  have hw4:jL 4=some true:=by unfold jL;rw [d5];rfl
  unfold JC GV pY
  rw [fL,hY,bY,hw4,CC hbl,bI hs]
  simp only [aJ,AA,qX,show(decide ((1:Int)≤4∧(4:Int)≤7))=true from rfl,eS,bB,if_false]
  by_cases hh:rG h
  · simp only [bI hh,eS,bB,if_false,d7,if_pos hh,aJ,i4 hs,kR hs,hh.mod.1]
    by_cases hcl:bK b.Mem.aE (h % 32) < 0
    · simp only [bI hcl,if_true,oK];exact⟨_,rfl,rfl⟩
    · have hcl':0≤bK b.Mem.aE (h % 32):=by omega
      have hgo:=EC hcl'
      have hc2:0≤bK b.Mem.aE (h % 32)∧bK b.Mem.aE (h % 32)≤2:=by
        obtain⟨_,q,e⟩:=CD hcl'
        rw [e];exact kX.1 (by omega)
      have hz:8≤gN (bK b.Mem.aE (h % 32))∧gN (bK b.Mem.aE (h % 32))≤40:=by rcases fK hc2 with e | e | e <;> rw [e] <;> decide
      obtain⟨p,i,p6,hi,es,ec,eo,ep⟩:=CG hcl'
      have hroom:(fW (h % 32) (bK b.Mem.aE (h % 32))).toNat+8≤384:=by
        rw [eo]
        have hcl'':0≤b7 b.Mem.aE p∧b7 b.Mem.aE p≤2:=by rw [←ec];exact hc2
        generalize b7 b.Mem.aE p=c at hi hcl''
        rcases fK hcl'' with rfl | rfl | rfl
        · rw [show(cS 0).toNat=4 from rfl] at hi;rw [show(aW 0).toNat=12 from rfl];omega
        · rw [show(cS 1).toNat=2 from rfl] at hi;rw [show(aW 1).toNat=20 from rfl];omega
        · rw [show(cS 2).toNat=1 from rfl] at hi;rw [show(aW 2).toNat=44 from rfl];omega
      simp only [bR hcl,bB,if_false,CA,bY,aJ,aCJ hs hcl']
      rw [aS (x:=gN (bK b.Mem.aE (h % 32)) - 1) (by omega) (by omega),bI (show(0:Int)≤0∧(0:Int)≤gN (bK b.Mem.aE (h % 32)) - 1 by omega),aS (x:=gN (bK b.Mem.aE (h % 32)) - 0) (by omega) (by omega),bR (show ¬gN (bK b.Mem.aE (h % 32)) - 0 < 4 by omega)]
      simp only [eS,bB,if_false,oK,d7,if_pos hh,(start_eq hs hcl').1,aJ]
      rw [aS (x:=fW (h % 32) (bK b.Mem.aE (h % 32))+4+0) (by omega) (by omega),Int.add_zero,bR (show ¬fW (h % 32) (bK b.Mem.aE (h % 32))+4 < 0 by omega)]
      have eo':fW (h % 32) (bK b.Mem.aE (h % 32))+4=(((fW (h % 32) (bK b.Mem.aE (h % 32))).toNat+4:Nat):Int):=by omega
      have hld:lB b.Mem.aE.Bytes (((fW (h % 32) (bK b.Mem.aE (h % 32))).toNat+4:Nat):Int) 4=some (ld b.Mem.aE.Bytes ((fW (h % 32) (bK b.Mem.aE (h % 32))).toNat+4) 4):=yF hs.2.2.1 (w:=4) (by omega) (by omega) (by omega)
      have hls:sM b.Mem.aE.Bytes (((fW (h % 32) (bK b.Mem.aE (h % 32))).toNat+4:Nat):Int) 4=some (ld b.Mem.aE.Bytes ((fW (h % 32) (bK b.Mem.aE (h % 32))).toNat+4) 4):=II hs.2.2.1 (w:=4) (by omega) (by omega) (by omega)
      rw [eo',hld,hls]
      exact⟨_,rfl,rfl⟩
  · simp only [bR hh,nE,if_true];exact⟨_,rfl,rfl⟩
end Go.Gv
end
noncomputable section
namespace Go.Gv
theorem aIN{l:List gA}(hl:l.length≤maxLen)(f:gA→Bool)(g:gA→Option Bool)(hg:∀x∈l,g x=some (f x)):lE l g=some (l.any f):=by
  obtain⟨o,e,h⟩:=IN l f (body:=lD l g) (fun k hk=>by
    simp only [lD]
    rw [if_pos (by simp;omega),aX hk,iE (oC hk hl)]
    simp only [aJ,hg _ (List.getElem_mem hk)]) (by simp [lD])
  unfold lE vP
  rw [e]
  cases o with
  | brk u=>simp only at h;simp [qA,AN,h]
  | ret r=>simp only at h;simp [qA,h]
theorem aCL{l:List Queue}(hl:l.length≤maxLen)(f:Queue→Bool)(g:Queue→Option Bool)(hg:∀x∈l,g x=some (f x)):i7 l g=some (l.any f):=by
  obtain⟨o,e,h⟩:=IN l f (body:=i6 l g) (fun k hk=>by
    simp only [i6]
    rw [if_pos (by simp;omega),aX hk,iE (oC hk hl)]
    simp only [aJ,hg _ (List.getElem_mem hk)]) (by simp [i6])
  unfold i7 pW
  rw [e]
  cases o with
  | brk u=>simp only at h;simp [mD,vJ,h]
  | ret r=>simp only at h;simp [mD,h]
theorem aG2{l:List bX}(hl:l.length≤maxLen)(f:bX→Bool)(g:bX→Option Bool)(hg:∀x∈l,g x=some (f x)):j5 l g=some (l.any f):=by
  obtain⟨o,e,h⟩:=IN l f (body:=j4 l g) (fun k hk=>by
    simp only [j4]
    rw [if_pos (by simp;omega),aX hk,iE (oC hk hl)]
    simp only [aJ,hg _ (List.getElem_mem hk)]) (by simp [j4])
  unfold j5 tC
  rw [e]
  cases o with
  | brk u=>simp only at h;simp [oO,zD,h]
  | ret r=>simp only at h;simp [oO,h]
def CH(k:Int):Prop:=k=1∨k=2∨k=3∨k=7
instance (k:Int):Decidable (CH k):=by unfold CH;infer_instance
def l7(o:gA):Prop:=(1≤o.Kind∧o.Kind≤7)∧(CH o.Kind∨o.Cell=0)∧(0≤o.Cell∧o.Cell≤1)∧if o.Kind=1 then (0≤o.eT∧o.eT≤100)∧0≤o.eU∧o.eU≤65535 else o.eT=0∧o.eU=0
instance (o:gA):Decidable (l7 o):=by unfold l7;infer_instance
theorem hb0(x:Int):(x == 0)=decide (x=0):=by rw [Bool.eq_iff_iff];simp
theorem aJ8:CH 1:=.inl rfl
theorem aFF(k:Int):sU k=some (decide (CH k)):=by
  unfold sU jZ CH
  by_cases h1:k=1
  · simp [h1]
  · by_cases h2:k=2
    · simp [h2]
    · by_cases h3:k=3
      · simp [h3]
      · by_cases h7:k=7
        · simp [h7]
        · simp [h1,h2,h3,h7]
theorem U8(o:gA):HC o=some (decide (l7 o)):=by
  unfold HC zU GB GC l7
  rw [bY,aFF,bY,bY,bY]
  by_cases h1:1≤o.Kind∧o.Kind≤7
  · by_cases h2:CH o.Kind
    · by_cases h3:0≤o.Cell∧o.Cell≤1
      · by_cases h4:o.Kind=1
        · by_cases h5:0≤o.eT∧o.eT≤100 <;> simp [h1,h2,h3,h4,h5,aJ8] <;> exact hb0 _
        · by_cases h5:o.eT=0 <;> simp [h1,h2,h3,h4,h5,aJ8] <;> exact hb0 _
      · simp [h1,h2,h3]
    · by_cases h0:o.Cell=0
      · by_cases h4:o.Kind=1
        · exact absurd (.inl h4) h2
        · by_cases h5:o.eT=0 <;> simp [h1,h2,h0,h4,h5,aJ8] <;> exact hb0 _
      · simp [h1,h2,h0]
  · simp [h1]
theorem U9(o:gA):HD o=some (decide (l7 o)):=by
  have key:∀x,m4 o x=if 1≤o.Kind∧o.Kind≤7 then (if x then some (decide ((0≤o.Cell∧o.Cell≤1)∧if o.Kind=1 then (0≤o.eT∧o.eT≤100)∧0≤o.eU∧o.eU≤65535 else o.eT=0∧o.eU=0):Bool) else some (decide (o.Cell=0∧if o.Kind=1 then (0≤o.eT∧o.eT≤100)∧0≤o.eU∧o.eU≤65535 else o.eT=0∧o.eU=0))) else some false:=fun x=>by
    unfold m4 AO GK GL
    rw [d5,d5,d5,d5]
    by_cases h1:1≤o.Kind∧o.Kind≤7
    · cases x
      · by_cases h0:o.Cell=0
        · by_cases h4:o.Kind=1
          · by_cases h5:0≤o.eT∧o.eT≤100 <;> simp [h1,h0,h4,h5,aJ8] <;> exact hb0 _
          · by_cases h5:o.eT=0 <;> simp [h1,h0,h4,h5,aJ8] <;> exact hb0 _
        · simp [h1,h0]
      · by_cases h3:0≤o.Cell∧o.Cell≤1
        · by_cases h4:o.Kind=1
          · by_cases h5:0≤o.eT∧o.eT≤100 <;> simp [h1,h3,h4,h5,aJ8] <;> exact hb0 _
          · by_cases h5:o.eT=0 <;> simp [h1,h3,h4,h5,aJ8] <;> exact hb0 _
        · simp [h1,h3]
    · simp [h1]
  have key2:HD o=m4 o (decide (CH o.Kind)):=by
    unfold HD CH
    by_cases h1:o.Kind=1
    · simp [h1]
    · by_cases h2:o.Kind=2
      · simp [h2]
      · by_cases h3:o.Kind=3
        · simp [h3]
        · have h7:(o.Kind == 7)=decide (o.Kind=1∨o.Kind=2∨o.Kind=3∨o.Kind=7):=by rw [Bool.eq_iff_iff];simp [h1,h2,h3]
          rw [if_neg (by simpa using h1),if_neg (by simpa using h2),if_neg (by simpa using h3),h7]
  rw [key2,key]
  unfold l7
  by_cases h1:1≤o.Kind∧o.Kind≤7
  · by_cases h2:CH o.Kind
    · simp only [h1,h2,and_self,decide_true,if_true,true_or,true_and]
    · by_cases h0:o.Cell=0
      · simp [h1,h2,h0]
      · simp [h1,h2,h0]
  · simp [h1]
theorem VA(h:Int):gX h=some (decide (dK h)):=by
  unfold gX xH dK
  rw [fL]
  by_cases q:h=0 <;> simp [q]
theorem NP(h:Int):pK h=some (decide (dK h)):=by
  unfold pK tJ dK
  rw [hY]
  by_cases q:h=0 <;> simp [q]
def aIO(l:List gA):Prop:=∀o∈l,l7 o
instance (l:List gA):Decidable (aIO l):=by unfold aIO;infer_instance
def QOk(q:Queue):Prop:=q.fX.length≤12∧aIO q.fX
instance (q:Queue):Decidable (QOk q):=by unfold QOk;infer_instance
def QY(l:List Queue):Prop:=l.length=3∧∀q∈l,QOk q
instance (l:List Queue):Decidable (QY l):=by unfold QY;infer_instance
theorem VB{l:List Queue}(hl:l.length≤maxLen):zV l=some (decide (QY l)):=by
  unfold zV
  have inner:∀k (hk:k < l.length),l[k].fX.length≤12→loop (mL l (k:Int)) 0=some (if aIO l[k].fX then Out.brk () else Out.ret false):=by
    intro k hk h12
    have hb:∀j (hj:j < l[k].fX.length),mL l (k:Int) (j:Int)=if l7 l[k].fX[j] then some (.next ((j+1:Nat):Int)) else some (.stop (Out.ret false)):=by
      intro j hj
      simp only [mL]
      rw [aX hk,aJ,if_pos (by simp;omega),aJ,aX hj,aJ,U8,aJ,aS (by omega) (by omega)]
      by_cases q:l7 l[k].fX[j] <;> simp [q]
    have:=jE (f:=mL l (k:Int)) l[k].fX (fun j=>(j:Int)) l7 (Out.brk ()) (Out.ret false) (fun j hj hp=>by rw [hb j hj,if_pos hp]) (fun j hj hp=>by rw [hb j hj,if_neg hp]) (by
      simp only [mL]
      rw [aX hk,aJ,if_neg (by simp)])
    refine Eq.trans this ?_
    congr 1
  have hs:∀k (hk:k < l.length),mM l (k:Int)=if QOk l[k] then some (.next ((k+1:Nat):Int)) else some (.stop (Out.ret false)):=by
    intro k hk
    simp only [mM]
    rw [if_pos (by simp;omega),aX hk,aJ]
    by_cases h12:l[k].fX.length≤12
    · rw [if_neg (by simp;omega),inner k hk h12]
      by_cases q:aIO l[k].fX
      · rw [if_pos q,if_pos ⟨h12,q⟩]
        simp only [aJ,N0,NZ]
        rw [iE (oC hk hl)]
      · rw [if_neg q,if_neg (fun a=>q a.2)];rfl
    · rw [if_pos (by simp;omega),if_neg (fun a=>h12 a.1)]
  have key:loop (mM l) 0=_:=jE (f:=mM l) l (fun k=>(k:Int)) QOk (Out.brk ()) (Out.ret false) (fun k hk hp=>by rw [hs k hk,if_pos hp]) (fun k hk hp=>by rw [hs k hk,if_neg hp]) (by simp [mM])
  rw [key]
  by_cases q:∀x∈l,QOk x
  · rw [if_pos q]
    simp only [aJ,N2,NY]
    congr 1;rw [Bool.eq_iff_iff];simp only [beq_iff_eq,decide_eq_true_eq]
    exact⟨fun a=>⟨by omega,q⟩,fun a=>by have:=a.1;omega⟩
  · rw [if_neg q,bR (show ¬QY l from fun a=>q a.2)];rfl
theorem VC{l:List Queue}(hl:l.length≤maxLen)(hq:∀q∈l,q.fX.length≤maxLen):ET l=some (decide (QY l)):=by
  have e1:∀q∈l,DP q=some (!decide (QOk q)):=by
    intro q hm
    unfold DP uS
    have e:∀x∈q.fX,xR x=some (!decide (l7 x)):=fun x _=>by
      unfold xR;rw [U9];rfl
    rw [aIN (hq q hm) (fun x=>!decide (l7 x)) _ e,EB]
    by_cases h:q.fX.length≤12
    · rw [if_neg (by simp;omega)]
      by_cases h2:∀x∈q.fX,l7 x
      · rw [bI h2,bI (show QOk q from ⟨h,h2⟩)];rfl
      · rw [bR h2,bR (show ¬QOk q from fun a=>h2 a.2)];rfl
    · rw [if_pos (by simp;omega),bR (show ¬QOk q from fun a=>h a.1)];rfl
  unfold ET AP
  rw [aCL hl (fun q=>!decide (QOk q)) _ e1,EB]
  by_cases h:l.length=3
  · rw [if_pos (by simp;omega)]
    by_cases h2:∀x∈l,QOk x
    · rw [bI h2,bI (show QY l from ⟨h,h2⟩)];rfl
    · rw [bR h2,bR (show ¬QY l from fun a=>h2 a.2)];rfl
  · rw [if_neg (by simp;omega),bR (show ¬QY l from fun a=>h a.1)]
def aFG:bX:=⟨false,⟨0,0,0,0⟩,0,0,⟨0,0,0,0,0,0,0,0,0,false⟩,0,0,0,0⟩
def JOk(j:bX):Prop:=if j.iV then l7 j.Op∧dK j.H∧dK j.Old else j=aFG
instance (j:bX):Decidable (JOk j):=by unfold JOk;infer_instance
theorem IT{j:bX}(hb:j.iV=true):JOk j↔l7 j.Op∧dK j.H∧dK j.Old:=by unfold JOk;rw [if_pos hb]
theorem QZ{j:bX}(hb:j.iV=false):JOk j↔j=aFG:=by unfold JOk;rw [if_neg (by simp [hb])]
theorem aIP(j:bX):MT j=some (decide (JOk j)):=by
  unfold MT wI
  rw [U9,NP,NP]
  cases hb:j.iV
  · rw [show decide (JOk j)=decide (j=aFG) from decide_eq_decide.2 (QZ hb)];rfl
  · rw [show decide (JOk j)=decide (l7 j.Op∧dK j.H∧dK j.Old) from decide_eq_decide.2 (IT hb)]
    by_cases h1:l7 j.Op
    · by_cases h2:dK j.H <;> simp [h1,h2]
    · simp [h1]
def E4(s:aD):Prop:=l6 s.aB∧s.Cells.length=2∧s.aR.length=3∧QY s.cG∧(0≤s.aN∧s.aN≤1000000)∧(∀h∈s.Cells,dK h)∧∀j∈s.aR,JOk j
instance (s:aD):Decidable (E4 s):=by unfold E4;infer_instance
noncomputable section
variable {s:aD} (hf:s.aB.Mem.aE.Bytes.length≤maxLen∧(eB s.aB.Mem.aA).length≤1073741824∧s.aB.aI.bA.length≤maxLen∧s.aB.aV.length≤maxLen∧(bU s.aB.aV).length≤1073741824∧s.aB.iC.length≤maxLen) (ht:s.cG.length≤maxLen) (hq:∀q∈s.cG,q.fX.length≤maxLen) (hcl:s.Cells.length≤maxLen) (hjl:s.aR.length≤maxLen)
include hf ht
theorem Y9:uK s=some (decide (E4 s)):=by
  unfold uK kI
  rw [QT hf,VB ht,bY]
  by_cases h1:l6 s.aB
  · by_cases h2:s.Cells.length=2
    · by_cases h3:s.aR.length=3
      · by_cases h4:QY s.cG
        · by_cases h5:0≤s.aN∧s.aN≤1000000
          · have c2:((s.Cells.length:Int) != 2)=false:=by simp;omega
            have c3:((s.aR.length:Int) != 3)=false:=by simp;omega
            simp only [bI h1,bI h4,bI h5,c2,c3,aJ,eS,bB,if_false]
            have k2:loop (mO s) 0=some (if ∀h∈s.Cells,dK h then Out.brk () else Out.ret false):=by
              have hb:∀k (hk:k < s.Cells.length),mO s (k:Int)=if dK s.Cells[k] then some (.next ((k+1:Nat):Int)) else some (.stop (Out.ret false)):=fun k hk=>by
                simp only [mO]
                rw [if_pos (by simp;omega),aX hk,aJ,VA,aJ,aS (by omega) (by omega)]
                by_cases q:dK s.Cells[k] <;> simp [q]
              exact jE (f:=mO s) s.Cells (fun k=>(k:Int)) dK _ _ (fun k hk hp=>by rw [hb k hk,if_pos hp]) (fun k hk hp=>by rw [hb k hk,if_neg hp]) (by simp [mO,h2])
            have k3:loop (mN s) 0=some (if ∀j∈s.aR,JOk j then Out.brk () else Out.ret false):=by
              have hb:∀k (hk:k < s.aR.length),mN s (k:Int)=if JOk s.aR[k] then some (.next ((k+1:Nat):Int)) else some (.stop (Out.ret false)):=fun k hk=>by
                simp only [mN]
                rw [if_pos (by simp;omega),aX hk]
                generalize s.aR[k]=j
                simp only [aJ,eE,U8,VA,aS (show -9223372036854775808≤(k:Int)+1 by omega) (show(k:Int)+1≤9223372036854775807 by omega)]
                cases hb:j.iV
                · by_cases e:j=aFG
                  · have a1:dK j.H:=by rw [e];exact .inl rfl
                    have a2:dK j.Old:=by rw [e];exact .inl rfl
                    have e':j=(⟨false,(⟨0,0,0,0⟩:gA),0,0,(⟨0,0,0,0,0,0,0,0,0,false⟩:Sub),0,0,0,0⟩:bX):=e
                    simp only [nE,if_true,bI e',eS,bB,if_false,bI a1,bI a2,if_pos ((QZ hb).2 e)];rfl
                  · have e':¬j=(⟨false,(⟨0,0,0,0⟩:gA),0,0,(⟨0,0,0,0,0,0,0,0,0,false⟩:Sub),0,0,0,0⟩:bX):=e
                    simp only [nE,if_true,bR e',bB,if_false,if_neg (fun q=>e ((QZ hb).1 q))]
                · by_cases a0:l7 j.Op
                  · by_cases a1:dK j.H
                    · by_cases a2:dK j.Old <;> simp [a0,a1,a2,IT hb]
                    · simp [a0,a1,IT hb]
                  · simp [a0,IT hb]
              exact jE (f:=mN s) s.aR (fun k=>(k:Int)) JOk _ _ (fun k hk hp=>by rw [hb k hk,if_pos hp]) (fun k hk hp=>by rw [hb k hk,if_neg hp]) (by simp [mN,h3])
            rw [k2]
            by_cases q2:∀h∈s.Cells,dK h
            · rw [if_pos q2]
              simp only [aJ,N4,N3]
              rw [k3]
              by_cases q3:∀j∈s.aR,JOk j
              · rw [if_pos q3,bI (show E4 s from ⟨h1,h2,h3,h4,h5,q2,q3⟩)];rfl
              · rw [if_neg q3,bR (fun a:E4 s=>q3 a.2.2.2.2.2.2)];rfl
            · rw [if_neg q2,bR (fun a:E4 s=>q2 a.2.2.2.2.2.1)];rfl
          · rw [bR (fun a:E4 s=>h5 a.2.2.2.2.1)]
            simp [h1,h2,h3,h4,h5]
        · rw [bR (fun a:E4 s=>h4 a.2.2.2.1)]
          simp [h1,h2,h3,h4]
      · rw [bR (fun a:E4 s=>h3 a.2.2.1)]
        have c3:((s.aR.length:Int) != 3)=true:=by simp;omega
        simp [h1,h2,h3,c3]
    · rw [bR (fun a:E4 s=>h2 a.2.1)]
      have c2:((s.Cells.length:Int) != 2)=true:=by simp;omega
      simp [h1,h2,c2]
  · rw [bR (fun a:E4 s=>h1 a.1)];simp [h1]
include hq hcl hjl
theorem ZA:AR s=some (decide (E4 s)):=by
  have e1:tL=fun x=>some (!decide (dK x)):=funext fun x=>by unfold tL;rw [NP];rfl
  have e2:∀x∈s.aR,AQ x=some (!decide (JOk x)):=fun x _=>by unfold AQ;rw [aIP];rfl
  unfold AR g7
  rw [aCA hf,VC ht hq,d5,show(fun y0=>tL y0)=fun x=>some (!decide (dK x)) from e1,CB hcl,EB,aG2 hjl _ _ e2,EB]
  by_cases h1:l6 s.aB
  · by_cases h2:s.Cells.length=2
    · by_cases h3:s.aR.length=3
      · have c2:((s.Cells.length:Int) == 2)=true:=by simp;omega
        have c3:((s.aR.length:Int) == 3)=true:=by simp;omega
        by_cases h4:QY s.cG
        · by_cases h5:0≤s.aN∧s.aN≤1000000
          · by_cases q2:∀h∈s.Cells,dK h
            · by_cases q3:∀j∈s.aR,JOk j
              · rw [bI (show E4 s from ⟨h1,h2,h3,h4,h5,q2,q3⟩)]
                simp only [bI h1,bI h4,bI h5,bI q2,bI q3,c2,c3,aJ,eS,nE,bB,if_false,if_true]
              · rw [bR (fun a:E4 s=>q3 a.2.2.2.2.2.2)]
                simp only [bI h1,bI h4,bI h5,bI q2,bR q3,c2,c3,aJ,eS,nE,bB,if_false,if_true]
            · rw [bR (fun a:E4 s=>q2 a.2.2.2.2.2.1)]
              simp only [bI h1,bI h4,bI h5,bR q2,c2,c3,aJ,eS,nE,bB,if_false,if_true]
          · rw [bR (fun a:E4 s=>h5 a.2.2.2.2.1)]
            simp only [bI h1,bI h4,bR h5,c2,c3,aJ,bB,if_false,if_true]
        · rw [bR (fun a:E4 s=>h4 a.2.2.2.1)]
          simp only [bI h1,bR h4,c2,c3,aJ,bB,if_false,if_true]
      · rw [bR (fun a:E4 s=>h3 a.2.2.1)]
        have c2:((s.Cells.length:Int) == 2)=true:=by simp;omega
        have c3:((s.aR.length:Int) == 3)=false:=by simp;omega
        simp only [bI h1,c2,c3,aJ,bB,if_false,if_true]
    · rw [bR (fun a:E4 s=>h2 a.2.1)]
      have c2:((s.Cells.length:Int) == 2)=false:=by simp;omega
      simp only [bI h1,c2,aJ,bB,if_false,if_true]
  · rw [bR (fun a:E4 s=>h1 a.1)];simp only [bR h1,aJ,bB,if_false]
end
end Go.Gv
end
noncomputable section
namespace Go.Gv
theorem IU{α:Type}{l:List α}{w:Int}(h0:0≤w)(h1:w < l.length)(x:α):idx (l.set w.toNat x) w=some x:=by
  unfold idx
  rw [if_pos h0,List.getElem?_set_self (by omega)]
theorem fO{a b:Int}(h:¬a=b):(a == b)=false:=by simpa using h
theorem NQ{a b:Int}(h:¬a=b):(a != b)=true:=by simpa using h
theorem VD{c:aI}(hc:OQ c){w:Int}(hw:0≤w∧w≤2):∃r,yP c w=some r∧MX c w=some r∧OQ r.1∧r.1.aL=c.aL:=by
  obtain⟨p,hp,hpk⟩:=WX hc hw
  unfold yP MX
  rw [xA hc.small.1,xB hc.small.1,rE,rF hc.small.2,i5,bY,bI hc,bI hw]
  simp only [aJ,eS,bB,if_false,hp,wC,wM]
  cases p.On with
  | true =>
    simp only [eS,bB,if_false]
    have h0:=hc.1
    exact⟨_,rfl,rfl,hc.aGW ⟨by simp only;omega,by simp,fun _=>rfl⟩,rfl⟩
  | false=>simp only [nE,if_true];exact⟨_,rfl,rfl,hc,rfl⟩
theorem K9.set{z:List Int}(hz:K9 z)(k:Nat){h:Int}(hh:dK h):K9 (z.set k h):=⟨by simpa using hz.1,fun q hq=>(List.mem_or_eq_of_mem_set hq).elim (hz.2 q) (fun e=>e ▸ hh)⟩
theorem TD{z:List Int}(hz:K9 z){w:Int}(hw:0≤w∧w≤2)(h:Int):∃r,uO z w h=some r∧GW z w h=some r∧K9 r.1:=by
  have h3:=hz.1
  have hx:idx z w=some (z[w.toNat]'(by omega)):=iT hw.1 (by omega)
  unfold uO GW
  rw [C8 (by omega),nD (by omega),LA (by simp only [maxLen];omega),LB (by simp only [maxLen];omega),bI hz,bY,i5,bI hw,fL,hY]
  simp only [aJ,eS,bB,if_false,qT,qZ,hx]
  by_cases q:rG h
  · simp only [bI q,eS,bB,if_false];exact⟨_,rfl,rfl,hz.set _ (.inr q)⟩
  · simp only [bR q,nE,if_true];exact⟨_,rfl,rfl,hz⟩
theorem aIQ{z:List Int}(hz:K9 z){w:Int}(hw:0≤w∧w≤2):∃r,HQ z w=some r∧MY z w=some r∧K9 r.1:=by
  have h3:=hz.1
  have hx:idx z w=some (z[w.toNat]'(by omega)):=iT hw.1 (by omega)
  unfold HQ MY
  rw [C8 (by omega),nD (by omega),LA (by simp only [maxLen];omega),LB (by simp only [maxLen];omega),bI hz,bY,i5,bI hw]
  simp only [aJ,eS,bB,if_false,wD,wN,hx]
  by_cases q:(z[w.toNat]'(by omega))=0
  · simp only [q,beq_self_eq_true,if_true];exact⟨_,rfl,rfl,hz⟩
  · simp only [fO q,bB,if_false];exact⟨_,rfl,rfl,hz.set _ (.inl rfl)⟩
theorem l6.clock{b:aB}(hb:l6 b){cl:aI}(h:OQ cl)(e:b.aI.aL≤cl.aL):l6 ⟨b.Mem,cl,b.aV,b.iC⟩:=⟨⟨hb.1.1,h,hb.1.2.2⟩,fun r hr=>⟨(hb.2 r hr).1,Int.le_trans (hb.2 r hr).2 e⟩⟩
theorem l6.haz{b:aB}(hb:l6 b){z:List Int}(h:K9 z):l6 ⟨b.Mem,b.aI,b.aV,z⟩:=⟨⟨hb.1.1,hb.1.2.1,hb.1.2.2.1,h⟩,hb.2⟩
theorem l6.mem{b:aB}(hb:l6 b){m:Mem}(h:vN b.Mem m (-1)):l6 ⟨m,b.aI,b.aV,b.iC⟩:=⟨⟨h.1,hb.1.2⟩,fun r hr=>⟨h.live (hb.2 r hr).1 (by have:=(hb.2 r hr).1.1;unfold rG at this;omega),(hb.2 r hr).2⟩⟩
theorem E4.put{s:aD}(hs:E4 s){w:Int}{b:aB}(hb:l6 b){c:List Int}(hc:c.length=2∧∀h∈c,dK h){j:bX}(hj:JOk j)(l:List Ev):E4 ⟨b,c,s.aR.set w.toNat j,s.cG,l,s.aN⟩:=
  ⟨hb,hc.1,by simpa using hs.2.2.1,hs.2.2.2.1,hs.2.2.2.2.1,hc.2,fun q hq=>(List.mem_or_eq_of_mem_set hq).elim (hs.2.2.2.2.2.2 q) (fun e=>e ▸ hj)⟩
theorem cX{j:bX}(h:j.iV=true)(h1:l7 j.Op∧dK j.H∧dK j.Old):JOk j:=(IT h).2 h1
noncomputable section
variable {s:aD} (hs:E4 s) (hl:s.Log.length≤1000000000) {w:Int} (hw:0≤w∧w≤2) {j:bX} (hj:idx s.aR w=some j) (hb:j.iV=true) (hjo:l7 j.Op∧dK j.H∧dK j.Old)
include hs hl hw hj hb hjo
theorem aU2(hk:j.Op.Kind=1):∃x,((y9 s w j).bind fun q=>dN w q.1 q.2)=some x∧A3 s w=some x∧E4 x∧x.Log.length≤s.Log.length+1:=by
  have h3:=hs.2.2.1
  have hset:∀x,idx (s.aR.set w.toNat x) w=some x:=IU hw.1 (by omega)
  have hn:∀(e:Ev) {α:Type} (k:Option α),need (s.Log.length + [e].length≤1073741824) k=k:=fun e _ k=>aU (by simp;omega) k
  have hcs:s.Cells.length=2∧∀h∈s.Cells,dK h:=⟨hs.2.1,hs.2.2.2.2.2.1⟩
  have hcell:idx s.Cells j.Op.Cell=some (s.Cells[j.Op.Cell.toNat]'(by have:=hjo.1.2.2.1;omega)):=iT hjo.1.2.2.1.1 (by have:=hjo.1.2.2.1;omega)
  have hcm:dK (s.Cells[j.Op.Cell.toNat]'(by have:=hjo.1.2.2.1;omega)):=hcs.2 _ (List.getElem_mem _)
  generalize (s.Cells[j.Op.Cell.toNat]'(by have:=hjo.1.2.2.1;omega))=cell at hcell hcm
  have hval:0≤j.Op.eU∧j.Op.eU≤65535:=by have:=hjo.1.2.2.2;rw [if_pos hk] at this;exact this.2
  unfold y9 A3
  rw [hj]
  simp only [aJ,bQ,bP,dD,dN,eH,iY]
  by_cases p0:j.Pc=0
  · obtain⟨x,y,e1,e2,hx⟩:=step_eq hs.1 hs.1.small hw j.Sub
    simp only [p0,beq_self_eq_true,if_true,e1,e2,aJ]
    cases hd:y.cQ with
    | false=>simp only [nE,if_true,aJ,hj];exact⟨_,rfl,rfl,hs.put hx hcs (by exact cX hb hjo) _,Nat.le_succ _⟩
    | true =>
      simp only [eS,bB,if_false]
      by_cases c0:y.Code=0
      · simp only [c0,bne_self_eq_false,bB,if_false,fL,hY,aJ]
        by_cases o0:rG y.Out
        · simp only [bI o0,eS,bB,if_false,aJ,hj];exact⟨_,rfl,rfl,hs.put hx hcs (by exact cX hb ⟨hjo.1,.inr o0,hjo.2.2⟩) _,Nat.le_succ _⟩
        · simp only [bR o0,nE,if_true,aJ,hj];exact⟨_,rfl,rfl,hs.put hx hcs (by exact cX hb hjo) _,Nat.le_succ _⟩
      · simp only [NQ c0,if_true,aJ,hj];exact⟨_,rfl,rfl,hs.put hx hcs (by exact cX hb hjo) _,Nat.le_succ _⟩
  simp only [fO p0,bB,if_false]
  by_cases p1:j.Pc=1
  · obtain⟨x,c,e1,e2,h1,h2⟩:=aCK hs.1.1.1 (h:=j.H) hval
    simp only [p1,beq_self_eq_true,if_true,e1,e2,aJ,A0,hj,bP,dD]
    by_cases c0:c=0
    · simp only [c0,bne_self_eq_false,bB,if_false,aJ,hj];exact⟨_,rfl,rfl,hs.put (hs.1.mem h1) hcs (by exact cX hb hjo) _,Nat.le_succ _⟩
    · have:=h2 c0
      subst this
      simp only [NQ c0,if_true,aJ,hj];exact⟨_,rfl,rfl,hs.put hs.1 hcs (by exact cX hb hjo) _,Nat.le_succ _⟩
  simp only [fO p1,bB,if_false]
  by_cases p2:j.Pc=2
  · have hc2:(s.Cells.set j.Op.Cell.toNat j.H).length=2∧∀h∈s.Cells.set j.Op.Cell.toNat j.H,dK h:=⟨by simpa using hcs.1,fun q hq=>(List.mem_or_eq_of_mem_set hq).elim (hcs.2 q) (fun e=>e ▸ hjo.2.1)⟩
    simp only [p2,beq_self_eq_true,if_true,hcell,aJ,hset,hn,A2,c9,dL,A1,bP,dD,iY]
    by_cases c0:cell=0
    · simp only [c0,beq_self_eq_true,if_true,aJ,hj,List.set_set];exact⟨_,rfl,rfl,hs.put hs.1 hc2 (by exact cX hb ⟨hjo.1,hjo.2.1,.inl rfl⟩) _,by simp⟩
    · simp only [fO c0,bB,if_false,aJ,hj,List.set_set];exact⟨_,rfl,rfl,hs.put hs.1 hc2 (by exact cX hb ⟨hjo.1,hjo.2.1,hcm⟩) _,by simp⟩
  simp only [fO p2,bB,if_false]
  by_cases p3:j.Pc=3
  · obtain⟨x,y,e1,e2,hx⟩:=step_eq hs.1 hs.1.small hw j.Sub
    simp only [p3,beq_self_eq_true,if_true,e1,e2,aJ]
    cases hd:y.cQ with
    | false=>simp only [nE,if_true,bB,if_false,aJ,hj];exact⟨_,rfl,rfl,hs.put hx hcs (by exact cX hb hjo) _,Nat.le_succ _⟩
    | true=>simp only [eS,if_true,bB,if_false,aJ,hj];exact⟨_,rfl,rfl,hs.put hx hcs (by exact cX hb hjo) _,Nat.le_succ _⟩
  simp only [fO p3,bB,if_false,aJ,hj]
  exact⟨_,rfl,rfl,hs.put hs.1 hcs (by exact cX hb hjo) _,Nat.le_succ _⟩
theorem get_eq(hk:j.Op.Kind=2):∃x,((zA s w j).bind fun q=>dN w q.1 q.2)=some x∧A4 s w=some x∧E4 x∧x.Log.length≤s.Log.length+1:=by
  have h3:=hs.2.2.1
  have hset:∀x,idx (s.aR.set w.toNat x) w=some x:=IU hw.1 (by omega)
  have hn:∀(e:Ev) {α:Type} (k:Option α),need (s.Log.length + [e].length≤1073741824) k=k:=fun e _ k=>aU (by simp;omega) k
  have hcs:s.Cells.length=2∧∀h∈s.Cells,dK h:=⟨hs.2.1,hs.2.2.2.2.2.1⟩
  have hcell:idx s.Cells j.Op.Cell=some (s.Cells[j.Op.Cell.toNat]'(by have:=hjo.1.2.2.1;omega)):=iT hjo.1.2.2.1.1 (by have:=hjo.1.2.2.1;omega)
  have hcm:dK (s.Cells[j.Op.Cell.toNat]'(by have:=hjo.1.2.2.1;omega)):=hcs.2 _ (List.getElem_mem _)
  generalize (s.Cells[j.Op.Cell.toNat]'(by have:=hjo.1.2.2.1;omega))=cell at hcell hcm
  obtain⟨pn,hpn,_⟩:=WX hs.1.1.2.1 hw
  unfold zA A4
  rw [hj]
  simp only [aJ,bQ,bP,dD,dN]
  by_cases p0:j.Pc=0
  · obtain⟨x,y,e1,e2,hx⟩:=step_eq hs.1 hs.1.small hw j.Sub
    simp only [p0,beq_self_eq_true,if_true,e1,e2,aJ]
    cases hd:y.cQ with
    | false=>simp only [nE,if_true,bB,if_false,aJ,hj];exact⟨_,rfl,rfl,hs.put hx hcs (by exact cX hb hjo) _,Nat.le_succ _⟩
    | true=>simp only [eS,if_true,bB,if_false,aJ,hj];exact⟨_,rfl,rfl,hs.put hx hcs (by exact cX hb hjo) _,Nat.le_succ _⟩
  simp only [fO p0,bB,if_false]
  by_cases p1:j.Pc=1
  · simp only [p1,beq_self_eq_true,if_true,hcell,aJ,gZ,hn,tO,hj,c9,dL,hset]
    by_cases c0:cell=0
    · simp only [c0,beq_self_eq_true,if_true,aJ,hj,List.set_set];exact⟨_,rfl,rfl,hs.put hs.1 hcs (by exact cX hb ⟨hjo.1,.inl rfl,hjo.2.2⟩) _,by simp⟩
    · simp only [fO c0,bB,if_false,aJ,hj,List.set_set];exact⟨_,rfl,rfl,hs.put hs.1 hcs (by exact cX hb ⟨hjo.1,hcm,hjo.2.2⟩) _,by simp⟩
  simp only [fO p1,bB,if_false]
  by_cases p2:j.Pc=2
  · obtain⟨r,e1,e2⟩:=aJ7 hs.1.1.1 j.H
    simp only [p2,beq_self_eq_true,if_true,pU,kP,hj,e1,e2,aJ,hset,List.set_set]
    exact⟨_,rfl,rfl,hs.put hs.1 hcs (by exact cX hb hjo) _,Nat.le_succ _⟩
  simp only [fO p2,bB,if_false]
  by_cases p3:j.Pc=3
  · simp only [p3,beq_self_eq_true,if_true,wB,kV,hj,hpn,aJ,dD,qD,jB,oL,bQ]
    cases pn.On with
    | false=>simp only [bB,if_false,aJ,nE,if_true,hj];exact⟨_,rfl,rfl,hs.put hs.1 hcs (by exact cX hb hjo) _,Nat.le_succ _⟩
    | true =>
      simp only [if_true,aJ]
      cases pn.fF with
      | false=>simp only [bB,if_false,aJ,nE,eS,if_true,hj];exact⟨_,rfl,rfl,hs.put hs.1 hcs (by exact cX hb hjo) _,Nat.le_succ _⟩
      | true=>simp only [bB,if_false,aJ,nE,eS,if_true,hj];exact⟨_,rfl,rfl,hs.put hs.1 hcs (by exact cX hb hjo) _,Nat.le_succ _⟩
  simp only [fO p3,bB,if_false]
  by_cases p4:j.Pc=4
  · obtain⟨r,e1,e2,h1,h2⟩:=VD hs.1.1.2.1 hw
    simp only [p4,beq_self_eq_true,if_true,e1,e2,qY,aJ,hj]
    exact⟨_,rfl,rfl,hs.put (hs.1.clock h1 (by rw [h2];exact Int.le_refl _)) hcs (by exact cX hb hjo) _,Nat.le_succ _⟩
  simp only [fO p4,bB,if_false,aJ,hj]
  exact⟨_,rfl,rfl,hs.put hs.1 hcs (by exact cX hb hjo) _,Nat.le_succ _⟩
theorem aU3(hk:j.Op.Kind=3):∃x,((zC s w j).bind fun q=>dN w q.1 q.2)=some x∧A7 s w=some x∧E4 x∧x.Log.length≤s.Log.length+1:=by
  have h3:=hs.2.2.1
  have hset:∀x,idx (s.aR.set w.toNat x) w=some x:=IU hw.1 (by omega)
  have hn:∀(e:Ev) {α:Type} (k:Option α),need (s.Log.length + [e].length≤1073741824) k=k:=fun e _ k=>aU (by simp;omega) k
  have hcs:s.Cells.length=2∧∀h∈s.Cells,dK h:=⟨hs.2.1,hs.2.2.2.2.2.1⟩
  have hcell:idx s.Cells j.Op.Cell=some (s.Cells[j.Op.Cell.toNat]'(by have:=hjo.1.2.2.1;omega)):=iT hjo.1.2.2.1.1 (by have:=hjo.1.2.2.1;omega)
  have hcm:dK (s.Cells[j.Op.Cell.toNat]'(by have:=hjo.1.2.2.1;omega)):=hcs.2 _ (List.getElem_mem _)
  generalize (s.Cells[j.Op.Cell.toNat]'(by have:=hjo.1.2.2.1;omega))=cell at hcell hcm
  unfold zC A7
  rw [hj]
  simp only [aJ,bQ,bP,dD,dN,A5,A6]
  by_cases p0:j.Pc=0
  · simp only [p0,beq_self_eq_true,if_true,hcell,aJ,gZ,hn,hj,c9,dL,hset]
    by_cases c0:cell=0
    · simp only [c0,beq_self_eq_true,if_true,aJ,hj,List.set_set,hn];exact⟨_,rfl,rfl,hs.put hs.1 hcs (by exact cX hb ⟨hjo.1,.inl rfl,hjo.2.2⟩) _,by simp⟩
    · simp only [fO c0,bB,if_false,aJ,hj,List.set_set];exact⟨_,rfl,rfl,hs.put hs.1 hcs (by exact cX hb ⟨hjo.1,hcm,hjo.2.2⟩) _,Nat.le_succ _⟩
  simp only [fO p0,bB,if_false]
  by_cases p1:j.Pc=1
  · obtain⟨r,e1,e2,h1⟩:=TD hs.1.1.2.2.2 hw j.H
    simp only [p1,beq_self_eq_true,if_true,e1,e2,aJ,hj]
    exact⟨_,rfl,rfl,hs.put (hs.1.haz h1) hcs (by exact cX hb hjo) _,Nat.le_succ _⟩
  simp only [fO p1,bB,if_false]
  by_cases p2:j.Pc=2
  · simp only [p2,beq_self_eq_true,if_true,hcell,aJ,gZ,hn,hj,c9,dL]
    by_cases c0:cell=j.H
    · simp only [c0,bne_self_eq_false,bB,if_false,aJ,hj];exact⟨_,rfl,rfl,hs.put hs.1 hcs (by exact cX hb hjo) _,by simp⟩
    · simp only [NQ c0,if_true,aJ,hj];exact⟨_,rfl,rfl,hs.put hs.1 hcs (by exact cX hb hjo) _,Nat.le_succ _⟩
  simp only [fO p2,bB,if_false]
  by_cases p3:j.Pc=3
  · obtain⟨r,e1,e2⟩:=aJ7 hs.1.1.1 j.H
    simp only [p3,beq_self_eq_true,if_true,pU,kP,hj,e1,e2,aJ,hset,List.set_set]
    exact⟨_,rfl,rfl,hs.put hs.1 hcs (by exact cX hb hjo) _,Nat.le_succ _⟩
  simp only [fO p3,bB,if_false]
  by_cases p4:j.Pc=4
  · obtain⟨r,e1,e2,h1⟩:=aIQ hs.1.1.2.2.2 hw
    simp only [p4,beq_self_eq_true,if_true,e1,e2,aJ,hj]
    exact⟨_,rfl,rfl,hs.put (hs.1.haz h1) hcs (by exact cX hb hjo) _,Nat.le_succ _⟩
  simp only [fO p4,bB,if_false,aJ,hj]
  exact⟨_,rfl,rfl,hs.put hs.1 hcs (by exact cX hb hjo) _,Nat.le_succ _⟩
theorem aSF(hk:j.Op.Kind=7):∃x,((uP s w j).bind fun q=>dN w q.1 q.2)=some x∧xW s w=some x∧E4 x∧x.Log.length≤s.Log.length+1:=by
  have h3:=hs.2.2.1
  have hset:∀x,idx (s.aR.set w.toNat x) w=some x:=IU hw.1 (by omega)
  have hn:∀(e:Ev) {α:Type} (k:Option α),need (s.Log.length + [e].length≤1073741824) k=k:=fun e _ k=>aU (by simp;omega) k
  have hcs:s.Cells.length=2∧∀h∈s.Cells,dK h:=⟨hs.2.1,hs.2.2.2.2.2.1⟩
  have hcell:idx s.Cells j.Op.Cell=some (s.Cells[j.Op.Cell.toNat]'(by have:=hjo.1.2.2.1;omega)):=iT hjo.1.2.2.1.1 (by have:=hjo.1.2.2.1;omega)
  have hcm:dK (s.Cells[j.Op.Cell.toNat]'(by have:=hjo.1.2.2.1;omega)):=hcs.2 _ (List.getElem_mem _)
  generalize (s.Cells[j.Op.Cell.toNat]'(by have:=hjo.1.2.2.1;omega))=cell at hcell hcm
  obtain⟨pn,hpn,_⟩:=WX hs.1.1.2.1 hw
  unfold uP xW
  rw [hj,hpn]
  simp only [aJ,bQ,bP,dD,dN,yV,qF,qE,hj]
  by_cases p0:j.Pc=0
  · simp only [p0,beq_self_eq_true,if_true]
    cases pn.On with
    | false=>simp only [nE,if_true,aJ,hj];exact⟨_,rfl,rfl,hs.put hs.1 hcs (by exact cX hb hjo) _,Nat.le_succ _⟩
    | true =>
      simp only [eS,bB,if_false]
      cases pn.fF with
      | true=>simp only [if_true,aJ,hj];exact⟨_,rfl,rfl,hs.put hs.1 hcs (by exact cX hb hjo) _,Nat.le_succ _⟩
      | false =>
        simp only [bB,if_false,hcell,aJ,gZ,hn,tO,hj,c9,dL,hset]
        by_cases c0:cell=0
        · simp only [c0,beq_self_eq_true,if_true,aJ,hj,List.set_set];exact⟨_,rfl,rfl,hs.put hs.1 hcs (by exact cX hb ⟨hjo.1,.inl rfl,hjo.2.2⟩) _,by simp⟩
        · simp only [fO c0,bB,if_false,aJ,hj,List.set_set];exact⟨_,rfl,rfl,hs.put hs.1 hcs (by exact cX hb ⟨hjo.1,hcm,hjo.2.2⟩) _,by simp⟩
  simp only [fO p0,bB,if_false,hj,aJ]
  by_cases p1:j.Pc=1
  · obtain⟨r,e1,e2⟩:=aJ7 hs.1.1.1 j.H
    simp only [p1,beq_self_eq_true,if_true,pU,kP,hj,e1,e2,aJ,hset,List.set_set]
    exact⟨_,rfl,rfl,hs.put hs.1 hcs (by exact cX hb hjo) _,Nat.le_succ _⟩
  simp only [fO p1,bB,if_false]
  by_cases p2:j.Pc=2
  · simp only [p2,beq_self_eq_true,if_true,wB,kV,hj,hpn,aJ,dD,qD,jB,oL,bQ]
    cases pn.On with
    | false=>simp only [bB,if_false,aJ,nE,if_true,hj];exact⟨_,rfl,rfl,hs.put hs.1 hcs (by exact cX hb hjo) _,Nat.le_succ _⟩
    | true =>
      simp only [if_true,aJ]
      cases pn.fF with
      | false=>simp only [bB,if_false,aJ,nE,eS,if_true,hj];exact⟨_,rfl,rfl,hs.put hs.1 hcs (by exact cX hb hjo) _,Nat.le_succ _⟩
      | true=>simp only [bB,if_false,aJ,nE,eS,if_true,hj];exact⟨_,rfl,rfl,hs.put hs.1 hcs (by exact cX hb hjo) _,Nat.le_succ _⟩
  simp only [fO p2,bB,if_false,aJ,hj]
  exact⟨_,rfl,rfl,hs.put hs.1 hcs (by exact cX hb hjo) _,Nat.le_succ _⟩
theorem aQH(hk:j.Op.Kind=4∨j.Op.Kind=5∨j.Op.Kind=6):∃x,((rM s w j).bind fun q=>dN w q.1 q.2)=some x∧vA s w=some x∧E4 x∧x.Log.length≤s.Log.length+1:=by
  have h3:=hs.2.2.1
  have hset:∀x,idx (s.aR.set w.toNat x) w=some x:=IU hw.1 (by omega)
  have hcs:s.Cells.length=2∧∀h∈s.Cells,dK h:=⟨hs.2.1,hs.2.2.2.2.2.1⟩
  obtain⟨x,y,e1,e2,hx⟩:=step_eq hs.1 hs.1.small hw j.Sub
  unfold rM vA
  rw [hj]
  simp only [aJ,bQ,bP,dD,dN,eH,iY,oN,jD,n9,nW,nZ,nY,nX,hj,e1,e2]
  rcases hk with k4 | k5 | k6
  · simp only [k4,show((4:Int) == 6)=false from rfl,show((4:Int) == 5)=false from rfl,show((4:Int) == 4)=true from rfl,bB,if_false,if_true]
    by_cases p0:j.Pc=0
    · simp only [p0,bne_self_eq_false,beq_self_eq_true,bB,if_false,if_true]
      cases hd:y.cQ with
      | false=>simp only [nE,if_true,bB,if_false,aJ,hj];exact⟨_,rfl,rfl,hs.put hx hcs (by exact cX hb hjo) _,Nat.le_succ _⟩
      | true=>simp only [eS,if_true,bB,if_false,aJ,hj];exact⟨_,rfl,rfl,hs.put hx hcs (by exact cX hb hjo) _,Nat.le_succ _⟩
    · simp only [NQ p0,fO p0,bB,if_false,if_true]
      by_cases p1:j.Pc=1
      · simp only [p1,bne_self_eq_false,beq_self_eq_true,bB,if_false,if_true,show((1:Int) == 0)=false from rfl]
        cases hd:y.cQ with
        | false=>simp only [nE,if_true,bB,if_false,aJ,hj];exact⟨_,rfl,rfl,hs.put hx hcs (by exact cX hb hjo) _,Nat.le_succ _⟩
        | true=>simp only [eS,if_true,bB,if_false,aJ,hj];exact⟨_,rfl,rfl,hs.put hx hcs (by exact cX hb hjo) _,Nat.le_succ _⟩
      · simp only [NQ p1,fO p1,bB,if_false,if_true,aJ,hj]
        exact⟨_,rfl,rfl,hs.put hs.1 hcs (by exact cX hb hjo) _,Nat.le_succ _⟩
  · simp only [k5,show((5:Int) == 6)=false from rfl,show((5:Int) == 5)=true from rfl,show((5:Int) == 4)=false from rfl,bB,if_false,if_true]
    by_cases p0:j.Pc=0
    · simp only [p0,bne_self_eq_false,beq_self_eq_true,bB,if_false,if_true]
      cases hd:y.cQ with
      | false=>simp only [nE,if_true,bB,if_false,aJ,hj];exact⟨_,rfl,rfl,hs.put hx hcs (by exact cX hb hjo) _,Nat.le_succ _⟩
      | true=>simp only [eS,if_true,bB,if_false,aJ,hj];exact⟨_,rfl,rfl,hs.put hx hcs (by exact cX hb hjo) _,Nat.le_succ _⟩
    · simp only [NQ p0,fO p0,bB,if_false,if_true]
      by_cases p1:j.Pc=1
      · simp only [p1,bne_self_eq_false,bB,if_false,if_true,aJ,hj]
        exact⟨_,rfl,rfl,hs.put hs.1 hcs (by exact cX hb hjo) _,Nat.le_succ _⟩
      · simp only [NQ p1,if_true,aJ,hj]
        exact⟨_,rfl,rfl,hs.put hs.1 hcs (by exact cX hb hjo) _,Nat.le_succ _⟩
  · simp only [k6,beq_self_eq_true,show((6:Int) == 5)=false from rfl,show((6:Int) == 4)=false from rfl,bB,if_false,if_true]
    by_cases p0:j.Pc=0
    · obtain⟨r,f1,f2,h1,h2⟩:=VD hs.1.1.2.1 hw
      simp only [p0,beq_self_eq_true,if_true,f1,f2,qY,aJ]
      cases hr:r.2 with
      | false=>simp only [nE,if_true,aJ,hj];exact⟨_,rfl,rfl,hs.put (hs.1.clock h1 (by rw [h2];exact Int.le_refl _)) hcs (by exact cX hb hjo) _,Nat.le_succ _⟩
      | true=>simp only [eS,bB,if_false,aJ,hj];exact⟨_,rfl,rfl,hs.put (hs.1.clock h1 (by rw [h2];exact Int.le_refl _)) hcs (by exact cX hb hjo) _,Nat.le_succ _⟩
    · simp only [fO p0,bB,if_false,aJ,hj]
      exact⟨_,rfl,rfl,hs.put hs.1 hcs (by exact cX hb hjo) _,Nat.le_succ _⟩
end
theorem aJ9{l:List gA}(h:0 < l.length)(hl:l.length≤1000):uT l 0 1=some (l.drop 1):=by
  have e:=del_eq (l:=l) (k:=0) h
  unfold uT
  rw [aU (by omega),if_neg (by simp),aU (by omega),aU (by omega),aU (by omega),aU]
  · simp only [Int.toNat_zero,Int.toNat_one] at e ⊢
    rw [Nat.zero_add] at e
    rw [Nat.zero_add,e,List.eraseIdx_zero,List.drop_one]
  · rw [fS (by omega)]
    simp only [List.drop_zero,List.length_take,fS (show(0:Int).toNat≤l.length by simp)]
    omega
theorem aCM{o:gA}(ho:l7 o)(ser pc:Int)(sub:Sub)(code:Int):JOk ⟨true,o,ser,pc,sub,0,0,0,code⟩:=(IT rfl).2 ⟨ho,.inl rfl,.inl rfl⟩
theorem aQI{s:aD}(hs:E4 s)(hl:s.Log.length≤1000000000){w:Int}(hw:0≤w∧w≤2){j:bX}(hj:idx s.aR w=some j):∃x,v5 s w=some x∧uU s w=some x∧E4 x∧x.Log.length≤s.Log.length+1:=by
  have h3:=hs.2.2.1
  have ht:=hs.2.2.2.1
  have hser:=hs.2.2.2.2.1
  have hset:∀x,idx (s.aR.set w.toNat x) w=some x:=IU hw.1 (by omega)
  have hn:∀(e:Ev) {α:Type} (k:Option α),need (s.Log.length + [e].length≤1073741824) k=k:=fun e _ k=>aU (by simp;omega) k
  have hq:idx s.cG w=some (s.cG[w.toNat]'(by have:=ht.1;omega)):=iT hw.1 (by have:=ht.1;omega)
  have hqk:QOk (s.cG[w.toNat]'(by have:=ht.1;omega)):=ht.2 _ (List.getElem_mem _)
  generalize (s.cG[w.toNat]'(by have:=ht.1;omega))=q at hq hqk
  obtain⟨pn,hpn,_⟩:=WX hs.1.1.2.1 hw
  have ew:bC (s.aN+1)=s.aN+1:=aS (by omega) (by omega)
  unfold v5 uU
  rw [hq]
  simp only [aJ,hJ,nT]
  by_cases l0:q.fX.length=0
  · simp only [show((q.fX.length:Int) == 0)=true by rw [l0];rfl,if_true]
    exact⟨_,rfl,rfl,hs,Nat.le_succ _⟩
  · simp only [show((q.fX.length:Int) == 0)=false from fO (by omega),bB,if_false]
    by_cases s0:s.aN=1000000
    · simp only [s0,beq_self_eq_true,if_true]
      exact⟨_,rfl,rfl,hs,Nat.le_succ _⟩
    · simp only [fO s0,bB,if_false,hq,aJ]
      have hx:idx q.fX 0=some (q.fX[0]'(by omega)):=by have:=aX (l:=q.fX) (k:=0) (by omega);simpa using this
      have ho:l7 (q.fX[0]'(by omega)):=hqk.2 _ (List.getElem_mem _)
      have h12:=hqk.1
      have hdel:=aJ9 (l:=q.fX) (by omega) (by omega)
      generalize (q.fX[0]'(by omega))=o at hx ho
      have etk:(q.fX.take q.fX.length).drop (1:Int).toNat=q.fX.drop 1:=by rw [List.take_length];rfl
      have hT:QY (s.cG.set w.toNat ⟨q.fX.drop 1⟩):=⟨by simpa using ht.1,fun z hz=>(List.mem_or_eq_of_mem_set hz).elim (ht.2 z) (fun e=>by
        subst e
        exact⟨by simp only [List.length_drop];omega,fun a ha=>hqk.2 a (List.mem_of_mem_drop ha)⟩)⟩
      have fin:∀(jb:bX) (l:List Ev),JOk jb→E4 ⟨s.aB,s.Cells,s.aR.set w.toNat jb,s.cG.set w.toNat ⟨q.fX.drop 1⟩,l,s.aN+1⟩:=fun jb l hjb=>
        ⟨hs.1,hs.2.1,by simpa using h3,hT,by simp only;omega,hs.2.2.2.2.2.1,fun z hz=>(List.mem_or_eq_of_mem_set hz).elim (hs.2.2.2.2.2.2 z) (fun e=>e ▸ hjb)⟩
      simp only [hx,hdel,aJ,eH,iY,ew]
      rw [aU (by omega)]
      by_cases k1:o.Kind=1
      · simp only [k1,beq_self_eq_true,if_true,dY,dV,hj,c9,dL,aJ,hset,hn,etk,ew]
        exact⟨_,rfl,rfl,fin _ _ (aCM ho _ _ _ _),by simp⟩
      simp only [fO k1,bB,if_false]
      have pin:∀z,z=true→∃x,jC s w q o z=some x∧iU s w o (q.fX.drop 1) z=some x∧E4 x∧x.Log.length≤s.Log.length+1:=fun z hz=>by
        subst hz
        simp only [jC,iU,if_true,eH,iY,hpn,aJ,bP]
        cases pn.On with
        | true =>
          simp only [if_true,dY,dV,hj,c9,dL,aJ,hset,hn,etk,ew]
          exact⟨_,rfl,rfl,fin _ _ (aCM ho _ _ _ _),by simp⟩
        | false =>
          simp only [bB,if_false,dY,dV,hj,c9,dL,aJ,hset,hn,etk,ew]
          exact⟨_,rfl,rfl,fin _ _ (aCM ho _ _ _ _),by simp⟩
      by_cases k2:o.Kind=2
      · simp only [k2,beq_self_eq_true,if_true];exact pin true rfl
      simp only [fO k2,bB,if_false]
      by_cases k5:o.Kind=5
      · simp only [k5,beq_self_eq_true];exact pin true rfl
      simp only [fO k5,jC,iU,bB,if_false,eH,iY,aJ]
      by_cases k4:o.Kind=4
      · simp only [k4,beq_self_eq_true,if_true,dY,dV,hj,c9,dL,aJ,hset,hn,etk,ew]
        exact⟨_,rfl,rfl,fin _ _ (aCM ho _ _ _ _),by simp⟩
      · simp only [fO k4,bB,if_false,dY,dV,hj,c9,dL,aJ,hset,hn,etk,ew]
        exact⟨_,rfl,rfl,fin _ _ (aCM ho _ _ _ _),by simp⟩
theorem aG3{s:aD}(hs:E4 s)(hl:s.Log.length≤1000000000){w:Int}(hw:0≤w∧w≤2):∃x,yQ s w=some x∧xX s w=some x∧E4 x∧x.Log.length≤s.Log.length+1:=by
  have h3:=hs.2.2.1
  have hset:∀x,idx (s.aR.set w.toNat x) w=some x:=IU hw.1 (by omega)
  have hn:∀(e:Ev) {α:Type} (k:Option α),need (s.Log.length + [e].length≤1073741824) k=k:=fun e _ k=>aU (by simp;omega) k
  have hj:idx s.aR w=some (s.aR[w.toNat]'(by omega)):=iT hw.1 (by omega)
  have hjk:JOk (s.aR[w.toNat]'(by omega)):=hs.2.2.2.2.2.2 _ (List.getElem_mem _)
  generalize (s.aR[w.toNat]'(by omega))=j at hj hjk
  unfold yQ xX
  rw [hj]
  simp only [aJ]
  cases hb:j.iV with
  | false =>
    obtain⟨x,e1,e2,e3,e4⟩:=aQI hs hl hw hj
    simp only [nE,if_true,e1,e2,aJ]
    exact⟨_,rfl,rfl,e3,e4⟩
  | true =>
    have hjo:=(IT hb).1 hjk
    simp only [eS,bB,if_false]
    by_cases p9:j.Pc=9
    · simp only [p9,beq_self_eq_true,if_true,hn,c9,dL,hj,aJ]
      exact⟨_,rfl,rfl,hs.put hs.1 ⟨hs.2.1,hs.2.2.2.2.2.1⟩ ((QZ rfl).2 rfl) _,by simp⟩
    simp only [fO p9,bB,if_false]
    have close:∀{A B:Option aD} {x:aD},A=some x→B=some x→E4 x→x.Log.length≤s.Log.length+1→∃x,A=some x∧(B.bind fun z=>some z)=some x∧E4 x∧x.Log.length≤s.Log.length+1:=fun h1 h2 h3 h4=>⟨_,h1,by rw [h2];rfl,h3,h4⟩
    by_cases k1:j.Op.Kind=1
    · obtain⟨x,e1,e2,e3,e4⟩:=aU2 hs hl hw hj hb hjo k1
      simp only [k1,beq_self_eq_true,if_true];exact close e1 e2 e3 e4
    simp only [fO k1,bB,if_false]
    by_cases k2:j.Op.Kind=2
    · obtain⟨x,e1,e2,e3,e4⟩:=get_eq hs hl hw hj hb hjo k2
      simp only [k2,beq_self_eq_true,if_true];exact close e1 e2 e3 e4
    simp only [fO k2,bB,if_false]
    by_cases k3:j.Op.Kind=3
    · obtain⟨x,e1,e2,e3,e4⟩:=aU3 hs hl hw hj hb hjo k3
      simp only [k3,beq_self_eq_true,if_true];exact close e1 e2 e3 e4
    simp only [fO k3,bB,if_false]
    by_cases k7:j.Op.Kind=7
    · obtain⟨x,e1,e2,e3,e4⟩:=aSF hs hl hw hj hb hjo k7
      simp only [k7,beq_self_eq_true,if_true];exact close e1 e2 e3 e4
    simp only [fO k7,bB,if_false]
    have hkr:=hjo.1.1
    obtain⟨x,e1,e2,e3,e4⟩:=aQH hs hl hw hj hb hjo (by omega)
    exact close e1 e2 e3 e4
end Go.Gv
end
noncomputable section
namespace Go.Gv
def aSG(s:Sub)(code:Int):Sub:={s with Code:=code,cQ:=true}
end Go.Gv
end
noncomputable section
namespace Go.Gv
def xC(c:aI)(w:Int):gK:=c.bA.getD w.toNat ⟨false,0,false,0⟩
def aCN(c:aI)(w e:Int):aI×Bool:=if 0≤e∧e≤c.aL then (⟨c.aL,c.bA.set w.toNat ⟨true,e,false,0⟩⟩,true) else (c,false)
def aSH(b:aB)(w:Int)(s:Sub):aB×Sub:=
  if s.Pc=0 then (b,{s with Pc:=1,E:=b.aI.aL})
  else if s.Pc=1 then
    if (aCN b.aI w s.E).2 then ({b with aI:=(aCN b.aI w s.E).1},{s with Pc:=2}) else ({b with aI:=(aCN b.aI w s.E).1},aSG s 1)
  else if s.Pc=2 then if b.aI.aL=s.E then (b,aSG s 0) else (b,{s with Pc:=0})
  else (b,aSG s 1)
def TE(l:List aO)(w:Int):List b8:=(l.getD w.toNat ⟨[]⟩).Rows
def aQJ(r:b8)(e:Int):Prop:=2≤e∧r.aL≤bC (e - 2)
instance (r:b8) (e:Int):Decidable (aQJ r e):=by unfold aQJ;infer_instance
def aWW(z:List Int)(w:Int):Int:=z.getD w.toNat 0
def aX9(l:List b8)(k:Int):b8:=l.getD k.toNat ⟨0,0⟩
def aTD(l:List b8)(s:Sub):Prop:=0≤s.Row∧s.Row < l.length∧(aX9 l s.Row).Handle=s.H
instance (l:List b8) (s:Sub):Decidable (aTD l s):=by unfold aTD;infer_instance
end Go.Gv
end
noncomputable section
namespace Go.Gv
def aLY:aE:=⟨List.replicate 384 0,[-1,-1,-1,-1,-1,-1]⟩
def aU4:aA:=⟨List.replicate 3 ⟨[]⟩,List.replicate 9 ⟨[]⟩⟩
def aLZ:aB:=⟨⟨aLY,aU4⟩,⟨0,List.replicate 3 ⟨false,0,false,0⟩⟩,List.replicate 3 ⟨[]⟩,List.replicate 3 0⟩
theorem FU:A9=some aLY:=by
  unfold A9
  have key:loop rA (0,[])=some (List.replicate 6 (-1)):=l9 (f:=rA) 6 (fun k=>((k:Int),List.replicate k (-1))) _ (fun k hk=>by
    simp only [rA]
    rw [if_pos (by simp;omega),aU (by simp;omega),aS (by omega) (by omega),List.replicate_succ'];rfl) (by simp [rA])
  rw [aU (by omega),key];rfl
theorem aU5:BU [-1] 6=some [-1,-1,-1,-1,-1,-1]:=by
  unfold BU
  rw [if_neg (by simp),show RX (IntKind.u64.wrap (([-1]:List Int).length:Int)) (IntKind.u64.wrap 6)=some (0,6) by kernel_rfl]
  simp only [aJ]
  rw [if_neg (by simp),bR (by omega)]
  simp only [tR,bB,if_false]
  rw [show IntKind.i64.wrap 6=6 from wrap_i64 (by omega) (by omega),aU (by omega),
    show(dQ (List.replicate (Int.toNat 6) 0) 0 [-1],((min ([-1]:List Int).length ((List.replicate (Int.toNat 6) (0:Int)).length - 0):Nat):Int))=([-1,0,0,0,0,0],1) by kernel_rfl,
    cR (body:=jV) (s':=([-1,-1,0,0,0,0],2)) (by kernel_rfl),cR (body:=jV) (s':=([-1,-1,-1,-1,0,0],4)) (by kernel_rfl),
    cR (body:=jV) (s':=([-1,-1,-1,-1,-1,-1],6)) (by kernel_rfl),cT (body:=jV) (r:=[-1,-1,-1,-1,-1,-1]) (by kernel_rfl)]
  rfl
theorem ZB:M7=some aLY:=by
  unfold M7
  rw [aU (by omega),aU5];rfl
theorem TF:BA=some aLZ∧M8=some aLZ:=by
  unfold BA M8 EW W8 rR RZ wO R0 wP R1 EX W9
  rw [FU,ZB,aU (by omega),aU (by omega),aU (by omega),aU (by omega),aU (by omega)]
  exact⟨rfl,rfl⟩
theorem aIR:l6 aLZ:=of_decide_eq_true (by kernel_rfl)
def aL0:aD:=⟨⟨⟨⟨[],[]⟩,⟨[],[]⟩⟩,⟨0,[]⟩,[],[]⟩,[],[],[],[],0⟩
def TG(t:List Queue):aD:=⟨aLZ,List.replicate 2 0,List.replicate 3 aFG,t,[],0⟩
theorem aMU{t:List Queue}(h:QY t):E4 (TG t):=
  ⟨aIR,rfl,rfl,h,by simp [TG],fun q hq=>by simp [TG] at hq;exact .inl hq,fun j hj=>by simp [TG] at hj;exact(QZ (by rw [hj];rfl)).2 hj⟩
theorem RJ{l:List Queue}(hl:l.length≤1048576)(hq:∀q∈l,q.fX.length≤1048576):sY l=some l∧wE l=some l:=by
  constructor
  · unfold sY
    rw [QU l]
    · rfl
    · intro k hk
      have:=hq _ (List.getElem_mem hk)
      simp only [zX]
      rw [if_pos (by simp;omega),aX hk]
      simp only [aJ]
      rw [aU (by simp;omega),aU (by simp;omega),aS (by omega) (by omega)];rfl
    · simp [zX]
  · unfold wE
    rw [QU l]
    · rfl
    · intro k hk
      have:=hq _ (List.getElem_mem hk)
      simp only [CY]
      rw [if_pos (by simp;omega),aX hk]
      simp only [aJ,FE]
      rw [aU (by simp;omega),aJ,aU (by simp;omega),aS (by omega) (by omega)];rfl
    · simp [CY]
theorem aIS{t:List Queue}(hl:t.length≤1048576)(hq:∀q∈t,q.fX.length≤1048576):D3 t=some (if QY t then TG t else aL0)∧R2 t=some (if QY t then TG t else aL0):=by
  have hm:t.length≤maxLen:=by simp only [maxLen];omega
  unfold D3 R2
  rw [VB hm,VC hm (fun q h=>by have:=hq q h;simp only [maxLen];omega)]
  simp only [aJ]
  by_cases h:QY t
  · simp only [bI h,eS,bB,if_false,if_pos h,TF.1,TF.2,aJ,(RJ hl hq).1,(RJ hl hq).2]
    rw [aU (by omega),aU (by omega),aU (by omega),aU (by omega)]
    exact⟨rfl,rfl⟩
  · simp only [bR h,nE,if_true,if_neg h]
    exact⟨rfl,rfl⟩
end Go.Gv
end
noncomputable section
namespace Go.Gv
def EH(s:aD):Prop:=FT s.aB∧s.Cells.length≤1048576∧s.aR.length≤1048576∧s.cG.length≤1048576∧(∀q∈s.cG,q.fX.length≤1048576)∧s.Log.length≤1048576
theorem EH.fits{s:aD}(h:EH s):s.aB.Mem.aE.Bytes.length≤maxLen∧(eB s.aB.Mem.aA).length≤1073741824∧s.aB.aI.bA.length≤maxLen∧s.aB.aV.length≤maxLen∧(bU s.aB.aV).length≤1073741824∧s.aB.iC.length≤maxLen:=by
  obtain⟨⟨⟨a1,a2,a3,a4,a5⟩,b1,b2,b3,b4⟩,_⟩:=h
  simp only [maxLen];omega
theorem aG4{s:aD}(h:EH s):uK s=some (decide (E4 s)):=Y9 h.fits (by have:=h.2.2.2.1;simp only [maxLen];omega)
theorem aL1{s:aD}(h:EH s):AR s=some (decide (E4 s)):=
  have hM:∀{n:Nat},n≤1048576→n≤maxLen:=fun h=>by simp only [maxLen];omega
  ZA h.fits (hM h.2.2.2.1) (fun q hq=>hM (h.2.2.2.2.1 q hq)) (hM h.2.1) (hM h.2.2.1)
theorem aED{s:aD}(h:EH s):GD s=some s:=by
  obtain⟨hb,c1,c2,c3,c4,c5⟩:=h
  have n1:∀{β:Type} (k:Option β),need (([]:List bX).length+s.aR.length≤1073741824) k=k:=fun k=>aU (by simp only [List.length_nil];omega) k
  have n2:∀{β:Type} (k:Option β),need (([]:List Ev).length+s.Log.length≤1073741824) k=k:=fun k=>aU (by simp only [List.length_nil];omega) k
  unfold GD FA
  simp only [U1 hb,C8 (show s.Cells.length≤1073741824 by omega),(RJ c3 c4).1,aJ,n1,n2,List.nil_append]
theorem SO{s:aD}(h:EH s):AI s=some s:=by
  obtain⟨hb,c1,c2,c3,c4,c5⟩:=h
  have n1:∀{β:Type} (k:Option β),need (([]:List bX).length+s.aR.length≤1073741824) k=k:=fun k=>aU (by simp only [List.length_nil];omega) k
  have n2:∀{β:Type} (k:Option β),need (([]:List Ev).length+s.Log.length≤1073741824) k=k:=fun k=>aU (by simp only [List.length_nil];omega) k
  unfold AI CX FF
  simp only [aGV hb,nD (show s.Cells.length≤1073741824 by omega),(RJ c3 c4).2,aJ,n1,n2,List.nil_append]
theorem XG{s:aD}(h:E4 s)(hl:s.Log.length≤1000000):EH s:=by
  have ht:=h.2.2.2.1
  exact⟨h.1.small,by have:=h.2.1;omega,by have:=h.2.2.1;omega,by have:=ht.1;omega,fun q hq=>by have:=(ht.2 q hq).1;omega,by omega⟩
end Go.Gv
end
noncomputable section
namespace Go.Gv
theorem aTE{h:aE}{s:Int}(hcl:0≤bK h s):(fW s (bK h s)).toNat+8≤384∧8≤gN (bK h s)∧gN (bK h s)≤40:=by
  have hc2:0≤bK h s∧bK h s≤2:=by
    obtain⟨_,q,e⟩:=CD hcl
    rw [e];exact kX.1 (by omega)
  have hz:8≤gN (bK h s)∧gN (bK h s)≤40:=by rcases fK hc2 with e | e | e <;> rw [e] <;> decide
  obtain⟨p,i,p6,hi,es,ec,eo,ep⟩:=CG hcl
  refine⟨?_,hz⟩
  rw [eo]
  have hcl':0≤b7 h p∧b7 h p≤2:=by rw [←ec];exact hc2
  generalize b7 h p=c at hi hcl'
  rcases fK hcl' with rfl | rfl | rfl
  · rw [show(cS 0).toNat=4 from rfl] at hi;rw [show(aW 0).toNat=12 from rfl];omega
  · rw [show(cS 1).toNat=2 from rfl] at hi;rw [show(aW 1).toNat=20 from rfl];omega
  · rw [show(cS 2).toNat=1 from rfl] at hi;rw [show(aW 2).toNat=44 from rfl];omega
structure JR where
  b:aB
  c:List Int
  j:bX
  l:List Ev
noncomputable section
variable (s:aD) (w:Int) (j:bX)
end
def VE(t:List Queue)(w:Int):List gA:=(t.getD w.toNat ⟨[]⟩).fX
def aTF(s:aD)(w:Int):bX:=s.aR.getD w.toNat aFG
noncomputable section
variable {s:aD} (hs:E4 s) (hl:s.Log.length≤1000000000) {w:Int} (hw:0≤w∧w≤2) {j:bX} (hjo:l7 j.Op∧dK j.H∧dK j.Old)
include hs
include hw
include hl hjo
omit hjo
end
end Go.Gv
end
noncomputable section
namespace Go.Gv
def aQK(b:aB)(s:Int):Int:=if jX b.Mem s=3 then (if aGY b.aV s then 3 else 4) else jX b.Mem s
noncomputable section
variable {b:aB} (hb:l6 b)
include hb
theorem l6.fits:b.Mem.aE.Bytes.length≤maxLen∧(eB b.Mem.aA).length≤1073741824∧b.aI.bA.length≤maxLen∧b.aV.length≤maxLen∧(bU b.aV).length≤1073741824∧b.iC.length≤maxLen:=by
  obtain⟨h1,h2,h3,h4,_⟩:=pI.facts hb.1.1
  have a:=hb.1.2.1.2.1;have c:=hb.1.2.2.1.1;have d:=hb.1.2.2.1.2.1;have e:=hb.1.2.2.2.1
  simp only [maxLen];omega
end
end Go.Gv
end
noncomputable section
namespace Go.Gv
def gO{α:Type}(o:Option α)(Q:α→Prop):Prop:=∃x,o=some x∧Q x
abbrev aFH{σ ρ:Type}(I:σ→Prop)(Q:ρ→Prop):Step σ ρ→Prop
  | .next s=>I s
  | .stop r=>Q r
namespace gO
variable {α β σ ρ:Type} {Q:α→Prop}
theorem ret{x:α}(h:Q x):gO (some x) Q:=⟨x,rfl,h⟩
theorem bind{P:β→Prop}{o:Option β}{f:β→Option α}(h:gO o P)(hf:∀x,P x→gO (f x) Q):gO (o.bind f) Q:=by
  obtain⟨x,e,hx⟩:=h
  rw [e];exact hf x hx
theorem need{p:Prop}[Decidable p]{k:Option α}(h:p)(hk:gO k Q):gO (Gv.need p k) Q:=by rw [aU h];exact hk
theorem ite{c:Prop}[Decidable c]{a b:Option α}(h1:c→gO a Q)(h2:¬c→gO b Q):gO (if c then a else b) Q:=by
  by_cases h:c
  · rw [if_pos h];exact h1 h
  · rw [if_neg h];exact h2 h
theorem mono{P:α→Prop}{o:Option α}(h:gO o P)(hf:∀x,P x→Q x):gO o Q:=by obtain⟨x,e,hx⟩:=h;exact⟨x,e,hf x hx⟩
theorem idx{l:List β}{i:Int}(h:0≤i∧i < l.length):gO (Gv.idx l i) (fun x=>x∈l):=⟨_,iT h.1 h.2,List.getElem_mem _⟩
theorem loop{Q:ρ→Prop}{f:σ→Option (Step σ ρ)}{s:σ}(μ:σ→Nat)(Inv:σ→Prop)(h0:Inv s)(hb:∀s,Inv s→gO (f s) (aFH (fun s'=>Inv s'∧μ s' < μ s) (fun r=>Q r))):gO (Gv.loop f s) Q:=by
  have key:∀n s,μ s < n→Inv s→gO (Gv.loop f s) Q:=by
    intro n
    induction n with
    | zero=>intro s h;omega
    | succ n ih =>
      intro s h hs
      obtain⟨q,e,hq⟩:=hb s hs
      cases q with
      | next s'=>rw [cR e];exact ih s' (by have:=hq.2;omega) hq.1
      | stop r=>rw [cT e];exact⟨r,rfl,hq⟩
  exact key _ s (Nat.lt_succ_self _) h0
theorem of{o:Option α}{x:α}(h:o=some x):gO o (fun y=>y=x):=⟨x,h,rfl⟩
end gO
def Cu(b:List UInt8)(i:Int):Prop:=(0≤i∧i≤b.length)∧b.length≤1048576
theorem aQL(x:Int):0≤fY .and .i64 x 255∧fY .and .i64 x 255≤255:=by
  have e:fY .and .i64 x 255=IntKind.i64.wrap ((BitVec.ofInt 64 x &&& BitVec.ofInt 64 255).toNat:Int):=rfl
  have h:(BitVec.ofInt 64 x &&& BitVec.ofInt 64 255).toNat≤255:=by
    rw [BitVec.toNat_and];exact Nat.le_trans Nat.and_le_right (by decide)
  rw [e,wrap_i64 (by omega) (by omega)];omega
noncomputable section
variable {b:List UInt8} {i h:Int} (hc:Cu b i)
include hc
theorem aIT:gO (pL ⟨b,i,h⟩) (fun x=>(0≤x.1∧x.1≤255)∧Cu b x.2.1):=by
  unfold pL A8
  obtain⟨⟨a1,a2⟩,a3⟩:=hc
  refine .ite (fun q=>?_) (fun q=>?_)
  · have q':=of_decide_eq_true q
    simp only at q'
    refine .bind (.idx ⟨a1,q'⟩) fun x _=>.ret ⟨aQL _,?_⟩
    show Cu b (bC (i+1))
    rw [aS (by omega) (by omega)]
    exact⟨by omega,a3⟩
  · exact .ret ⟨aQL _,⟨a1,a2⟩,a3⟩
theorem below{n:Int}(hn:n≤1000000):gO (aQ ⟨b,i,h⟩ n) (fun x=>(0≤x.1∧(x.1 < n∨n≤0∧x.1=0))∧Cu b x.2.1):=by
  unfold aQ
  refine .ite (fun q=>?_) (fun q=>?_)
  · have q':=of_decide_eq_true q
    exact .ret ⟨by simp;omega,hc⟩
  · have q0:0 < n:=by simpa using q
    refine .ite (fun q=>?_) (fun q=>?_)
    · refine .bind (aIT hc) fun x ⟨hx,h1⟩=>.need (by omega) (.ret ⟨?_,h1⟩)
      simp only [wV hx.1]
      exact⟨Int.emod_nonneg _ (by omega),.inl (Int.emod_lt_of_pos _ q0)⟩
    · refine .bind (aIT hc) fun x ⟨hx,h1⟩=>.bind (aIT h1) fun y ⟨hy,h2⟩=>.bind (aIT h2) fun z ⟨hz,h3⟩=>.bind (aIT h3) fun w ⟨hw,h4⟩=>.need (by omega) (.ret ⟨?_,h4⟩)
      have e:bC (bC (bC (bC (x.1 * 16777216)+bC (y.1 * 65536))+bC (z.1 * 256))+w.1)=x.1 * 16777216+y.1 * 65536+z.1 * 256+w.1:=by
        rw [aS (x:=x.1 * 16777216) (by omega) (by omega),aS (x:=y.1 * 65536) (by omega) (by omega),aS (x:=z.1 * 256) (by omega) (by omega),aS (x:=x.1 * 16777216+y.1 * 65536) (by omega) (by omega),aS (x:=x.1 * 16777216+y.1 * 65536+z.1 * 256) (by omega) (by omega),aS (by omega) (by omega)]
      simp only [e]
      rw [wV (by omega)]
      exact⟨Int.emod_nonneg _ (by omega),.inl (Int.emod_lt_of_pos _ q0)⟩
theorem aCO{n:Int}(hn:n≤1000000):gO (m8 ⟨b,i,h⟩ n) (fun x=>Cu b x.2.1):=
  .bind (below hc hn) fun _ ⟨_,h1⟩=>.ret h1
theorem OS{l:List Int}(hl:0 < l.length)(hl2:l.length≤1000):gO (eJ ⟨b,i,h⟩ l) (fun x=>x.1∈l∧Cu b x.2.1):=
  .bind (below hc (by omega)) fun x ⟨hx,h1⟩=>.bind (.idx (by omega)) fun y hy=>.ret ⟨hy,h1⟩
end
theorem aYA{code:List UInt8}(hl:code.length≤1048576):gO (MZ code) (fun x=>Cu code x.1):=by
  unfold MZ
  refine .bind (P:=fun _=>True) (.loop (fun s=>code.length - s.2.toNat) (fun s=>0≤s.2∧s.2≤code.length) ⟨by simp,by simp⟩ ?_) fun x _=>.ret ⟨⟨by simp,by simp⟩,hl⟩
  rintro⟨a,k⟩ ⟨h1,h2⟩
  simp only [RY,DV]
  simp only at h1 h2
  have nx:k < code.length→gO ((idx code k).bind fun x7=>some (Step.next (fY .and .i64 (bC ((bC ((bC (a * 131))+(x7.toNat:Int)))+7)) 1073741823,bC (k+1)))) (aFH (ρ:=Int) (fun s'=>(0≤s'.2∧s'.2≤code.length)∧code.length - s'.2.toNat < code.length - k.toNat) (fun r=>True)):=fun hk=>by
    refine .bind (.idx ⟨h1,hk⟩) fun x _=>.ret ?_
    rw [aS (x:=k+1) (by omega) (by omega)]
    refine⟨⟨?_,?_⟩,?_⟩ <;> (try simp only) <;> omega
  refine .ite (fun q=>?_) (fun q=>?_)
  · have q':=of_decide_eq_true q
    exact .ite (fun _=>nx q') (fun _=>.ret trivial)
  · rw [if_neg (by simp)];exact .ret trivial
end Go.Gv
end
noncomputable section
namespace Go.Gv
noncomputable section
variable {b:List UInt8} {i h:Int} (hc:Cu b i)
include hc
theorem opD:gO (H5 ⟨b,i,h⟩) (fun x=>l7 x.1∧Cu b x.2.1):=by
  unfold H5
  refine .bind (OS hc (by decide) (by decide)) fun x1 ⟨hk,h1⟩=>?_
  have hk7:1≤x1.1∧x1.1≤7:=by simp at hk;omega
  rw [aFF,aJ]
  have key:∀(i' h' cell:Int),Cu b i'→(CH x1.1∨cell=0)→(0≤cell∧cell≤1)→gO (wS ⟨b,i,h⟩ x1 i' h' cell) (fun x=>l7 x.1∧Cu b x.2.1):=by
    intro i' h' cell hc' h2 h3
    unfold wS D2 D1
    refine .ite (fun q=>?_) (fun q=>?_)
    · have q1:x1.1=1:=by simpa using q
      have fin:∀(i h size:Int),Cu b i→(0≤size∧size≤100)→gO ((aQ ⟨b,i,h⟩ 60000).bind fun x13=>some ((⟨x1.1,cell,size,x13.1⟩:gA),(x13.2.1,x13.2.2))) (fun x=>l7 x.1∧Cu b x.2.1):=fun i h size hi hs=>
        .bind (below hi (by omega)) fun v ⟨hv,h4⟩=>.ret ⟨⟨hk7,h2,h3,by rw [if_pos q1];exact⟨hs,by (try simp only);omega⟩⟩,h4⟩
      refine .bind (below hc' (by omega)) fun s ⟨hs,h4⟩=>.bind (aCO h4 (by omega)) fun o h5=>.ite (fun _=>.bind (OS h5 (by decide) (by decide)) fun p ⟨hp,h6⟩=>fin _ _ _ h6 (by simp at hp;omega)) (fun _=>fin _ _ _ h5 (by rw [aS (by omega) (by omega)];omega))
    · have q1:¬x1.1=1:=by simpa using q
      exact .ret ⟨⟨hk7,h2,h3,by rw [if_neg q1];exact⟨rfl,rfl⟩⟩,hc'⟩
  refine .ite (fun q=>?_) (fun q=>?_)
  · refine .bind (OS h1 (by decide) (by decide)) fun x ⟨hx,h2⟩=>key _ _ _ h2 (.inl (of_decide_eq_true q)) (by simp at hx;omega)
  · exact key _ _ _ h1 (.inr rfl) (by omega)
theorem aSI{m:Int}(hm:0≤m∧m≤12):gO (BH ⟨b,i,h⟩ m) (fun x=>(x.1.length=3∧∀q∈x.1,q.fX.length≤m∧∀o∈q.fX,l7 o)∧Cu b x.2.1):=by
  unfold BH
  refine .bind (P:=fun x=>(x.1.length=3∧∀q∈x.1,q.fX.length≤m∧∀o∈q.fX,l7 o)∧Cu b x.2.1) (.loop (fun s=>3 - s.2.1.toNat) (fun s=>((s.1.length:Int)=s.2.1∧s.2.1≤3∧∀q∈s.1,q.fX.length≤m∧∀o∈q.fX,l7 o)∧Cu b s.2.2.1) ⟨⟨rfl,by simp,by simp⟩,hc⟩ ?_) fun x hx=>.ret hx
  rintro⟨l,k,i',h'⟩ ⟨⟨e,k3,hq⟩,hi⟩
  simp only at e k3 hq hi
  simp only [JW]
  refine .ite (fun q=>?_) (fun q=>?_)
  · have q':=of_decide_eq_true q
    rw [aS (x:=m+1) (by omega) (by omega)]
    refine .bind (below hi (by omega)) fun n ⟨hn,h1⟩=>?_
    refine .bind (P:=fun x=>((x.2.2.length:Int)≤m∧∀o∈x.2.2,l7 o)∧Cu b x.1) (.loop (fun s=>s.1.toNat) (fun s=>(0≤s.1∧s.1+s.2.2.2.length≤m∧∀o∈s.2.2.2,l7 o)∧Cu b s.2.1) ⟨⟨hn.1,by simp;omega,by simp⟩,h1⟩ ?_) ?_
    · rintro⟨n,i1,h1,ops⟩ ⟨⟨n0,n1,ho⟩,hi1⟩
      simp only at n0 n1 ho hi1
      simp only [JU,BG]
      refine .ite (fun q=>?_) (fun q=>?_)
      · have q1:=of_decide_eq_true q
        refine .bind (opD hi1) fun o ⟨h2,h3⟩=>.need (by simp;omega) (.ret ?_)
        rw [aS (by omega) (by omega)]
        refine⟨⟨⟨by (try simp only);omega,by simp;omega,?_⟩,h3⟩,by (try simp only);omega⟩
        intro x hx
        rcases List.mem_append.1 hx with hx | hx
        · exact ho x hx
        · rw [List.mem_singleton.1 hx];exact h2
      · have q1:¬0 < n:=by simpa using q
        exact .ret ⟨⟨by (try simp only);omega,ho⟩,hi1⟩
    · rintro⟨i1,h1,ops⟩ ⟨⟨o1,o2⟩,hi1⟩
      simp only [JV,JT]
      refine .need (by simp;omega) (.ret ?_)
      rw [aS (by omega) (by omega)]
      refine⟨⟨⟨by simp;omega,by (try simp only);omega,?_⟩,hi1⟩,by (try simp only);omega⟩
      intro x hx
      rcases List.mem_append.1 hx with hx | hx
      · exact hq x hx
      · rw [List.mem_singleton.1 hx];exact⟨o1,o2⟩
  · have q':¬k < 3:=by simpa using q
    exact .ret ⟨⟨by (try simp only);omega,hq⟩,hi⟩
end
end Go.Gv
end
