import Derived.Test.YtabnjpbikjfhoaaGreatXRE
set_option linter.unusedVariables false
set_option linter.unusedSimpArgs false
set_option linter.unusedSectionVars false
set_option linter.constructorNameAsVariable false
set_option linter.unnecessarySimpa false
noncomputable section
namespace Go.Gv
theorem OD{l:List Int}(hl:l.length≤maxLen):DC l=some (decide (∀x∈l,x=0)):=by
  unfold DC
  have e:(fun y0=>CJ y0)=fun y:Int=>some (!decide (y=0)):=by
    funext y;simp [CJ,bne];rfl
  rw [e,A1 hl,C4]
  simp
noncomputable section
variable {h:aD} (hs:fF h) {p:Nat} (hp:p < 6)
include hs hp
theorem aTZ:(h.Bytes.take ((p+1) * 64)).drop (p * 64)=dU h p:=by
  unfold dU
  rw [List.drop_take];congr 1;omega
theorem aSF{a:Nat}(ha:a+4≤64):ld (dU h p) a 4=ld h.Bytes (p * 64+a) 4:=by
  unfold ld dU
  rw [List.drop_take,List.take_take,List.drop_drop]
  congr 2;omega
theorem aHX{k:Nat}(hk:k < 64):idx (dU h p) (k:Int)=some ((dU h p).getD k 0):=by
  have:=GI hs hp
  rw [aW (by omega),List.getD_eq_getElem?_getD,List.getElem?_eq_getElem (by omega)];rfl
theorem OE:HJ h (p:Int)=some (decide (lY h p)):=by
  have hb:=hs.1
  have hl:=GI hs hp
  have hm:(dU h p).length≤maxLen:=by rw [hl];simp [maxLen]
  have e0:bC ((p:Int) * 64)=((p * 64:Nat):Int):=by rw [aP (by omega) (by omega)];omega
  have e1:bC (bC ((p:Int)+1) * 64)=(((p+1) * 64:Nat):Int):=by rw [aP (x:=(p:Int)+1) (by omega) (by omega),aP (by omega) (by omega)];omega
  have i0:=aHX hs hp (show 0 < 64 by omega)
  have i1:=aHX hs hp (show 1 < 64 by omega)
  have i2:=aHX hs hp (show 2 < 64 by omega)
  rw [show((0:Nat):Int)=0 from rfl] at i0
  rw [show((1:Nat):Int)=1 from rfl] at i1
  rw [show((2:Nat):Int)=2 from rfl] at i2
  unfold HJ
  rw [W7 hs hp]
  simp only [aI,e0,e1,Int.toNat_natCast,aTZ hs hp]
  rw [aR (by omega)]
  by_cases hc:bL h p < 0
  · have hP:lY h p↔∀x∈dU h p,x=0:=by unfold lY;rw [if_pos hc]
    simp only [hc,decide_true,if_true,OD hm,aI,hP]
  · have hP:lY h p↔((dU h p).getD 0 0=171∧(dU h p).getD 1 0=bL h p∧(dU h p).getD 2 0=bP (bL h p))∧(∀x∈((dU h p).drop 3).take 5,x=0)∧∀i,i < (bP (bL h p)).toNat→1≤ld h.Bytes (p * 64+8+i * (aS (bL h p)).toNat) 4∧ld h.Bytes (p * 64+8+i * (aS (bL h p)).toNat) 4≤7:=by unfold lY;rw [if_neg hc]
    simp only [hc,decide_false,aL,if_false,i0,i1,i2,aI,xJ]
    by_cases a0:(dU h p).getD 0 0=171
    · by_cases a1:(dU h p).getD 1 0=bL h p
      · by_cases a2:(dU h p).getD 2 0=bP (bL h p)
        · have n0:((dU h p).getD 0 0 != 171)=false:=by simp only [bne_eq_false_iff_eq];exact a0
          have n1:((dU h p).getD 1 0 != bL h p)=false:=by simp only [bne_eq_false_iff_eq];exact a1
          have n2:((dU h p).getD 2 0 != bP (bL h p))=false:=by simp only [bne_eq_false_iff_eq];exact a2
          have t8:((dU h p).take (8:Int).toNat).drop (3:Int).toNat=((dU h p).drop 3).take 5:=by
            rw [show(8:Int).toNat=8 from rfl,show(3:Int).toNat=3 from rfl,List.drop_take]
          simp only [n0,n1,n2,aL,if_false,iP,t8]
          rw [aR (by omega),OD (by simp [maxLen];omega)]
          by_cases h4:∀x∈((dU h p).drop 3).take 5,x=0
          · simp only [bD h4,aI,dJ,aL,if_false,xJ]
            have key2:loop (oE h (p:Int) (bL h p) (bP (bL h p))) 0=some (if ∀i,i < (bP (bL h p)).toNat→1≤ld h.Bytes (p * 64+8+i * (aS (bL h p)).toNat) 4∧ld h.Bytes (p * 64+8+i * (aS (bL h p)).toNat) 4≤7 then Out.brk () else Out.ret false):=by
              have hle:=lI (bL h p)
              have hst:∀k:Nat,k < (bP (bL h p)).toNat→oE h (p:Int) (bL h p) (bP (bL h p)) (k:Int)=if 1≤ld h.Bytes (p * 64+8+k * (aS (bL h p)).toNat) 4∧ld h.Bytes (p * 64+8+k * (aS (bL h p)).toNat) 4≤7 then some (.next ((k+1:Nat):Int)) else some (.stop (Out.ret false)):=by
                intro k hk
                have hz:=rC hs hp rfl hk
                have e5:bC (8+bC ((k:Int) * aS (bL h p)))=((8+k * (aS (bL h p)).toNat:Nat):Int):=by
                  rw [aP (x:=(k:Int) * aS (bL h p)) (by omega) (by omega),aP (by omega) (by omega)];omega
                have l1:=xK (aK2 hs hp) (a:=8+k * (aS (bL h p)).toNat) (w:=4) (by omega) (by omega) (by omega)
                rw [show((4:Nat):Int)=4 from rfl,aSF hs hp (by omega)] at l1
                simp only [oE,J1,aI,e0,e1,Int.toNat_natCast,aTZ hs hp,e5]
                rw [if_pos (by simp;omega),l1,Nat.add_assoc,aP (x:=(k:Int)+1) (by omega) (by omega)]
                simp only [aI,dX]
                by_cases q:1≤ld h.Bytes (p * 64+(8+k * (aS (bL h p)).toNat)) 4∧ld h.Bytes (p * 64+(8+k * (aS (bL h p)).toNat)) 4≤7
                · rw [if_pos q,bD q];rfl
                · rw [if_neg q,bM q];rfl
              refine wD (f:=oE h (p:Int) (bL h p) (bP (bL h p))) (bP (bL h p)).toNat (fun k=>(k:Int)) (fun i=>1≤ld h.Bytes (p * 64+8+i * (aS (bL h p)).toNat) 4∧ld h.Bytes (p * 64+8+i * (aS (bL h p)).toNat) 4≤7) _ _ (fun k hk hx=>?_) (fun k hk hx=>?_) ?_
              · rw [hst k hk,if_pos hx]
              · rw [hst k hk,if_neg hx]
              · simp only [oE]
                rw [if_neg (by simp;omega)]
            rw [key2]
            by_cases h5:∀i,i < (bP (bL h p)).toNat→1≤ld h.Bytes (p * 64+8+i * (aS (bL h p)).toNat) 4∧ld h.Bytes (p * 64+8+i * (aS (bL h p)).toNat) 4≤7
            · rw [if_pos h5,bD (hP.2 ⟨⟨a0,a1,a2⟩,h4,h5⟩)];rfl
            · rw [if_neg h5,bM (fun q=>h5 (hP.1 q).2.2)];rfl
          · simp only [bM h4,aI,iC,if_true]
            rw [bM (fun q=>h4 (hP.1 q).2.1)]
        · have n0:((dU h p).getD 0 0 != 171)=false:=by simp only [bne_eq_false_iff_eq];exact a0
          have n1:((dU h p).getD 1 0 != bL h p)=false:=by simp only [bne_eq_false_iff_eq];exact a1
          have n2:((dU h p).getD 2 0 != bP (bL h p))=true:=by simp only [bne_iff_ne];exact a2
          simp only [n0,n1,n2,aL,if_false,iP,if_true]
          rw [bM (fun q=>a2 (hP.1 q).1.2.2)]
      · have n0:((dU h p).getD 0 0 != 171)=false:=by simp only [bne_eq_false_iff_eq];exact a0
        have n1:((dU h p).getD 1 0 != bL h p)=true:=by simp only [bne_iff_ne];exact a1
        simp only [n0,n1,aL,if_false,iP,if_true]
        rw [bM (fun q=>a1 (hP.1 q).1.2.1)]
    · have n0:((dU h p).getD 0 0 != 171)=true:=by simp only [bne_iff_ne];exact a0
      simp only [n0,aL,if_false,iP,if_true]
      rw [bM (fun q=>a0 (hP.1 q).1.1)]
end
instance (h:aD):Decidable (∀p,p < 6→lY h p):=Nat.decidableBallLT 6 fun p _=>lY h p
def P8(h:aD):Prop:=fF h∧∀p,p < 6→lY h p
instance (h:aD):Decidable (P8 h):=by unfold P8;infer_instance
theorem ZI{h:aD}(hl:h.Bytes.length≤maxLen):NR h=some (decide (P8 h)):=by
  unfold NR
  rw [WE hl]
  by_cases hs:fF h
  · have key:loop (sW h) 0=some (if ∀p,p < 6→lY h p then Out.brk () else Out.ret false):=by
      refine wD (f:=sW h) 6 (fun k=>(k:Int)) (fun p=>lY h p) _ _ (fun k hk hx=>?_) (fun k hk hx=>?_) ?_
      · simp only [sW]
        rw [if_pos (by simp;omega),OC hs hk,aP (by omega) (by omega),bD hx];rfl
      · simp only [sW]
        rw [if_pos (by simp;omega),OC hs hk,bM hx];rfl
      · rfl
    simp only [aI,bD hs,dJ,aL,if_false]
    rw [key]
    by_cases h4:∀p,p < 6→lY h p
    · rw [if_pos h4,bD (show P8 h from ⟨hs,h4⟩)];rfl
    · rw [if_neg h4,bM (fun q:P8 h=>h4 q.2)];rfl
  · rw [bM (fun q:P8 h=>hs q.1),bM hs];rfl
theorem GJ{h:aD}(hl:h.Bytes.length≤maxLen):DD h=some (decide (P8 h)):=by
  unfold DD
  rw [A2 hl]
  by_cases hs:fF h
  · have key:loop (sC h) 0=some (if ∀p,p < 6→lY h p then Out.brk () else Out.ret false):=by
      refine wD (f:=sC h) 6 (fun k=>(k:Int)) (fun p=>lY h p) _ _ (fun k hk hx=>?_) (fun k hk hx=>?_) ?_
      · simp only [sC]
        rw [if_pos (by simp;omega),OE hs hk,aP (by omega) (by omega),bD hx];rfl
      · simp only [sC]
        rw [if_pos (by simp;omega),OE hs hk,bM hx];rfl
      · rfl
    simp only [aI,bD hs,dJ,aL,if_false]
    rw [key]
    by_cases h4:∀p,p < 6→lY h p
    · rw [if_pos h4,bD (show P8 h from ⟨hs,h4⟩)];rfl
    · rw [if_neg h4,bM (fun q:P8 h=>h4 q.2)];rfl
  · rw [bM (fun q:P8 h=>hs q.1),bM hs];rfl
def aU(h:aD)(s:Int):Int:=if (0≤s∧s≤23)∧s % 4 < bP (bL h (s / 4).toNat) then bL h (s / 4).toNat else -1
theorem nU{h:aD}{s:Int}(hc:0≤aU h s):(0≤s∧s≤23)∧s % 4 < bP (bL h (s / 4).toNat)∧aU h s=bL h (s / 4).toNat:=by
  unfold aU at hc ⊢
  split at hc
  · rename_i h1;exact⟨h1.1,h1.2,by rw [if_pos h1]⟩
  · omega
theorem hQ{h:aD}(hs:fF h)(s:Int):m5 h s=some (aU h s):=by
  unfold m5 xD aU
  rw [OA,MJ]
  by_cases h1:0≤s∧s≤23
  · obtain⟨k,rfl⟩:=Int.eq_ofNat_of_zero_le h1.1
    have hk:k / 4 < 6:=by omega
    have e1:((k:Int) / 4)=((k / 4:Nat):Int):=by omega
    have hi:=W7 hs hk
    have n1:¬((k / 4:Nat):Int) < 0:=by omega
    simp only [h1,and_self,if_true,aI,e1,n1,decide_false,aL,if_false,hi,Int.toNat_natCast,true_and]
    by_cases h2:bL h (k / 4) < 0
    · have h3:bP (bL h (k / 4))=0:=aDS (by omega)
      have h4:¬(k:Int) % 4 < 0:=by omega
      simp [h2,h3,h4]
    · by_cases h3:(k:Int) % 4 < bP (bL h (k / 4))
      · have h4:¬bP (bL h (k / 4))≤(k:Int) % 4:=by omega
        simp [h2,h3,h4,gN]
      · have h4:bP (bL h (k / 4))≤(k:Int) % 4:=by omega
        simp [h2,h3,h4,gN]
  · simp [h1]
theorem kS{h:aD}(hs:fF h)(s:Int):mU h s=some (aU h s):=by
  unfold mU wN aU
  rw [tJ]
  by_cases h1:0≤s∧s≤23
  · obtain⟨k,rfl⟩:=Int.eq_ofNat_of_zero_le h1.1
    have hk:k / 4 < 6:=by omega
    have e1:((k:Int) / 4)=((k / 4:Nat):Int):=by omega
    have hi:=W7 hs hk
    have e2:bC (Int.tdiv (k:Int) 4)=((k / 4:Nat):Int):=by rw [DS (by omega),aP (by omega) (by omega)];omega
    simp only [h1,and_self,decide_true,dJ,aL,if_true,aI,e1,e2,if_false,hi,Int.toNat_natCast,true_and,wE]
    by_cases h3:(k:Int) % 4 < bP (bL h (k / 4))
    · have hm:=GH (c:=bL h (k / 4)) (by omega) h3
      have hg:¬dW (k:Int) (bL h (k / 4)) < 0:=by
        unfold dW;rw [if_pos ⟨h1,h3⟩];omega
      simp [h3,hg]
    · have hg:dW (k:Int) (bL h (k / 4)) < 0:=by
        unfold dW;rw [if_neg (fun q=>h3 q.2)];omega
      simp [h3,hg]
  · simp [h1]
def gR(h:aD)(s:Int):Int:=ld h.Bytes (dW s (aU h s)).toNat 4
theorem C5{h:aD}{s:Int}(hc:0≤aU h s):0≤dW s (aU h s)∧dW s (aU h s)+4≤384:=by
  obtain⟨h1,h2,h3⟩:=nU hc
  rw [h3]
  have hm:=GH (c:=bL h (s / 4).toNat) (by omega) h2
  have hst:0 < aS (bL h (s / 4).toNat):=by
    have:0≤bL h (s / 4).toNat∧bL h (s / 4).toNat≤2:=gG.1 (by omega)
    rcases fE this with e | e | e <;> rw [e] <;> decide
  have:4≤aS (bL h (s / 4).toNat):=by
    have:0≤bL h (s / 4).toNat∧bL h (s / 4).toNat≤2:=gG.1 (by omega)
    rcases fE this with e | e | e <;> rw [e] <;> decide
  unfold dW;rw [if_pos ⟨h1,h2⟩];omega
theorem nE{h:aD}(hs:fF h){s:Int}(hc:0≤aU h s):xX h s=some (gR h s):=by
  have hg:=C5 hc
  unfold xX
  rw [hQ hs]
  simp only [aI,rB]
  have l1:=A0 hs.2.2.1 (a:=(dW s (aU h s)).toNat) (w:=4) (by omega) (by have:=hs.1;omega) (by have:=hs.1;omega)
  rw [show((4:Nat):Int)=4 from rfl,Int.toNat_of_nonneg hg.1] at l1
  rw [l1];rfl
theorem C6{h:aD}(hs:fF h){s:Int}(hc:0≤aU h s):xS h s=some (gR h s):=by
  have hg:=C5 hc
  have hm:h.Bytes.length≤maxLen:=by rw [hs.1];simp [maxLen]
  unfold xS pM
  rw [A2 hm,kS hs]
  have l1:=xK hs.2.2.1 (a:=(dW s (aU h s)).toNat) (w:=4) (by omega) (by have:=hs.1;omega) (by have:=hs.1;omega)
  rw [show((4:Nat):Int)=4 from rfl,Int.toNat_of_nonneg hg.1] at l1
  have n1:¬aU h s < 0:=by omega
  simp [hs,n1,wE,l1,gR]
end Go.Gv
end
noncomputable section
namespace Go.Gv
def cM(l:List aN):List Int:=l.flatMap aN.aQ
def cX(l:aB):List Int:=cM l.Global++cM l.Own
def LOk(l:aB):Prop:=l.Global.length=3∧l.Own.length=9∧(∀s∈l.Own,s.aQ.length≤2)∧(∀x∈cX l,0≤x∧x≤23)∧(cX l).Nodup
instance (l:aB):Decidable (LOk l):=by unfold LOk;infer_instance
theorem J2{l:List aN}{k:Nat}(h:k < l.length):cM (l.take (k+1))=cM (l.take k)++l[k].aQ:=by
  unfold cM
  rw [List.take_succ_eq_append_getElem h,List.flatMap_append];simp
theorem aDU(l:List aN)(k:Nat):(cM (l.take k)).length≤(cM l).length:=by
  have:cM l=cM (l.take k)++cM (l.drop k):=by
    unfold cM;rw [←List.flatMap_append,List.take_append_drop]
  rw [this];simp
theorem OF(l:List aN){k:Nat}(h:k < l.length):l[k].aQ.length≤(cM l).length:=by
  have h1:=aDU l (k+1)
  rw [J2 h] at h1
  simp at h1;omega
theorem P9{l:aB}(h:(cX l).length≤1073741824)(hg:l.Global.length≤maxLen)(ho:l.Own.length≤maxLen):KY l=some (cX l):=by
  have hsum:(cM l.Global).length+(cM l.Own).length≤1073741824:=by simpa [cX] using h
  unfold KY
  have k1:loop (vT l) ([],0)=some (cM l.Global):=by
    refine iU (f:=vT l) l.Global.length (fun k=>(cM (l.Global.take k),(k:Int))) _ (fun k hk=>?_) ?_
    · have h1:=aDU l.Global (k+1)
      rw [J2 hk] at h1
      simp only [vT]
      rw [if_pos (by simp;omega),aW hk]
      simp only [aI]
      rw [aR (by simp at h1;omega),J2 hk,jB (nW hk hg)]
    · simp [vT]
  rw [k1]
  simp only [aI,PT,PR]
  have k2:loop (vS l) (cM l.Global,0)=some (cX l):=by
    have:=iU (f:=vS l) l.Own.length (fun k=>(cM l.Global++cM (l.Own.take k),(k:Int))) (cX l) (fun k hk=>?_) ?_
    · simpa [cM] using this
    · have h1:=aDU l.Own (k+1)
      rw [J2 hk] at h1
      simp only [vS]
      rw [if_pos (by simp;omega),aW hk]
      simp only [aI]
      rw [aR (by simp at h1 ⊢;omega),J2 hk,jB (nW hk ho),List.append_assoc]
    · simp [vS,cX]
  rw [k2];rfl
theorem QA{l:List Int}(hl:l.length≤maxLen)(x:Int):KZ l x=some (decide (x∈l)):=by
  unfold KZ
  have key:loop (qZ l x) 0=some (if ∀y∈l,y≠x then Out.brk () else Out.ret true):=by
    refine mR (f:=qZ l x) l (fun k=>(k:Int)) (fun y=>y≠x) _ _ (fun k h hp=>?_) (fun k h hp=>?_) ?_
    · simp only [qZ]
      rw [if_pos (by simp;omega),aW h,jB (nW h hl)]
      have:(l[k] == x)=false:=by simpa using hp
      simp only [aI,this,aL,if_false]
    · simp only [qZ]
      rw [if_pos (by simp;omega),aW h]
      have:(l[k] == x)=true:=by simpa using hp
      simp only [aI,this,if_true]
    · simp [qZ]
  rw [key]
  by_cases h:x∈l
  · rw [if_neg (fun q=>q x h rfl),bD h];rfl
  · rw [if_pos (fun y hy (e:y=x)=>h (e ▸ hy)),bM h];rfl
theorem ZJ(l:List Int):l.Nodup↔∀k (h:k < l.length),l[k]∉l.take k:=by
  unfold List.Nodup
  rw [List.pairwise_iff_getElem]
  constructor
  · intro h k hk hm
    obtain⟨i,hi,he⟩:=List.mem_take_iff_getElem.1 hm
    exact h i k (by omega) hk (by omega) he
  · intro h i j hi hj hij he
    exact h j hj (List.mem_take_iff_getElem.2 ⟨i,by omega,he⟩)
theorem WG{l:aB}(h:(cX l).length≤1073741824):K0 l=some (decide (LOk l)):=by
  unfold K0 D6
  by_cases hg:l.Global.length=3
  · by_cases ho:l.Own.length=9
    · have n1:((l.Global.length:Int) != 3)=false:=by simp;omega
      have n2:((l.Own.length:Int) != 9)=false:=by simp;omega
      simp only [n1,n2,aL,if_false]
      have k1:loop (mM l) 0=some (if ∀s∈l.Own,s.aQ.length≤2 then Out.brk () else Out.ret false):=by
        refine mR (f:=mM l) l.Own (fun k=>(k:Int)) (fun s=>s.aQ.length≤2) _ _ (fun k hk hp=>?_) (fun k hk hp=>?_) ?_
        · simp only [mM]
          rw [if_pos (by simp;omega),aW hk,aP (by omega) (by omega)]
          simp only [aI]
          rw [if_neg (by simp;omega)];rfl
        · simp only [mM]
          rw [if_pos (by simp;omega),aW hk]
          simp only [aI]
          rw [if_pos (by simp;omega)]
        · simp [mM]
      rw [k1]
      by_cases h2:∀s∈l.Own,s.aQ.length≤2
      · rw [if_pos h2]
        simp only [aI,ME,MD]
        rw [P9 h (by rw [hg];simp [maxLen]) (by rw [ho];simp [maxLen])]
        simp only [aI]
        have k2:loop (mL (cX l)) 0=some (if ∀k,k < (cX l).length→(0≤(cX l).getD k 0∧(cX l).getD k 0≤23)∧(cX l).getD k 0∉(cX l).take k then Out.brk () else Out.ret false):=by
          have hst:∀k,k < (cX l).length→mL (cX l) (k:Int)=if (0≤(cX l).getD k 0∧(cX l).getD k 0≤23)∧(cX l).getD k 0∉(cX l).take k then some (.next ((k+1:Nat):Int)) else some (.stop (Out.ret false)):=by
            intro k hk
            have e:(cX l).getD k 0=(cX l)[k]:=by rw [List.getD_eq_getElem?_getD,List.getElem?_eq_getElem hk];rfl
            rw [e]
            simp only [mL]
            rw [if_pos (by simp;omega),aW hk]
            simp only [aI,bU,D5]
            by_cases q:0≤(cX l)[k]∧(cX l)[k]≤23
            · rw [bD q]
              simp only [dJ,aL,if_false,Int.toNat_natCast,List.drop_zero]
              rw [aR (by omega),QA (by simp [maxLen];omega),aP (by omega) (by omega)]
              by_cases q2:(cX l)[k]∈(cX l).take k
              · rw [if_neg (fun x=>x.2 q2),bD q2];rfl
              · rw [if_pos ⟨q,q2⟩,bM q2];rfl
            · rw [bM q];simp only [iC,if_true];rw [if_neg (fun x=>q x.1)]
          refine wD (f:=mL (cX l)) (cX l).length (fun k=>(k:Int)) (fun k=>(0≤(cX l).getD k 0∧(cX l).getD k 0≤23)∧(cX l).getD k 0∉(cX l).take k) _ _ (fun k hk hx=>?_) (fun k hk hx=>?_) ?_
          · rw [hst k hk,if_pos hx]
          · rw [hst k hk,if_neg hx]
          · simp [mL]
        rw [k2]
        have hiff:LOk l↔∀k,k < (cX l).length→(0≤(cX l).getD k 0∧(cX l).getD k 0≤23)∧(cX l).getD k 0∉(cX l).take k:=by
          have e:∀k (hk:k < (cX l).length),(cX l).getD k 0=(cX l)[k]:=fun k hk=>by rw [List.getD_eq_getElem?_getD,List.getElem?_eq_getElem hk];rfl
          constructor
          · rintro⟨_,_,_,q1,q2⟩ k hk
            rw [e k hk]
            exact⟨q1 _ (List.getElem_mem hk),(ZJ _).1 q2 k hk⟩
          · intro q
            refine⟨hg,ho,h2,fun x hx=>?_,(ZJ _).2 fun k hk=>?_⟩
            · obtain⟨k,hk,rfl⟩:=List.mem_iff_getElem.1 hx
              have:=(q k hk).1;rw [e k hk] at this;exact this
            · have:=(q k hk).2;rw [e k hk] at this;exact this
        by_cases q:LOk l
        · rw [if_pos (hiff.1 q),bD q];rfl
        · rw [if_neg (fun x=>q (hiff.2 x)),bM q];rfl
      · rw [if_neg h2,bM (fun q:LOk l=>h2 q.2.2.1)];rfl
    · have n1:((l.Global.length:Int) != 3)=false:=by simp;omega
      have n2:((l.Own.length:Int) != 9)=true:=by simp;omega
      simp only [n1,n2,aL,if_false,if_true]
      rw [bM (fun q:LOk l=>ho q.2.1)]
  · have n1:((l.Global.length:Int) != 3)=true:=by simp;omega
    simp only [n1,if_true]
    rw [bM (fun q:LOk l=>hg q.1)]
def wF:List Bool→List Int→Option (List Bool)
  | met,[]=>some met
  | met,x :: r=>if (0≤x∧x≤23)∧met.getD x.toNat true=false then wF (met.set x.toNat true) r else none
theorem aCD:∀{xs:List Int} {met m:List Bool},wF met xs=some m→m.length=met.length
  | [],met,m,h=>by simp [wF] at h;rw [h]
  | x :: r, met, m, h => by
    simp only [wF] at h
    split at h
    · have:=aCD h;simpa using this
    · cases h
theorem SG:∀(a b:List Int) (met:List Bool),wF met (a++b)=(wF met a).bind fun m=>wF m b
  | [],b,met=>rfl
  | x :: r, b, met => by
    simp only [List.cons_append,wF]
    split
    · exact SG r b _
    · rfl
theorem Q7:∀(xs:List Int) (met:List Bool),met.length=24→((wF met xs).isSome=true↔(∀x∈xs,0≤x∧x≤23)∧xs.Nodup∧∀x∈xs,met.getD x.toNat true=false)
  | [],met,hm=>by simp [wF]
  | x :: r, met, hm => by
    simp only [wF]
    by_cases h:(0≤x∧x≤23)∧met.getD x.toNat true=false
    · rw [if_pos h,Q7 r _ (by simpa using hm)]
      have hset:∀y,0≤y∧y≤23→(((met.set x.toNat true).getD y.toNat true=false)↔(y≠x∧met.getD y.toNat true=false)):=by
        intro y hy
        rw [List.getD_eq_getElem?_getD,List.getD_eq_getElem?_getD]
        by_cases e:y=x
        · subst e;rw [List.getElem?_set_self (by omega)];simp
        · rw [List.getElem?_set_ne (by omega)];simp [e]
      constructor
      · rintro⟨q1,q2,q3⟩
        refine⟨fun y hy=>?_,List.nodup_cons.2 ⟨fun hx=>?_,q2⟩,fun y hy=>?_⟩
        · rcases List.mem_cons.1 hy with rfl | hy
          · exact h.1
          · exact q1 y hy
        · exact((hset x h.1).1 (q3 x hx)).1 rfl
        · rcases List.mem_cons.1 hy with rfl | hy
          · exact h.2
          · exact((hset y (q1 y hy)).1 (q3 y hy)).2
      · rintro⟨q1,q2,q3⟩
        have q2:=List.nodup_cons.1 q2
        refine⟨fun y hy=>q1 y (List.mem_cons_of_mem _ hy),q2.2,fun y hy=>(hset y (q1 y (List.mem_cons_of_mem _ hy))).2 ⟨fun e=>q2.1 (e ▸ hy),q3 y (List.mem_cons_of_mem _ hy)⟩⟩
    · rw [if_neg h]
      constructor
      · intro q;cases q
      · rintro⟨q1,q2,q3⟩
        exact(h ⟨q1 x List.mem_cons_self,q3 x List.mem_cons_self⟩).elim
def aDV:Option (List Bool)→Out (List Bool) Bool
  | some m=>.brk m
  | none=>.ret false
theorem aXO{s:aN}(hl:s.aQ.length≤maxLen):∀d k (met:List Bool),k+d=s.aQ.length→met.length=24→loop (kJ s) ((k:Int),met)=some (aDV (wF met (s.aQ.drop k))):=by
  intro d
  induction d with
  | zero =>
    intro k met hk hm
    rw [bV (r:=Out.brk met) (by simp [kJ];omega),List.drop_eq_nil_of_le (by omega)];rfl
  | succ d ih =>
    intro k met hk hm
    have hk':k < s.aQ.length:=by omega
    have hd:s.aQ.drop k=s.aQ[k] :: s.aQ.drop (k+1):=List.drop_eq_getElem_cons hk'
    have hst:kJ s ((k:Int),met)=if (0≤s.aQ[k]∧s.aQ[k]≤23)∧met.getD s.aQ[k].toNat true=false then some (.next (((k+1:Nat):Int),met.set s.aQ[k].toNat true)) else some (.stop (Out.ret false)):=by
      simp only [kJ]
      rw [if_pos (by simp;omega),aW hk']
      simp only [aI,tJ]
      generalize s.aQ[k]=x
      by_cases q:0≤x∧x≤23
      · obtain⟨j,rfl⟩:=Int.eq_ofNat_of_zero_le q.1
        have hj:j < met.length:=by omega
        have e:met.getD j true=met[j]:=by rw [List.getD_eq_getElem?_getD,List.getElem?_eq_getElem hj];rfl
        simp only [q,and_self,decide_true,dJ,aL,if_false,mG,Int.toNat_natCast,true_and,e]
        rw [aR (by omega),aW hj]
        simp only [aI]
        cases met[j]
        · simp only [aL,if_false,if_true]
          rw [aR (by omega),jB (nW hk' hl)]
        · simp
      · rw [bM q];simp only [iC,if_true,mG];rw [if_neg (fun x=>q x.1)]
    rw [hd,wF]
    by_cases q:(0≤s.aQ[k]∧s.aQ[k]≤23)∧met.getD s.aQ[k].toNat true=false
    · rw [if_pos q] at hst ⊢
      rw [b8 hst,ih (k+1) _ (by omega) (by simpa using hm)]
    · rw [if_neg q] at hst ⊢
      rw [bV hst];rfl
def UL(l:List aN):Prop:=∀s∈l,s.aQ.length≤2
instance (l:List aN):Decidable (UL l):=by unfold UL;infer_instance
theorem aXP{l:aB}(ho:l.Own.length=9)(hn:(l.Own++l.Global).length≤1000)(hs:∀s∈l.Own++l.Global,s.aQ.length≤maxLen):∀d k (met:List Bool),k+d=(l.Own++l.Global).length→met.length=24 →
    loop (kL l) ((k:Int),met)=some (if UL (((l.Own++l.Global).drop k).take (9 - k))∧(wF met (cM ((l.Own++l.Global).drop k))).isSome=true then Out.brk () else Out.ret false):=by
  intro d
  induction d with
  | zero =>
    intro k met hk hm
    rw [List.drop_eq_nil_of_le (by omega),if_pos ⟨by simp [UL],rfl⟩]
    refine bV ?_
    simp only [kL]
    rw [if_neg (by simp;simp at hk;omega)]
  | succ d ih =>
    intro k met hk hm
    have hk':k < (l.Own++l.Global).length:=by omega
    have hd:(l.Own++l.Global).drop k=(l.Own++l.Global)[k] :: (l.Own++l.Global).drop (k+1):=List.drop_eq_getElem_cons hk'
    have hsk:=hs _ (List.getElem_mem hk')
    have hf:cM ((l.Own++l.Global).drop k)=(l.Own++l.Global)[k].aQ++cM ((l.Own++l.Global).drop (k+1)):=by unfold cM;rw [hd,List.flatMap_cons]
    have hin:∀b:Bool,kK (k:Int) met (l.Own++l.Global)[k] b=if b then some (.stop (Out.ret false)) else (match wF met (l.Own++l.Global)[k].aQ with | some m=>some (.next (((k+1:Nat):Int),m)) | none=>some (.stop (Out.ret false))):=by
      intro b
      have h4:=aXO hsk _ 0 met (Nat.zero_add _) hm
      rw [show((0:Nat):Int)=0 from rfl,List.drop_zero] at h4
      unfold kK
      rw [h4]
      cases b
      · simp only [aL,if_false,aI]
        cases wF met (l.Own++l.Global)[k].aQ with
        | none=>rfl
        | some m=>simp only [aDV,LY,wM];rw [aP (by omega) (by omega)];rfl
      · rfl
    have hst:kL l ((k:Int),met)=kK (k:Int) met (l.Own++l.Global)[k] (decide (k < 9∧2 < (l.Own++l.Global)[k].aQ.length)):=by
      simp only [kL]
      rw [if_pos (by simp;simp at hk';omega),aW hk']
      simp only [aI]
      by_cases h9:k < 9
      · rw [if_pos (by simp;omega)]
        congr 1
        rw [Bool.eq_iff_iff];simp only [decide_eq_true_eq];omega
      · rw [if_neg (by simp;omega),bM (by omega)]
    rw [hin] at hst
    by_cases h2:k < 9∧2 < (l.Own++l.Global)[k].aQ.length
    · rw [bD h2] at hst
      simp only [if_true] at hst
      rw [bV hst,if_neg]
      rintro⟨q,_⟩
      have e:9 - k=(9 - (k+1))+1:=by omega
      rw [hd,e,List.take_succ_cons] at q
      have:=q _ List.mem_cons_self
      omega
    · rw [bM h2] at hst
      simp only [aL,if_false] at hst
      have hcond:UL (((l.Own++l.Global).drop k).take (9 - k))↔UL (((l.Own++l.Global).drop (k+1)).take (9 - (k+1))):=by
        unfold UL
        by_cases h9:k < 9
        · have e:9 - k=(9 - (k+1))+1:=by omega
          rw [hd,e,List.take_succ_cons,List.forall_mem_cons]
          exact⟨fun q=>q.2,fun q=>⟨by omega,q⟩⟩
        · have e:9 - k=0:=by omega
          have e':9 - (k+1)=0:=by omega
          rw [e,e'];simp
      rw [hf,SG]
      cases hg:wF met (l.Own++l.Global)[k].aQ with
      | none =>
        rw [hg] at hst
        rw [bV hst,if_neg (by simp)]
      | some m =>
        rw [hg] at hst
        rw [b8 hst,ih (k+1) m (by omega) (by rw [aCD hg];exact hm)]
        simp only [aI,hcond]
theorem MK{l:aB}(h:(cX l).length≤1073741824):jP l=some (decide (LOk l)):=by
  unfold jP qH
  by_cases hg:l.Global.length=3
  · by_cases ho:l.Own.length=9
    · have n1:((l.Global.length:Int) != 3)=false:=by simp;omega
      have n2:((l.Own.length:Int) != 9)=false:=by simp;omega
      simp only [n1,n2,aL,if_false]
      rw [aR (by omega)]
      have hsl:∀s∈l.Own++l.Global,s.aQ.length≤maxLen:=by
        intro s hm
        have hsum:(cM l.Global).length+(cM l.Own).length≤1073741824:=by simpa [cX] using h
        have hb:(1073741824:Nat)≤maxLen:=by simp [maxLen]
        rcases List.mem_append.1 hm with hm | hm
        · obtain⟨k,hk,rfl⟩:=List.mem_iff_getElem.1 hm
          have:=OF l.Own hk;omega
        · obtain⟨k,hk,rfl⟩:=List.mem_iff_getElem.1 hm
          have:=OF l.Global hk;omega
      have key:=aXP ho (by simp;omega) hsl (l.Own++l.Global).length 0 [false,false,false,false,false,false,false,false,false,false,false,false,false,false,false,false,false,false,false,false,false,false,false,false] (by omega) rfl
      rw [show((0:Nat):Int)=0 from rfl,List.drop_zero,Nat.sub_zero] at key
      rw [key]
      have et:(l.Own++l.Global).take 9=l.Own:=by rw [←ho];simp
      have ef:cM (l.Own++l.Global)=cM l.Own++cM l.Global:=by simp [cM]
      have hm0:∀j:Nat,j < 24→[false,false,false,false,false,false,false,false,false,false,false,false,false,false,false,false,false,false,false,false,false,false,false,false].getD j true=false:=by decide
      have hiff:LOk l↔UL ((l.Own++l.Global).take 9)∧(wF [false,false,false,false,false,false,false,false,false,false,false,false,false,false,false,false,false,false,false,false,false,false,false,false] (cM (l.Own++l.Global))).isSome=true:=by
        rw [Q7 _ _ rfl,et,ef]
        have hp:(cM l.Own++cM l.Global).Perm (cX l):=List.perm_append_comm
        constructor
        · rintro⟨_,_,q1,q2,q3⟩
          exact⟨q1,fun x hx=>q2 x (hp.mem_iff.1 hx),hp.nodup_iff.2 q3,fun x hx=>hm0 _ (by have:=q2 x (hp.mem_iff.1 hx);omega)⟩
        · rintro⟨q1,q2,q3,_⟩
          exact⟨hg,ho,q1,fun x hx=>q2 x (hp.mem_iff.2 hx),hp.nodup_iff.1 q3⟩
      by_cases q:LOk l
      · rw [if_pos (hiff.1 q),bD q];rfl
      · rw [if_neg (fun x=>q (hiff.2 x)),bM q];rfl
    · have n1:((l.Global.length:Int) != 3)=false:=by simp;omega
      have n2:((l.Own.length:Int) != 9)=true:=by simp;omega
      simp only [n1,n2,aL,if_false,if_true]
      rw [bM (fun q:LOk l=>ho q.2.1)]
  · have n1:((l.Global.length:Int) != 3)=true:=by simp;omega
    simp only [n1,if_true]
    rw [bM (fun q:LOk l=>hg q.1)]
end Go.Gv
end
noncomputable section
namespace Go.Gv
def A3(h:aD)(l:List Int)(c:Int):Prop:=∀x∈l,aU h x=c∧gR h x≤6
instance (h:aD) (l:List Int) (c:Int):Decidable (A3 h l c):=by unfold A3;infer_instance
theorem J3{h:aD}(hs:fF h){l:List Int}(hl:l.length≤maxLen){c:Int}(hc:0≤c):CZ h l c=some (decide (A3 h l c)):=by
  unfold CZ
  have key:loop (lS h l c) 0=some (if ∀x∈l,aU h x=c∧gR h x≤6 then Out.brk () else Out.ret false):=by
    have hst:∀k (hk:k < l.length),lS h l c (k:Int)=if aU h l[k]=c∧gR h l[k]≤6 then some (.next ((k+1:Nat):Int)) else some (.stop (Out.ret false)):=by
      intro k hk
      simp only [lS]
      rw [if_pos (by simp;omega),aW hk]
      generalize l[k]=x
      simp only [aI,hQ hs,BT]
      by_cases q:aU h x=c
      · have n1:(aU h x != c)=false:=by simp only [bne_eq_false_iff_eq];exact q
        simp only [n1,aL,if_false,nE hs (show 0≤aU h x by omega),aI,jB (nW hk hl)]
        by_cases q2:gR h x≤6
        · rw [if_neg (by simp;omega),if_pos ⟨q,q2⟩]
        · rw [if_pos (by simp;omega),if_neg (fun x=>q2 x.2)]
      · have n1:(aU h x != c)=true:=by simp only [bne_iff_ne];exact q
        simp only [n1,if_true]
        rw [if_neg (fun x=>q x.1)]
    refine mR (f:=lS h l c) l (fun k=>(k:Int)) (fun x=>aU h x=c∧gR h x≤6) _ _ (fun k hk hp=>?_) (fun k hk hp=>?_) ?_
    · rw [hst k hk,if_pos hp]
    · rw [hst k hk,if_neg hp]
    · simp [lS]
  rw [key]
  by_cases q:∀x∈l,aU h x=c∧gR h x≤6
  · rw [if_pos q,bD (show A3 h l c from q)];rfl
  · rw [if_neg q,bM (show ¬A3 h l c from q)];rfl
theorem J4{h:aD}(hs:fF h){s:aN}(hl:s.aQ.length≤maxLen){c:Int}(hc:0≤c):vI h s c=some (decide (A3 h s.aQ c)):=by
  unfold vI
  have key:loop (lP h s c) 0=some (if ∀x∈s.aQ,aU h x=c∧gR h x≤6 then Out.brk () else Out.ret false):=by
    have hst:∀k (hk:k < s.aQ.length),lP h s c (k:Int)=if aU h s.aQ[k]=c∧gR h s.aQ[k]≤6 then some (.next ((k+1:Nat):Int)) else some (.stop (Out.ret false)):=by
      intro k hk
      simp only [lP]
      rw [if_pos (by simp;omega),aW hk]
      generalize s.aQ[k]=x
      simp only [aI,kS hs,tS]
      by_cases q:aU h x=c
      · have n1:(aU h x != c)=false:=by simp only [bne_eq_false_iff_eq];exact q
        simp only [n1,aL,if_false,C6 hs (show 0≤aU h x by omega),aI,jB (nW hk hl)]
        by_cases q2:gR h x≤6
        · rw [if_neg (by simp;omega),if_pos ⟨q,q2⟩]
        · rw [if_pos (by simp;omega),if_neg (fun x=>q2 x.2)]
      · have n1:(aU h x != c)=true:=by simp only [bne_iff_ne];exact q
        simp only [n1,if_true]
        rw [if_neg (fun x=>q x.1)]
    refine mR (f:=lP h s c) s.aQ (fun k=>(k:Int)) (fun x=>aU h x=c∧gR h x≤6) _ _ (fun k hk hp=>?_) (fun k hk hp=>?_) ?_
    · rw [hst k hk,if_pos hp]
    · rw [hst k hk,if_neg hp]
    · simp [lP]
  rw [key]
  by_cases q:∀x∈s.aQ,aU h x=c∧gR h x≤6
  · rw [if_pos q,bD (show A3 h s.aQ c from q)];rfl
  · rw [if_neg q,bM (show ¬A3 h s.aQ c from q)];rfl
def dF(l:List aN)(k:Nat):List Int:=(l.getD k ⟨[]⟩).aQ
theorem cY{l:List aN}{k:Nat}(h:k < l.length):l[k].aQ=dF l k:=by
  unfold dF;rw [List.getD_eq_getElem?_getD,List.getElem?_eq_getElem h];rfl
def G0(m:Mem)(k:Nat):Prop:=A3 m.aD (dF m.aB.Global k) (k:Int)
def A4(m:Mem)(k:Nat):Prop:=A3 m.aD (dF m.aB.Own k) ((k % 3:Nat):Int)
instance (m:Mem) (k:Nat):Decidable (G0 m k):=by unfold G0;infer_instance
instance (m:Mem) (k:Nat):Decidable (A4 m k):=by unfold A4;infer_instance
instance (m:Mem):Decidable (∀k,k < 3→G0 m k):=Nat.decidableBallLT 3 fun k _=>G0 m k
instance (m:Mem):Decidable (∀k,k < 9→A4 m k):=Nat.decidableBallLT 9 fun k _=>A4 m k
instance (m:Mem) (c:Nat):Decidable (∀w,w < 3→A4 m (w * 3+c)):=Nat.decidableBallLT 3 fun w _=>A4 m (w * 3+c)
instance (m:Mem):Decidable (∀k,k < 3→G0 m k∧∀w,w < 3→A4 m (w * 3+k)):=Nat.decidableBallLT 3 fun k _=>G0 m k∧∀w,w < 3→A4 m (w * 3+k)
def mD(m:Mem):Prop:=(P8 m.aD∧LOk m.aB)∧(∀k,k < 3→G0 m k)∧∀k,k < 9→A4 m k
instance (m:Mem):Decidable (mD m):=by unfold mD;infer_instance
theorem LOk.UM{l:aB}(h:LOk l)(hb:(cX l).length≤1073741824):(∀s∈l.Global,s.aQ.length≤1073741824)∧∀s∈l.Own,s.aQ.length≤1073741824:=by
  have hsum:(cM l.Global).length+(cM l.Own).length≤1073741824:=by simpa [cX] using hb
  constructor
  · intro s hm
    obtain⟨k,hk,rfl⟩:=List.mem_iff_getElem.1 hm
    have:=OF l.Global hk;omega
  · intro s hm
    obtain⟨k,hk,rfl⟩:=List.mem_iff_getElem.1 hm
    have:=OF l.Own hk;omega
theorem aJ2{m:Mem}:(∀k,k < 3→G0 m k∧∀w,w < 3→A4 m (w * 3+k))↔(∀k,k < 3→G0 m k)∧∀k,k < 9→A4 m k:=by
  constructor
  · intro h
    refine⟨fun k hk=>(h k hk).1,fun k hk=>?_⟩
    have:=(h (k % 3) (by omega)).2 (k / 3) (by omega)
    have e:k / 3 * 3+k % 3=k:=by omega
    rwa [e] at this
  · rintro⟨h1,h2⟩ k hk
    exact⟨h1 k hk,fun w hw=>h2 _ (by omega)⟩
theorem QB{m:Mem}(hb:m.aD.Bytes.length≤maxLen)(hl:(cX m.aB).length≤1073741824):QY m=some (decide (mD m)):=by
  unfold QY II
  rw [ZI hb,WG hl]
  by_cases h1:P8 m.aD
  · by_cases h2:LOk m.aB
    · have hmx:(1073741824:Nat)≤maxLen:=by simp [maxLen]
      have hsl:=LOk.UM h2 hl
      simp only [bD h1,bD h2,aI,dJ,aL,if_false]
      have k3:∀c:Nat,c < 3→loop (vU m (c:Int)) 0=some (if ∀w,w < 3→A4 m (w * 3+c) then Out.brk () else Out.ret false):=by
        intro c hc
        have hst:∀w:Nat,w < 3→vU m (c:Int) (w:Int)=if A4 m (w * 3+c) then some (.next ((w+1:Nat):Int)) else some (.stop (Out.ret false)):=by
          intro w hw
          have hk:w * 3+c < m.aB.Own.length:=by rw [h2.2.1];omega
          have e:xY (w:Int) (c:Int)=some ((w * 3+c:Nat):Int):=by
            unfold xY C0
            rw [bU,bU,bD (by omega),bD (by omega)]
            simp only [aI,dJ,aL,if_false]
            rw [aP (x:=(w:Int) * 3) (by omega) (by omega),aP (by omega) (by omega)];rfl
          have hlen:=hsl.2 _ (List.getElem_mem hk)
          simp only [vU]
          rw [if_pos (by simp;omega),e]
          simp only [aI,aW hk]
          rw [J3 h1.1 (by omega) (by omega),cY hk]
          have em:(w * 3+c) % 3=c:=by omega
          have ho:A4 m (w * 3+c)↔A3 m.aD (dF m.aB.Own (w * 3+c)) (c:Int):=by unfold A4;rw [em]
          rw [aP (by omega) (by omega)]
          by_cases q:A4 m (w * 3+c)
          · rw [if_pos q,bD (ho.1 q)];rfl
          · rw [if_neg q,bM (fun x=>q (ho.2 x))];rfl
        refine wD (f:=vU m (c:Int)) 3 (fun k=>(k:Int)) (fun w=>A4 m (w * 3+c)) _ _ (fun k hk hx=>?_) (fun k hk hx=>?_) ?_
        · rw [hst k hk,if_pos hx]
        · rw [hst k hk,if_neg hx]
        · rfl
      have k2:loop (vV m) 0=some (if ∀k,k < 3→G0 m k∧∀w,w < 3→A4 m (w * 3+k) then Out.brk () else Out.ret false):=by
        have hst:∀c:Nat,c < 3→vV m (c:Int)=if G0 m c∧∀w,w < 3→A4 m (w * 3+c) then some (.next ((c+1:Nat):Int)) else some (.stop (Out.ret false)):=by
          intro c hc
          have hk:c < m.aB.Global.length:=by rw [h2.1];omega
          have hlen:=hsl.1 _ (List.getElem_mem hk)
          simp only [vV]
          rw [if_pos (by simp;omega)]
          simp only [aI,aW hk]
          rw [J3 h1.1 (by omega) (by omega),cY hk,k3 c hc]
          by_cases q:G0 m c
          · have q':A3 m.aD (dF m.aB.Global c) (c:Int):=q
            rw [bD q']
            simp only [aI,dJ,aL,if_false]
            by_cases q2:∀w,w < 3→A4 m (w * 3+c)
            · rw [if_pos q2,if_pos ⟨q,q2⟩]
              simp only [PW,PU]
              rw [aP (by omega) (by omega)];rfl
            · rw [if_neg q2,if_neg (fun x=>q2 x.2)];rfl
          · have q':¬A3 m.aD (dF m.aB.Global c) (c:Int):=q
            rw [bM q',if_neg (fun x:G0 m c∧_=>q x.1)];rfl
        refine wD (f:=vV m) 3 (fun k=>(k:Int)) (fun k=>G0 m k∧∀w,w < 3→A4 m (w * 3+k)) _ _ (fun k hk hx=>?_) (fun k hk hx=>?_) ?_
        · rw [hst k hk,if_pos hx]
        · rw [hst k hk,if_neg hx]
        · rfl
      rw [k2]
      by_cases q:∀k,k < 3→G0 m k∧∀w,w < 3→A4 m (w * 3+k)
      · rw [if_pos q,bD (show mD m from ⟨⟨h1,h2⟩,aJ2.1 q⟩)];rfl
      · rw [if_neg q,bM (fun x:mD m=>q (aJ2.2 x.2))];rfl
    · rw [bM (fun q:mD m=>h2 q.1.2),bD h1,bM h2];rfl
  · rw [bM (fun q:mD m=>h1 q.1.1),bM h1];rfl
theorem QC{m:Mem}(hb:m.aD.Bytes.length≤maxLen)(hl:(cX m.aB).length≤1073741824):FX m=some (decide (mD m)):=by
  unfold FX CK
  rw [GJ hb,MK hl]
  by_cases h1:P8 m.aD
  · by_cases h2:LOk m.aB
    · have hmx:(1073741824:Nat)≤maxLen:=by simp [maxLen]
      have hsl:=LOk.UM h2 hl
      simp only [bD h1,bD h2,aI,dJ,aL,if_false]
      have k3:loop (qX m) 0=some (if ∀k,k < 9→A4 m k then Out.brk () else Out.ret false):=by
        have hst:∀w:Nat,w < 9→qX m (w:Int)=if A4 m w then some (.next ((w+1:Nat):Int)) else some (.stop (Out.ret false)):=by
          intro w hw
          have hk:w < m.aB.Own.length:=by rw [h2.2.1];omega
          have hlen:=hsl.2 _ (List.getElem_mem hk)
          have em:Int.tmod (w:Int) 3=((w % 3:Nat):Int):=by rw [tI (by omega)];omega
          simp only [qX]
          rw [if_pos (by simp;omega)]
          simp only [aI,aW hk,em]
          rw [J4 h1.1 (by omega) (by omega),cY hk,aP (by omega) (by omega)]
          by_cases q:A4 m w
          · rw [if_pos q,bD (show A3 m.aD (dF m.aB.Own w) ((w % 3:Nat):Int) from q)];rfl
          · rw [if_neg q,bM (show ¬A3 m.aD (dF m.aB.Own w) ((w % 3:Nat):Int) from q)];rfl
        refine wD (f:=qX m) 9 (fun k=>(k:Int)) (fun w=>A4 m w) _ _ (fun k hk hx=>?_) (fun k hk hx=>?_) ?_
        · rw [hst k hk,if_pos hx]
        · rw [hst k hk,if_neg hx]
        · simp [qX,h2.2.1]
      have k2:loop (qY m) 0=some (if ∀k,k < 3→G0 m k then Out.brk () else Out.ret false):=by
        have hst:∀w:Nat,w < 3→qY m (w:Int)=if G0 m w then some (.next ((w+1:Nat):Int)) else some (.stop (Out.ret false)):=by
          intro w hw
          have hk:w < m.aB.Global.length:=by rw [h2.1];omega
          have hlen:=hsl.1 _ (List.getElem_mem hk)
          simp only [qY]
          rw [if_pos (by simp;omega)]
          simp only [aI,aW hk]
          rw [J4 h1.1 (by omega) (by omega),cY hk,aP (by omega) (by omega)]
          by_cases q:G0 m w
          · rw [if_pos q,bD (show A3 m.aD (dF m.aB.Global w) (w:Int) from q)];rfl
          · rw [if_neg q,bM (show ¬A3 m.aD (dF m.aB.Global w) (w:Int) from q)];rfl
        refine wD (f:=qY m) 3 (fun k=>(k:Int)) (fun w=>G0 m w) _ _ (fun k hk hx=>?_) (fun k hk hx=>?_) ?_
        · rw [hst k hk,if_pos hx]
        · rw [hst k hk,if_neg hx]
        · simp [qY,h2.1]
      rw [k2]
      by_cases q:∀k,k < 3→G0 m k
      · rw [if_pos q]
        simp only [aI,PQ,PO]
        rw [k3]
        by_cases q2:∀k,k < 9→A4 m k
        · rw [if_pos q2,bD (show mD m from ⟨⟨h1,h2⟩,q,q2⟩)];rfl
        · rw [if_neg q2,bM (fun x:mD m=>q2 x.2.2)];rfl
      · rw [if_neg q,bM (fun x:mD m=>q x.2.1)];rfl
    · rw [bM (fun q:mD m=>h2 q.1.2),bD h1,bM h2];rfl
  · rw [bM (fun q:mD m=>h1 q.1.1),bM h1];rfl
end Go.Gv
end
noncomputable section
namespace Go.Gv
theorem DT{l:List aN}{s:aN}(h:s∈l):s.aQ.length≤(cM l).length:=by
  obtain⟨k,hk,rfl⟩:=List.mem_iff_getElem.1 h
  exact OF l hk
theorem oX(l:aB):(cX l).length=(cM l.Global).length+(cM l.Own).length:=by simp [cX]
def uZ(m:Mem):Prop:=m.aD.Bytes.length≤1048576∧m.aD.Class.length≤1048576∧m.aB.Global.length≤1048576∧m.aB.Own.length≤1048576∧(cX m.aB).length≤1048576
theorem uZ.UM{m:Mem}(h:uZ m):(∀s∈m.aB.Global,s.aQ.length≤1048576)∧∀s∈m.aB.Own,s.aQ.length≤1048576:=by
  have:=oX m.aB
  have h5:=h.2.2.2.2
  exact⟨fun s hm=>by have:=DT hm;omega,fun s hm=>by have:=DT hm;omega⟩
end Go.Gv
end
noncomputable section
namespace Go.Gv
def POk(e:Int)(p:o8):Prop:=(0≤p.aJ∧p.aJ≤e)∧(0≤p.Seen∧p.Seen≤2)∧(p.On=false→p=⟨false,0,false,0⟩)
instance (e:Int) (p:o8):Decidable (POk e p):=by unfold POk;infer_instance
def GX(c:aC):Prop:=(0≤c.aJ∧c.aJ≤100000)∧c.cK.length=3∧∀p∈c.cK,POk c.aJ p
instance (c:aC):Decidable (GX c):=by unfold GX;infer_instance
theorem i7(c:aC):uC c=some (decide (GX c)):=by
  unfold uC
  rw [bU]
  by_cases h1:0≤c.aJ∧c.aJ≤100000
  · by_cases h2:c.cK.length=3
    · simp only [aI,h1,h2,qP]
      have key:∀k:Nat,k≤3→loop (qO c) (k:Int)=some (if ∀p∈c.cK.drop k,POk c.aJ p then Out.brk () else Out.ret false):=by
        refine aCY 3 _ fun k hk=>?_
        by_cases h3:k < 3
        · have hd:c.cK.drop k=c.cK[k] :: c.cK.drop (k+1):=List.drop_eq_getElem_cons (by omega)
          simp only [qO]
          rw [if_pos (by simp;omega),aW (by omega)]
          simp only [aI,bU,mO,hd]
          rw [jB (by simp [maxLen];omega)]
          generalize c.cK[k]=p
          have hp:POk c.aJ p↔decide (0≤p.aJ∧p.aJ≤c.aJ)=true∧decide (0≤p.Seen∧p.Seen≤2)=true∧(p.On=false→decide (p=⟨false,0,false,0⟩)=true):=by simp only [POk,decide_eq_true_eq]
          simp only [List.forall_mem_cons,hp]
          generalize decide (0≤p.aJ∧p.aJ≤c.aJ)=b1
          generalize decide (0≤p.Seen∧p.Seen≤2)=b2
          generalize decide (p=⟨false,0,false,0⟩)=b3
          generalize p.On=b4
          cases b1 <;> cases b2 <;> cases b3 <;> cases b4 <;> simp [h3]
        · left
          obtain rfl:k=3:=by omega
          simp [qO,List.drop_eq_nil_of_le (show c.cK.length≤3 by omega)]
      have:=key 0 (by omega)
      simp only [Int.ofNat_zero,List.drop_zero] at this
      have e:decide (GX c)=if ∀p∈c.cK,POk c.aJ p then true else false:=by
        have:GX c↔∀p∈c.cK,POk c.aJ p:=⟨fun h=>h.2.2,fun h=>⟨h1,h2,h⟩⟩
        simp [this]
      rw [e]
      simp only [Int.cast_ofNat_Int] at *
      have t0:loop (qO c) 0=_:=this
      by_cases h5:∀p∈c.cK,POk c.aJ p
      · rw [if_pos h5] at t0 ⊢;rw [t0];simp [D7,MF]
      · rw [if_neg h5] at t0 ⊢;rw [t0];simp [D7]
    · simp [h1,h2,qP,GX]
      omega
  · simp [h1,qP,GX]
theorem aFT(p:o8)(c:aC):sH p c=some (!decide (POk c.aJ p)):=by
  unfold sH kC
  rw [dX,dX]
  have hp:decide (POk c.aJ p)=(decide (0≤p.aJ∧p.aJ≤c.aJ) && (decide (0≤p.Seen∧p.Seen≤2) && (p.On || decide (p=⟨false,0,false,0⟩)))):=by
    rw [Bool.eq_iff_iff];simp only [POk,decide_eq_true_eq,Bool.and_eq_true,Bool.or_eq_true]
    by_cases h:p.On=true
    · simp [h]
    · simp [(by simpa using h:p.On=false)]
  rw [hp]
  generalize decide (0≤p.aJ∧p.aJ≤c.aJ)=b1
  generalize decide (0≤p.Seen∧p.Seen≤2)=b2
  generalize decide (p=⟨false,0,false,0⟩)=b3
  generalize p.On=b4
  cases b1 <;> cases b2 <;> cases b3 <;> cases b4 <;> rfl
theorem aDX{l:List o8}(hl:l.length≤maxLen)(f:o8→Bool):kB l (fun x=>some (f x))=some (l.any f):=by
  unfold kB sG
  have key:∀k:Nat,k≤l.length→loop (iE l (fun x=>some (f x))) (k:Int)=some (if (l.drop k).any f then Out.ret ((k+(l.drop k).findIdx f:Nat):Int) else Out.brk ()):=by
    refine aCY l.length _ fun k hk=>?_
    by_cases h3:k < l.length
    · have hd:l.drop k=l[k] :: l.drop (k+1):=List.drop_eq_getElem_cons h3
      simp only [iE]
      rw [if_pos (by simp;omega),aW h3,jB (nW h3 hl),hd]
      simp only [aI,List.any_cons,List.findIdx_cons]
      by_cases h4:f l[k]=true
      · left;simp [h4]
      · right
        have h4:f l[k]=false:=by simpa using h4
        refine⟨h3,by simp [h4],?_⟩
        simp only [h4,Bool.false_or,cond_false]
        congr 2;omega
    · left
      obtain rfl:k=l.length:=by omega
      simp [iE]
  have t0:loop (iE l (fun x=>some (f x))) 0=_:=key 0 (by omega)
  rw [t0]
  simp only [List.drop_zero]
  by_cases h:l.any f=true
  · simp [h,oF]
  · have h:l.any f=false:=by simpa using h
    simp [h,oF,yK]
theorem qT{c:aC}(hc:c.cK.length≤maxLen):mV c=some (decide (GX c)):=by
  unfold mV qI
  rw [dX]
  have e:(fun y0=>sH y0 c)=fun y0=>some (!decide (POk c.aJ y0)):=funext fun y=>aFT y c
  rw [e,aDX hc]
  by_cases h1:0≤c.aJ∧c.aJ≤100000
  · by_cases h2:c.cK.length=3
    · have:GX c↔∀p∈c.cK,POk c.aJ p:=⟨fun h=>h.2.2,fun h=>⟨h1,h2,h⟩⟩
      have e2:(c.cK.any fun y0=>!decide (POk c.aJ y0))=!decide (∀p∈c.cK,POk c.aJ p):=by
        rw [Bool.eq_iff_iff];simp
      simp [h1,h2,this,e2]
    · have:¬(c.cK.length:Int)=3:=by omega
      simp [h1,this,h2,GX]
  · simp [h1,GX]
end Go.Gv
end
noncomputable section
namespace Go.Gv
def bZ(l:List aY):List dA:=l.flatMap aY.Rows
theorem GK{l:List aY}{k:Nat}(h:k < l.length):bZ (l.take (k+1))=bZ (l.take k)++l[k].Rows:=by
  unfold bZ
  rw [List.take_succ_eq_append_getElem h,List.flatMap_append];simp
theorem ZK(l:List aY)(k:Nat):(bZ (l.take k)).length≤(bZ l).length:=by
  have:bZ l=bZ (l.take k)++bZ (l.drop k):=by
    unfold bZ;rw [←List.flatMap_append,List.take_append_drop]
  rw [this];simp
theorem aK3(l:List aY){k:Nat}(h:k < l.length):l[k].Rows.length≤(bZ l).length:=by
  have h1:=ZK l (k+1)
  rw [GK h] at h1
  simp at h1;omega
theorem J5{l:List aY}{s:aY}(h:s∈l):s.Rows.length≤(bZ l).length:=by
  obtain⟨k,hk,rfl⟩:=List.mem_iff_getElem.1 h
  exact aK3 l hk
theorem ZL{l:List aY}(h:(bZ l).length≤1073741824)(hl:l.length≤maxLen):NT l=some (bZ l):=by
  unfold NT
  have k1:loop (sY l) ([],0)=some (bZ l):=by
    refine iU (f:=sY l) l.length (fun k=>(bZ (l.take k),(k:Int))) _ (fun k hk=>?_) ?_
    · have h1:=ZK l (k+1)
      rw [GK hk] at h1
      simp only [sY]
      rw [if_pos (by simp;omega),aW hk]
      simp only [aI]
      rw [aR (by simp at h1;omega),GK hk,jB (nW hk hl)]
    · simp [sY]
  rw [k1];rfl
def jA(h:Int):Prop:=(32≤h∧h≤223)∧h % 32 < 24
instance (h:Int):Decidable (jA h):=by unfold jA;infer_instance
theorem eJ(h:Int):iN h=some (decide (jA h)):=by
  unfold iN BU jA
  rw [bU]
  by_cases q:32≤h∧h≤223
  · simp [q,tI (show 0≤h by omega)]
  · simp [q]
theorem iJ(h:Int):gJ h=some (decide (jA h)):=by
  unfold gJ lQ jA
  rw [dX]
  by_cases q:32≤h∧h≤223
  · simp [q,tI (show 0≤h by omega)]
  · simp [q]
theorem jA.mod{h:Int}(q:jA h):Int.tmod h 32=h % 32∧0≤h % 32∧h % 32≤23:=by
  unfold jA at q
  exact⟨tI (by omega),by omega,by omega⟩
theorem dC(h:Int):gL h=some (if jA h then h % 32 else -1):=by
  unfold gL
  rw [eJ]
  by_cases q:jA h
  · simp [q,q.mod.1]
  · simp [q]
def HV(r:dA):Prop:=jA r.Handle∧0≤r.aJ∧r.aJ≤100000
instance (r:dA):Decidable (HV r):=by unfold HV;infer_instance
def yP(r:dA):Int:=r.Handle % 32
def uS(l:List aY):Prop:=l.length=3∧(bZ l).length≤24∧(∀r∈bZ l,HV r)∧((bZ l).map yP).Nodup
instance (l:List aY):Decidable (uS l):=by unfold uS;infer_instance
def goR:List Bool→List dA→Option (List Bool)
  | met,[]=>some met
  | met,r :: t=>if HV r∧met.getD (yP r).toNat true=false then goR (met.set (yP r).toNat true) t else none
theorem aJ3:∀{xs:List dA} {met m:List Bool},goR met xs=some m→m.length=met.length
  | [],met,m,h=>by simp [goR] at h;rw [h]
  | x :: r, met, m, h => by
    simp only [goR] at h
    split at h
    · have:=aJ3 h;simpa using this
    · cases h
theorem ZM:∀(a b:List dA) (met:List Bool),goR met (a++b)=(goR met a).bind fun m=>goR m b
  | [],b,met=>rfl
  | x :: r, b, met => by
    simp only [List.cons_append,goR]
    split
    · exact ZM r b _
    · rfl
theorem aFU:∀(xs:List dA) (met:List Bool),(goR met xs).isSome=true↔(∀r∈xs,HV r)∧(wF met (xs.map yP)).isSome=true
  | [],met=>by simp [goR,wF]
  | x :: r, met => by
    simp only [goR,List.map_cons,wF]
    by_cases h:HV x
    · have hm:=h.1.mod
      have hs:0≤yP x∧yP x≤23:=hm.2
      by_cases h2:met.getD (yP x).toNat true=false
      · rw [if_pos ⟨h,h2⟩,if_pos ⟨hs,h2⟩,aFU r _]
        simp [h]
      · rw [if_neg (fun q=>h2 q.2),if_neg (fun q=>h2 q.2)];simp
    · rw [if_neg (fun q=>h q.1)]
      constructor
      · intro q;cases q
      · rintro⟨q,_⟩;exact(h (q x List.mem_cons_self)).elim
theorem aK4{s:aY}(hl:s.Rows.length≤maxLen):∀d k (met:List Bool),k+d=s.Rows.length→met.length=24→loop (kM s) ((k:Int),met)=some (aDV (goR met (s.Rows.drop k))):=by
  intro d
  induction d with
  | zero =>
    intro k met hk hm
    rw [bV (r:=Out.brk met) (by simp [kM];omega),List.drop_eq_nil_of_le (by omega)];rfl
  | succ d ih =>
    intro k met hk hm
    have hk':k < s.Rows.length:=by omega
    have hd:s.Rows.drop k=s.Rows[k] :: s.Rows.drop (k+1):=List.drop_eq_getElem_cons hk'
    have hst:kM s ((k:Int),met)=if HV s.Rows[k]∧met.getD (yP s.Rows[k]).toNat true=false then some (.next (((k+1:Nat):Int),met.set (yP s.Rows[k]).toNat true)) else some (.stop (Out.ret false)):=by
      simp only [kM]
      rw [if_pos (by simp;omega),aW hk']
      simp only [aI,iJ,dX]
      generalize s.Rows[k]=x
      by_cases q:jA x.Handle
      · by_cases q2:0≤x.aJ∧x.aJ≤100000
        · have hm2:=q.mod
          obtain⟨j,hj0⟩:=Int.eq_ofNat_of_zero_le hm2.2.1
          have hj:j < met.length:=by omega
          have e:met.getD j true=met[j]:=by rw [List.getD_eq_getElem?_getD,List.getElem?_eq_getElem hj];rfl
          have hr:HV x:=⟨q,q2⟩
          simp only [q,q2,and_self,decide_true,dJ,aL,if_false,iY,hm2.1,hj0,Int.toNat_natCast,hr,true_and,yP,e]
          rw [aR (by omega),aW hj]
          simp only [aI]
          cases met[j]
          · simp only [aL,if_false,if_true]
            rw [aR (by omega),jB (nW hk' hl)]
          · simp
        · rw [bD q,bM q2];simp only [dJ,iC,aL,if_false,if_true,iY];rw [if_neg (fun y:HV x∧_=>q2 y.1.2)]
      · rw [bM q];simp only [iC,if_true,iY];rw [if_neg (fun y:HV x∧_=>q y.1.1)]
    rw [hd,goR]
    by_cases q:HV s.Rows[k]∧met.getD (yP s.Rows[k]).toNat true=false
    · rw [if_pos q] at hst ⊢
      rw [b8 hst,ih (k+1) _ (by omega) (by simpa using hm)]
    · rw [if_neg q] at hst ⊢
      rw [bV hst];rfl
theorem aK5{l:List aY}(hn:l.length≤1000)(hs:∀s∈l,s.Rows.length≤maxLen):∀d k (met:List Bool),k+d=l.length→met.length=24 →
    loop (kO l) ((k:Int),met)=some (if (goR met (bZ (l.drop k))).isSome=true then Out.brk () else Out.ret false):=by
  intro d
  induction d with
  | zero =>
    intro k met hk hm
    rw [List.drop_eq_nil_of_le (by omega),if_pos (show(goR met (bZ [])).isSome=true from rfl)]
    refine bV ?_
    simp only [kO]
    rw [if_neg (by simp;omega)]
  | succ d ih =>
    intro k met hk hm
    have hk':k < l.length:=by omega
    have hd:l.drop k=l[k] :: l.drop (k+1):=List.drop_eq_getElem_cons hk'
    have hsk:=hs _ (List.getElem_mem hk')
    have hf:bZ (l.drop k)=l[k].Rows++bZ (l.drop (k+1)):=by unfold bZ;rw [hd,List.flatMap_cons]
    have h4:=aK4 hsk _ 0 met (Nat.zero_add _) hm
    rw [show((0:Nat):Int)=0 from rfl,List.drop_zero] at h4
    have hst:kO l ((k:Int),met)=(match goR met l[k].Rows with | some m=>some (.next (((k+1:Nat):Int),m)) | none=>some (.stop (Out.ret false))):=by
      simp only [kO]
      rw [if_pos (by simp;omega),aW hk']
      simp only [aI]
      rw [h4]
      cases goR met l[k].Rows with
      | none=>rfl
      | some m=>simp only [aI,aDV,LZ,wP];rw [aP (by omega) (by omega)];rfl
    rw [hf,ZM]
    cases hg:goR met l[k].Rows with
    | none =>
      rw [hg] at hst
      rw [bV hst,if_neg (by simp)]
    | some m =>
      rw [hg] at hst
      rw [b8 hst,ih (k+1) m (by omega) (by rw [aJ3 hg];exact hm)]
      simp only [aI]
theorem SH{l:List aY}(hn:l.length≤1000)(h:(bZ l).length≤1073741824):sI l=some ((bZ l).length:Int):=by
  unfold sI
  have key:loop (iQ l) (0,0)=some ((bZ l).length:Int):=by
    refine iU (f:=iQ l) l.length (fun k=>(((bZ (l.take k)).length:Int),(k:Int))) _ (fun k hk=>?_) ?_
    · have h1:=ZK l (k+1)
      rw [GK hk,List.length_append] at h1
      simp only [iQ]
      rw [if_pos (by simp;omega),aW hk]
      simp only [aI]
      rw [aP (by omega) (by omega),aP (by omega) (by omega),GK hk,List.length_append]
      simp
    · simp [iQ]
  rw [key];rfl
theorem xL{l:List aY}(h:(bZ l).length≤1073741824):lB l=some (decide (uS l)):=by
  unfold lB
  by_cases h3:l.length=3
  · have n1:((l.length:Int) != 3)=false:=by simp;omega
    have hb:(1073741824:Nat)≤maxLen:=by simp [maxLen]
    simp only [n1,aL,if_false]
    have key:=aK5 (l:=l) (by omega) (fun s hs=>by have:=J5 hs;omega) l.length 0 [false,false,false,false,false,false,false,false,false,false,false,false,false,false,false,false,false,false,false,false,false,false,false,false] (by omega) rfl
    rw [show((0:Nat):Int)=0 from rfl,List.drop_zero] at key
    rw [key]
    have hm0:∀j:Nat,j < 24→[false,false,false,false,false,false,false,false,false,false,false,false,false,false,false,false,false,false,false,false,false,false,false,false].getD j true=false:=by decide
    have hiff:uS l↔(bZ l).length≤24∧(goR [false,false,false,false,false,false,false,false,false,false,false,false,false,false,false,false,false,false,false,false,false,false,false,false] (bZ l)).isSome=true:=by
      rw [aFU,Q7 _ _ rfl]
      have hr:(∀r∈bZ l,HV r)→∀x∈(bZ l).map yP,0≤x∧x≤23:=by
        intro q x hx
        obtain⟨r,hr,rfl⟩:=List.mem_map.1 hx
        exact(q r hr).1.mod.2
      constructor
      · rintro⟨_,q1,q2,q3⟩
        exact⟨q1,q2,hr q2,q3,fun x hx=>hm0 _ (by have:=hr q2 x hx;omega)⟩
      · rintro⟨q1,q2,_,q3,_⟩
        exact⟨h3,q1,q2,q3⟩
    by_cases q:(goR [false,false,false,false,false,false,false,false,false,false,false,false,false,false,false,false,false,false,false,false,false,false,false,false] (bZ l)).isSome=true
    · rw [if_pos q]
      simp only [aI,L4,wO]
      rw [SH (by omega) h]
      simp only [aI]
      congr 1
      rw [Bool.eq_iff_iff];simp only [decide_eq_true_eq]
      rw [hiff]
      exact⟨fun a=>⟨by omega,q⟩,fun a=>by omega⟩
    · rw [if_neg q,bM (fun x=>q (hiff.1 x).2)];rfl
  · have n1:((l.length:Int) != 3)=true:=by simp;omega
    simp only [n1,if_true]
    rw [bM (fun q:uS l=>h3 q.1)]
def dQ(h:Int):Prop:=h=0∨jA h
instance (h:Int):Decidable (dQ h):=by unfold dQ;infer_instance
def GL(z:List Int):Prop:=z.length=3∧∀h∈z,dQ h
instance (z:List Int):Decidable (GL z):=by unfold GL;infer_instance
theorem C7{z:List Int}(hl:z.length≤maxLen):K4 z=some (decide (GL z)):=by
  unfold K4
  have hst:∀k (hk:k < z.length),vW z (k:Int)=if dQ z[k] then some (.next ((k+1:Nat):Int)) else some (.stop (Out.ret false)):=by
    intro k hk
    simp only [vW,IJ]
    rw [if_pos (by simp;omega),aW hk,jB (nW hk hl)]
    simp only [aI,eJ]
    generalize z[k]=x
    by_cases q:x=0
    · have n:(x != 0)=false:=by simp only [bne_eq_false_iff_eq];exact q
      rw [n,if_pos (show dQ x from .inl q)];rfl
    · have n:(x != 0)=true:=by simp only [bne_iff_ne];exact q
      by_cases q2:jA x
      · rw [n,bD q2,if_pos (show dQ x from .inr q2)];rfl
      · rw [n,bM q2,if_neg (fun a:dQ x=>a.elim q q2)];rfl
  have key:=mR (f:=vW z) z (fun k=>(k:Int)) dQ (Out.brk ()) (Out.ret false) (fun k hk hx=>by rw [hst k hk,if_pos hx]) (fun k hk hx=>by rw [hst k hk,if_neg hx]) (by simp [vW])
  rw [show((0:Nat):Int)=0 from rfl] at key
  rw [key]
  by_cases q:∀x∈z,dQ x
  · rw [if_pos q]
    have:GL z↔z.length=3:=⟨fun a=>a.1,fun a=>⟨a,q⟩⟩
    simp only [aI,PY,PX,this]
    congr 1;rw [Bool.eq_iff_iff];simp only [beq_iff_eq,decide_eq_true_eq];omega
  · rw [if_neg q,bM (fun a:GL z=>q a.2)];rfl
theorem IW{z:List Int}(hl:z.length≤maxLen):BR z=some (decide (GL z)):=by
  unfold BR CL
  have e:(fun y0=>EU y0)=fun y:Int=>some (!decide (dQ y)):=by
    funext y
    unfold EU pH sJ
    rw [iJ]
    by_cases q:y=0
    · have n:(y == 0)=true:=by simp only [beq_iff_eq];exact q
      rw [n,bD (show dQ y from .inl q)];rfl
    · have n:(y == 0)=false:=by simp only [beq_eq_false_iff_ne];exact q
      by_cases q2:jA y
      · rw [n,bD q2,bD (show dQ y from .inr q2)];rfl
      · rw [n,bM q2,bM (fun a:dQ y=>a.elim q q2)];rfl
  rw [e,A1 hl,C4]
  by_cases h3:z.length=3
  · have n:((z.length:Int) == 3)=true:=by simp;omega
    have:GL z↔∀h∈z,dQ h:=⟨fun a=>a.2,fun a=>⟨h3,a⟩⟩
    simp only [n,if_true,aI,Bool.not_not,this]
  · have n:((z.length:Int) == 3)=false:=by simp;omega
    simp only [n,aL,if_false]
    rw [bM (fun a:GL z=>h3 a.1)]
end Go.Gv
end
noncomputable section
namespace Go.Gv
theorem GM{α:Type}(l:List α)(f:α→Bool){body:Int→Option (Step Int (Out Unit Int))}(hb:∀k (hk:k < l.length),body (k:Int)=if f l[k] then some (.stop (.ret (k:Int))) else some (.next ((k+1:Nat):Int)))(he:body (l.length:Int)=some (.stop (.brk ()))) :
    ∃o,loop body 0=some o∧match o with | .brk _=>l.any f=false | .ret r=>0≤r∧l.any f=true:=by
  have key:=aK1 (f:=body) l.length (fun k=>(k:Int)) (fun k=>if (l.drop k).any f then Out.ret ((k+(l.drop k).findIdx f:Nat):Int) else Out.brk ()) (fun k hk=>by
    by_cases h:k < l.length
    · have hd:l.drop k=l[k] :: l.drop (k+1):=List.drop_eq_getElem_cons h
      rw [hb k h,hd]
      simp only [List.any_cons,List.findIdx_cons]
      by_cases h4:f l[k]=true
      · left;simp [h4]
      · right
        have h4:f l[k]=false:=by simpa using h4
        refine⟨h,by simp [h4],?_⟩
        simp only [h4,Bool.false_or,cond_false]
        congr 2;omega
    · left
      obtain rfl:k=l.length:=by omega
      rw [he];simp) 0 (Nat.zero_le _)
  rw [show((0:Nat):Int)=0 from rfl,List.drop_zero] at key
  refine⟨_,key,?_⟩
  by_cases h:l.any f=true
  · rw [if_pos h];exact⟨by omega,h⟩
  · rw [if_neg h];simpa using h
theorem QD{l:List dA}(hl:l.length≤maxLen)(f:dA→Bool):g9 l (fun x=>some (f x))=some (l.any f):=by
  obtain⟨o,e,h⟩:=GM l f (body:=jQ l (fun x=>some (f x))) (fun k hk=>by
    simp only [jQ]
    rw [if_pos (by simp;omega),aW hk,jB (nW hk hl)];rfl) (by simp [jQ])
  unfold g9 rH
  rw [e]
  cases o with
  | brk u=>simp only at h;simp [nC,vJ,h]
  | ret r=>simp only at h;simp [nC,h]
theorem OG{l:List aY}(hl:l.length≤maxLen)(f:aY→Bool)(g:aY→Option Bool)(hg:∀x∈l,g x=some (f x)):gT l g=some (l.any f):=by
  obtain⟨o,e,h⟩:=GM l f (body:=jD l g) (fun k hk=>by
    simp only [jD]
    rw [if_pos (by simp;omega),aW hk,jB (nW hk hl)]
    simp only [aI,hg _ (List.getElem_mem hk)]) (by simp [jD])
  unfold gT pN
  rw [e]
  cases o with
  | brk u=>simp only at h;simp [l9,uO,h]
  | ret r=>simp only at h;simp [l9,h]
theorem OH{l:List aN}(hl:l.length≤maxLen)(f:aN→Bool)(g:aN→Option Bool)(hg:∀x∈l,g x=some (f x)):gU l g=some (l.any f):=by
  obtain⟨o,e,h⟩:=GM l f (body:=jE l g) (fun k hk=>by
    simp only [jE]
    rw [if_pos (by simp;omega),aW hk,jB (nW hk hl)]
    simp only [aI,hg _ (List.getElem_mem hk)]) (by simp [jE])
  unfold gU pO
  rw [e]
  cases o with
  | brk u=>simp only at h;simp [mA,uP,h]
  | ret r=>simp only at h;simp [mA,h]
theorem contains_eq{l:List Int}(hl:l.length≤maxLen)(v:Int):nL l v=some (decide (v∈l)):=by
  obtain⟨o,e,h⟩:=GM l (fun x=>v == x) (body:=eB l v) (fun k hk=>by
    simp only [eB]
    rw [if_pos (by simp;omega),aW hk,jB (nW hk hl)];rfl) (by simp [eB])
  have ha:l.any (fun x=>v == x)=decide (v∈l):=by
    rw [Bool.eq_iff_iff];simp
  rw [ha] at h
  unfold nL lR
  rw [e]
  cases o with
  | brk u=>simp only at h;simp [nK,EI,h]
  | ret r=>simp only at h;simp [nK,h]
theorem PD{l:List aN}{x:Int}:x∈cM l↔∃s∈l,x∈s.aQ:=List.mem_flatMap
noncomputable section
variable {m:Mem} (hsh:fF m.aD) (hl:(cX m.aB).length≤1073741824) (hg:m.aB.Global.length≤maxLen) (ho:m.aB.Own.length≤maxLen)
include hl hg ho
theorem ZN(s:Int):NS m.aB s=some (decide (s∈cX m.aB)):=by
  have hb:(1073741824:Nat)≤maxLen:=by simp [maxLen]
  unfold NS
  rw [P9 hl hg ho]
  simp only [aI]
  rw [QA (by omega)];rfl
theorem OI(s:Int):DE m.aB s=some (decide (s∈cX m.aB)):=by
  have hb:(1073741824:Nat)≤maxLen:=by simp [maxLen]
  have hal:=oX m.aB
  have e1:∀x∈m.aB.Global,nD x s=some (decide (s∈x.aQ)):=fun x hx=>by
    have:=DT hx
    unfold nD;rw [contains_eq (by omega)];rfl
  have e2:∀x∈m.aB.Own,nD x s=some (decide (s∈x.aQ)):=fun x hx=>by
    have:=DT hx
    unfold nD;rw [contains_eq (by omega)];rfl
  unfold DE zJ
  rw [OH hg (fun x=>decide (s∈x.aQ)) _ e1,OH ho (fun x=>decide (s∈x.aQ)) _ e2]
  have a1:(m.aB.Global.any fun x=>decide (s∈x.aQ))=decide (s∈cM m.aB.Global):=by
    rw [Bool.eq_iff_iff];simp [PD]
  have a2:(m.aB.Own.any fun x=>decide (s∈x.aQ))=decide (s∈cM m.aB.Own):=by
    rw [Bool.eq_iff_iff];simp [PD]
  rw [a1,a2]
  simp only [aI,cX,List.mem_append]
  by_cases q:s∈cM m.aB.Global <;> simp [q]
def d6(m:Mem)(s:Int):Int:=if aU m.aD s < 0 then 0 else if s∈cX m.aB then 1 else if 6 < gR m.aD s then 2 else 3
include hsh
theorem WH(s:Int):K2 m s=some (d6 m s):=by
  unfold K2 d6
  rw [hQ hsh,ZN hl hg ho]
  simp only [aI]
  by_cases q:aU m.aD s < 0
  · simp [q]
  · rw [nE hsh (by omega)]
    by_cases q2:s∈cX m.aB
    · simp [q,q2]
    · by_cases q3:6 < gR m.aD s <;> simp [q,q2,q3]
theorem WI(s:Int):EV m s=some (d6 m s):=by
  unfold EV d6
  rw [kS hsh,OI hl hg ho]
  simp only [aI]
  by_cases q:aU m.aD s < 0
  · simp [q]
  · rw [C6 hsh (by omega)]
    by_cases q2:s∈cX m.aB
    · simp [q,q2]
    · by_cases q3:6 < gR m.aD s <;> simp [q,q2,q3]
def gY(m:Mem)(h:Int):Prop:=jA h∧d6 m (h % 32)=3∧gR m.aD (h % 32)=h / 32
instance (m:Mem) (h:Int):Decidable (gY m h):=by unfold gY;infer_instance
omit hl hg ho hsh in
theorem gH{m:Mem}{s:Int}(h:d6 m s=3):0≤aU m.aD s:=by
  unfold d6 at h
  split at h
  · omega
  · omega
theorem xM(h:Int):FD m h=some (decide (gY m h)):=by
  unfold FD xE
  rw [eJ,dC]
  by_cases q:jA h
  · have hm:=q.mod
    rw [bD q,if_pos q]
    simp only [aI,if_true,WH hsh hl hg ho]
    by_cases q2:d6 m (h % 32)=3
    · have n:(d6 m (h % 32) == 3)=true:=by simpa using q2
      have eg:F6 h=some (h / 32):=by
        unfold F6
        unfold jA at q
        rw [eJ,bD (show jA h from q),DS (by omega),aP (by omega) (by omega)];rfl
      rw [n,nE hsh (gH q2),eg]
      simp only [if_true,aI]
      congr 1;rw [Bool.eq_iff_iff];simp only [beq_iff_eq,decide_eq_true_eq]
      exact⟨fun a=>⟨q,q2,a⟩,fun a=>a.2.2⟩
    · have n:(d6 m (h % 32) == 3)=false:=by simpa using q2
      rw [n,bM (fun a:gY m h=>q2 a.2.1)];rfl
  · rw [bM q,bM (fun a:gY m h=>q a.1)];rfl
theorem GN(h:Int):yL m h=some (decide (gY m h)):=by
  unfold yL sK
  rw [iJ]
  by_cases q:jA h
  · have hm:=q.mod
    rw [bD q,hm.1]
    simp only [aI,if_true,WI hsh hl hg ho]
    by_cases q2:d6 m (h % 32)=3
    · have n:(d6 m (h % 32) == 3)=true:=by simpa using q2
      have eg:bC (Int.tdiv h 32)=h / 32:=by
        unfold jA at q
        rw [DS (by omega),aP (by omega) (by omega)]
      rw [n,C6 hsh (gH q2),eg]
      simp only [if_true,aI]
      congr 1;rw [Bool.eq_iff_iff];simp only [beq_iff_eq,decide_eq_true_eq]
      exact⟨fun a=>⟨q,q2,a⟩,fun a=>a.2.2⟩
    · have n:(d6 m (h % 32) == 3)=false:=by simpa using q2
      rw [n,bM (fun a:gY m h=>q2 a.2.1)];rfl
  · rw [bM q,bM (fun a:gY m h=>q a.1)];rfl
end
def C8(b:aA)(r:dA):Prop:=gY b.Mem r.Handle∧r.aJ≤b.aC.aJ
instance (b:aA) (r:dA):Decidable (C8 b r):=by unfold C8;infer_instance
def pB(b:aA):Prop:=(mD b.Mem∧GX b.aC∧uS b.aO∧GL b.m7)∧∀r∈bZ b.aO,C8 b r
instance (b:aA):Decidable (pB b):=by unfold pB;infer_instance
def LH(b:aA):Prop:=uZ b.Mem∧b.aC.cK.length≤1048576∧b.aO.length≤1048576∧(bZ b.aO).length≤1048576∧b.m7.length≤1048576
theorem LH.rows{b:aA}(h:LH b):∀s∈b.aO,s.Rows.length≤1048576:=fun s hs=>by
  have:=J5 hs;have:=h.2.2.2.1;omega
noncomputable section
variable {b:aA} (hf:b.Mem.aD.Bytes.length≤maxLen∧(cX b.Mem.aB).length≤1073741824∧b.aC.cK.length≤maxLen∧b.aO.length≤maxLen∧(bZ b.aO).length≤1073741824∧b.m7.length≤maxLen)
include hf
theorem ZO:HK b=some (decide (pB b)):=by
  obtain⟨f1,f2,f3,f4,f5,f6⟩:=hf
  unfold HK oG
  rw [QC f1 f2,qT f3,xL f5,IW f6]
  by_cases q1:mD b.Mem
  · by_cases q2:GX b.aC
    · by_cases q3:uS b.aO
      · by_cases q4:GL b.m7
        · have hg:b.Mem.aB.Global.length≤maxLen:=by rw [q1.1.2.1];simp [maxLen]
          have ho:b.Mem.aB.Own.length≤maxLen:=by rw [q1.1.2.2.1];simp [maxLen]
          have hmx:(1073741824:Nat)≤maxLen:=by simp [maxLen]
          simp only [bD q1,bD q2,bD q3,bD q4,aI,dJ,aL,if_false]
          have e1:(fun y0=>wQ y0 b)=fun r:dA=>some (!decide (C8 b r)):=by
            funext r
            unfold wQ pP
            rw [GN q1.1.1.1 f2 hg ho]
            by_cases a1:gY b.Mem r.Handle
            · by_cases a2:r.aJ≤b.aC.aJ
              · rw [bD a1,bD (show C8 b r from ⟨a1,a2⟩),bM (show ¬b.aC.aJ < r.aJ by omega)];rfl
              · rw [bD a1,bM (fun x:C8 b r=>a2 x.2),bD (show b.aC.aJ < r.aJ by omega)];rfl
            · rw [bM a1,bM (fun x:C8 b r=>a1 x.1)];rfl
          have e2:∀l∈b.aO,(fun y0=>CM y0 b) l=some (!decide (∀r∈l.Rows,C8 b r)):=fun l hl=>by
            have:=J5 hl
            simp only [CM]
            rw [e1,QD (by omega),C4];rfl
          rw [OG f4 _ _ e2,C4]
          have hiff:pB b↔∀l∈b.aO,∀r∈l.Rows,C8 b r:=by
            constructor
            · intro x l hl r hr
              exact x.2 r (List.mem_flatMap.2 ⟨l,hl,hr⟩)
            · intro x
              refine⟨⟨q1,q2,q3,q4⟩,fun r hr=>?_⟩
              obtain⟨l,hl,hr⟩:=List.mem_flatMap.1 hr
              exact x l hl r hr
          simp only [aI,Bool.not_not,hiff]
        · rw [bM (fun x:pB b=>q4 x.1.2.2.2),bD q1,bD q2,bD q3,bM q4];rfl
      · rw [bM (fun x:pB b=>q3 x.1.2.2.1),bD q1,bD q2,bM q3];rfl
    · rw [bM (fun x:pB b=>q2 x.1.2.1),bD q1,bM q2];rfl
  · rw [bM (fun x:pB b=>q1 x.1.1),bM q1];rfl
end
end Go.Gv
end
noncomputable section
namespace Go.Gv
theorem SI{α:Type}{f:(List α×Int)→Option (Step (List α×Int) (List α))}(l:List α)
    (h:∀k (hk:k < l.length),f (l.take k,(k:Int))=some (.next (l.take k ++ [l[k]],((k+1:Nat):Int)))) (he:f (l,(l.length:Int))=some (.stop l)):loop f ([],0)=some l:=by
  have:=iU (f:=f) l.length (fun k=>(l.take k,(k:Int))) l (fun k hk=>by rw [h k hk,List.take_succ_eq_append_getElem hk]) (by rw [List.take_length];exact he)
  simpa using this
theorem aCF{α:Type}{f:(Int×List α)→Option (Step (Int×List α) (List α))}(l:List α)
    (h:∀k (hk:k < l.length),f ((k:Int),l.take k)=some (.next (((k+1:Nat):Int),l.take k ++ [l[k]]))) (he:f ((l.length:Int),l)=some (.stop l)):loop f (0,[])=some l:=by
  have:=iU (f:=f) l.length (fun k=>((k:Int),l.take k)) l (fun k hk=>by rw [h k hk,List.take_succ_eq_append_getElem hk]) (by rw [List.take_length];exact he)
  simpa using this
theorem BY{l:List Int}(h:l.length≤1073741824):tB l=some l:=by
  unfold tB;rw [aR (by simpa using h)];rfl
theorem m9{l:List Int}(h:l.length≤1073741824):e9 l=some l:=by
  unfold e9;rw [aR (by simpa using h)];rfl
theorem aDY{l:List o8}(h:l.length≤1073741824):tR l=some l:=by
  unfold tR;rw [aR (by simpa using h)];rfl
theorem aBQ{l:List dA}(h:l.length≤1073741824):rN l=some l:=by
  unfold rN;rw [aR (by simpa using h)];rfl
theorem aCG{l:List aN}(hl:l.length≤1048576)(hs:∀s∈l,s.aQ.length≤1048576):HP l=some l:=by
  unfold HP
  rw [SI l]
  · rfl
  · intro k hk
    have:=hs _ (List.getElem_mem hk)
    simp only [GB]
    rw [if_pos (by simp;omega),aW hk]
    simp only [aI]
    rw [BY (by omega),aI,aR (by simp;omega),aP (by omega) (by omega)];rfl
  · simp [GB]
theorem aBR{l:aB}(h1:l.Global.length≤1048576)(h2:l.Own.length≤1048576)(h3:∀s∈l.Global,s.aQ.length≤1048576)(h4:∀s∈l.Own,s.aQ.length≤1048576):NY l=some l:=by
  unfold NY;rw [aCG h1 h3,aCG h2 h4];rfl
theorem IX{l:aB}(h1:l.Global.length≤1048576)(h2:l.Own.length≤1048576)(h3:∀s∈l.Global,s.aQ.length≤1048576)(h4:∀s∈l.Own,s.aQ.length≤1048576):g8 l=some l:=by
  unfold g8
  rw [aCF l.Global]
  · simp only [aI,HI,HH]
    rw [aCF l.Own]
    · rfl
    · intro k hk
      have:=h4 _ (List.getElem_mem hk)
      simp only [y9]
      rw [if_pos (by simp;omega),aW hk]
      simp only [aI]
      rw [m9 (by omega),aI,aR (by simp;omega),y8,aP (by omega) (by omega)];rfl
    · simp [y9]
  · intro k hk
    have:=h3 _ (List.getElem_mem hk)
    simp only [zC]
    rw [if_pos (by simp;omega),aW hk]
    simp only [aI]
    rw [m9 (by omega),aI,aR (by simp;omega),zA,aP (by omega) (by omega)];rfl
  · simp [zC]
theorem aDZ{h:aD}(h1:h.Bytes.length≤1048576)(h2:h.Class.length≤1048576):NX h=some h:=by
  unfold NX;rw [BY (by omega),BY (by omega)];rfl
theorem LI{h:aD}(h1:h.Bytes.length≤1048576)(h2:h.Class.length≤1048576):qV h=some h:=by
  unfold qV;rw [m9 (by omega),m9 (by omega)];rfl
theorem UN{m:Mem}(h:uZ m):NZ m=some m:=by
  have a:=aDZ h.1 h.2.1
  have b:=aBR h.2.2.1 h.2.2.2.1 h.UM.1 h.UM.2
  unfold NZ;rw [a,b];rfl
theorem UO{m:Mem}(h:uZ m):zD m=some m:=by
  have a:=LI h.1 h.2.1
  have b:=IX h.2.2.1 h.2.2.2.1 h.UM.1 h.UM.2
  unfold zD;rw [a,b];rfl
theorem lN{c:aC}(h:c.cK.length≤1048576):uI c=some c:=by
  unfold uI;rw [aR (by simp;omega)];rfl
theorem wG{c:aC}(h:c.cK.length≤1048576):jX c=some c:=by
  unfold jX;rw [aDY (by omega)];rfl
theorem IY{l:List aY}(hl:l.length≤1048576)(hs:∀s∈l,s.Rows.length≤1048576):jY l=some l:=by
  unfold jY
  rw [SI l]
  · rfl
  · intro k hk
    have:=hs _ (List.getElem_mem hk)
    simp only [zE]
    rw [if_pos (by simp;omega),aW hk]
    simp only [aI]
    rw [aBQ (by omega),aI,aR (by simp;omega),aP (by omega) (by omega)];rfl
  · simp [zE]
theorem aD0{b:aA}(h:LH b):CH b=some b:=by
  have m:=UO h.1
  have c:=wG h.2.1
  have l:=IY h.2.2.1 h.rows
  have:=h.2.2.2.2
  unfold CH;rw [m,c,l,m9 (by omega)];rfl
end Go.Gv
end
noncomputable section
namespace Go.Gv
theorem j5(w:Int):fJ w=some (decide (0≤w∧w≤2)):=by
  unfold fJ;rw [dX];rfl
noncomputable section
variable {c:aC} (hc:GX c) {w:Int} (hw:0≤w∧w≤2)
include hc
theorem GX.small:c.cK.length≤1048576∧c.cK.length≤maxLen:=by
  have:=hc.2.1;simp only [maxLen];omega
theorem GX.aD1{k:Nat}{p:o8}(hp:POk c.aJ p):GX ⟨c.aJ,c.cK.set k p⟩:=⟨hc.1,by simpa using hc.2.1,fun q hq=>(List.mem_or_eq_of_mem_set hq).elim (hc.2.2 q) (fun e=>e ▸ hp)⟩
theorem GX.later(h:c.aJ+1≤100000):GX ⟨c.aJ+1,c.cK⟩:=by
  have h1:=hc.1
  exact⟨⟨by simp only;omega,h⟩,hc.2.1,fun q hq=>by
    obtain⟨a,b,d⟩:=hc.2.2 q hq
    exact⟨⟨a.1,by simp only;omega⟩,b,d⟩⟩
include hw
theorem T1:∃p,idx c.cK w=some p∧POk c.aJ p:=by
  have h3:=hc.2.1
  rw [fD hw.1 (by omega)]
  exact⟨_,rfl,hc.2.2 _ (List.getElem_mem _)⟩
theorem aK6(e:Int):∃r,DK c w e=some r∧HM c w e=some r∧GX r.1∧r.1.aJ=c.aJ:=by
  obtain⟨p,hp,h1,⟨hs0,hs1⟩,h2⟩:=T1 hc hw
  have h3:=hc.2.1
  unfold DK HM
  rw [lN hc.small.1,wG hc.small.1,i7,qT hc.small.2,j5,bU,bD hc,bD hw]
  simp only [aI,dJ,aL,if_false,AN,zU,hp]
  cases h4:p.On
  · exact⟨_,rfl,rfl,hc,rfl⟩
  · cases h5:p.dI
    · by_cases h6:p.aJ=e
      · simp only [oQ,oK,h6,beq_self_eq_true,if_true,dJ,aL,if_false]
        exact⟨_,rfl,rfl,hc,rfl⟩
      · have h6':(p.aJ == e)=false:=by simpa using h6
        simp only [oQ,oK,h6',dJ,aL,if_false,hp,aI]
        by_cases h7:p.Seen=2
        · simp only [h7,beq_self_eq_true,if_true,show ¬((2:Int) < 2) by omega,decide_false,aL,if_false]
          exact⟨_,rfl,rfl,hc.aD1 ⟨h1,by simp,fun q=>by simp [h4] at q⟩,rfl⟩
        · have h7':(p.Seen == 2)=false:=by simpa using h7
          simp only [h7',show p.Seen < 2 by omega,decide_true,if_true,aL,if_false]
          have hw7:bC (p.Seen+1)=p.Seen+1:=aP (by omega) (by omega)
          exact⟨_,rfl,rfl,hc.aD1 ⟨h1,by simp only [hw7];omega,fun q=>by simp [h4] at q⟩,rfl⟩
    · exact⟨_,rfl,rfl,hc,rfl⟩
theorem aO5(e:Int):∃r,GA c w e=some r∧KP c w e=some r∧(GX r.1∧r.1.aJ=c.aJ)∧(r.2=false→r.1=c):=by
  obtain⟨p,hp,hpk⟩:=T1 hc hw
  have h3:=hc.2.1
  unfold GA KP
  rw [lN hc.small.1,wG hc.small.1,i7,qT hc.small.2,j5,bU,bU,dX,bD hc,bD hw]
  simp only [aI,dJ,aL,if_false,v7,vN,hp]
  by_cases h:0≤e∧e≤c.aJ
  · simp only [bD h,dJ,aL,if_false]
    exact⟨_,rfl,rfl,⟨hc.aD1 ⟨h,by simp,fun q=>by cases q⟩,rfl⟩,fun q=>by cases q⟩
  · simp only [bM h,iC,if_true]
    exact⟨_,rfl,rfl,⟨hc,rfl⟩,fun _=>rfl⟩
omit hw in
theorem aSG(e:Int):∃r,JT c e=some r∧PB c e=some r∧GX r.1∧c.aJ≤r.1.aJ:=by
  have h3:=hc.2.1
  unfold JT PB
  rw [lN hc.small.1,wG hc.small.1,i7,qT hc.small.2,bD hc]
  simp only [aI,dJ,aL,if_false,AO,zV]
  by_cases h:c.aJ=e
  · subst h
    simp only [bne_self_eq_false,aL,if_false]
    by_cases h:c.aJ=100000
    · simp only [h,beq_self_eq_true,if_true];exact⟨_,rfl,rfl,hc,by simp [h]⟩
    · have h':(c.aJ == 100000)=false:=by simpa using h
      have hE:=hc.1
      have hw7:bC (c.aJ+1)=c.aJ+1:=aP (by omega) (by omega)
      simp only [h',aL,if_false,hw7];exact⟨_,rfl,rfl,hc.later (by omega),by simp only;omega⟩
  · have h':(c.aJ != e)=true:=by simpa using h
    simp only [h',if_true];exact⟨_,rfl,rfl,hc,Int.le_refl _⟩
end
theorem aVP{b:aA}(hc:GX b.aC){w:Int}(hw:0≤w∧w≤2)(s:Sub) :
    ∃x y,DM b w s=some (x,y)∧tZ s b w=some (y,x)∧∃cl,x=⟨b.Mem,cl,b.aO,b.m7⟩∧GX cl∧b.aC.aJ≤cl.aJ:=by
  obtain⟨r,e1,e2,h3,h4⟩:=aO5 hc hw s.E
  unfold DM tZ
  rw [e1,e2]
  simp only [bG,bB,uX,aI]
  by_cases p0:s.Pc=0
  · simp only [p0,beq_self_eq_true,if_true];exact⟨_,_,rfl,rfl,_,rfl,hc,by omega⟩
  · have p0':(s.Pc == 0)=false:=by simpa using p0
    simp only [p0',aL,if_false]
    by_cases p1:s.Pc=1
    · simp only [p1,beq_self_eq_true,if_true]
      cases h:r.2
      · rw [h4 h];exact⟨_,_,rfl,rfl,_,rfl,hc,by omega⟩
      · exact⟨_,_,rfl,rfl,_,rfl,h3.1,by rw [h3.2];exact Int.le_refl _⟩
    · have p1':(s.Pc == 1)=false:=by simpa using p1
      simp only [p1',aL,if_false]
      by_cases p2:s.Pc=2
      · simp only [p2,beq_self_eq_true,if_true]
        by_cases q:b.aC.aJ=s.E
        · simp only [q,beq_self_eq_true,if_true];exact⟨_,_,rfl,rfl,_,rfl,hc,by omega⟩
        · have q':(b.aC.aJ == s.E)=false:=by simpa using q
          simp only [q',aL,if_false];exact⟨_,_,rfl,rfl,_,rfl,hc,by omega⟩
      · have p2':(s.Pc == 2)=false:=by simpa using p2
        simp only [p2',aL,if_false];exact⟨_,_,rfl,rfl,_,rfl,hc,by omega⟩
theorem aHY{b:aA}(hc:GX b.aC)(s:Sub) :
    ∃x y,qQ b s=some (x,y)∧mX s b=some (y,x)∧∃cl,x=⟨b.Mem,cl,b.aO,b.m7⟩∧GX cl∧b.aC.aJ≤cl.aJ:=by
  obtain⟨r2,e3,e4,h4⟩:=aSG hc s.E
  unfold qQ mX kG
  rw [e3,e4,bU,j5]
  simp only [bG,bB,p7,p8,kE,aI]
  by_cases p0:s.Pc=0
  · simp only [p0,beq_self_eq_true,if_true];exact⟨_,_,rfl,rfl,_,rfl,hc,by omega⟩
  · have p0':(s.Pc == 0)=false:=by simpa using p0
    simp only [p0',aL,if_false]
    by_cases p1:s.Pc=1
    · simp only [p1,beq_self_eq_true,if_true,show((1:Int) == 2)=false from rfl,aL,if_false]
      by_cases hB:0≤s.B∧s.B≤2
      · obtain⟨r,e1,e2,h3,h3'⟩:=aK6 hc hB s.E
        simp only [bD hB,dJ,aL,if_false,if_true,e1,e2,aI]
        cases h:r.2
        · exact⟨_,_,rfl,rfl,_,rfl,h3,by rw [h3'];exact Int.le_refl _⟩
        · by_cases q:bC (s.B+1)=3
          · simp only [q,beq_self_eq_true,if_true,dJ,aL,if_false];exact⟨_,_,rfl,rfl,_,rfl,h3,by rw [h3'];exact Int.le_refl _⟩
          · have q':(bC (s.B+1) == 3)=false:=by simpa using q
            simp only [q',dJ,aL,if_false];exact⟨_,_,rfl,rfl,_,rfl,h3,by rw [h3'];exact Int.le_refl _⟩
      · simp only [bM hB,iC,aL,if_false,if_true]
        exact⟨_,_,rfl,rfl,_,rfl,hc,by omega⟩
    · have p1':(s.Pc == 1)=false:=by simpa using p1
      simp only [p1',aL,if_false]
      by_cases p2:s.Pc=2
      · simp only [p2,beq_self_eq_true,if_true]
        cases h:r2.2
        · simp only [aL,if_false];exact⟨_,_,rfl,rfl,_,rfl,h4⟩
        · simp only [if_true];exact⟨_,_,rfl,rfl,_,rfl,h4⟩
      · have p2':(s.Pc == 2)=false:=by simpa using p2
        simp only [p2',aL,if_false];exact⟨_,_,rfl,rfl,_,rfl,hc,by omega⟩
end Go.Gv
end
noncomputable section
namespace Go.Gv
theorem aHZ:∀(n:Nat) (l:List Int),l.Nodup→(∀x∈l,0≤x∧x < (n:Int))→l.length≤n
  | 0, l, _, h => by
    cases l with
    | nil=>simp
    | cons a t=>have:=h a (by simp);omega
  | n + 1, l, hn, h => by
    have ih:=aHZ n (l.erase (n:Int)) (hn.erase _) (fun x hx=>by
      have h1:=(hn.mem_erase_iff).1 hx
      have h2:=h x h1.2
      have:=h1.1
      omega)
    have:=List.length_erase (a:=(n:Int)) (l:=l)
    split at this <;> omega
theorem aD2(a b:List aY):bZ (a++b)=bZ a++bZ b:=by simp [bZ]
theorem aD3(a b:List aN):cM (a++b)=cM a++cM b:=by simp [cM]
theorem BZ{l:List aY}{k:Nat}(hk:k < l.length)(x:aY):bZ (l.set k x)=bZ (l.take k)++(x.Rows++bZ (l.drop (k+1))):=by
  rw [List.set_eq_take_append_cons_drop,if_pos hk,aD2];simp [bZ]
theorem yQ{l:List aY}{k:Nat}(hk:k < l.length):bZ l=bZ (l.take k)++(l[k].Rows++bZ (l.drop (k+1))):=by
  conv=>lhs;rw [←List.set_getElem_self hk,BZ hk]
theorem B4{l:List aN}{k:Nat}(hk:k < l.length)(x:aN):cM (l.set k x)=cM (l.take k)++(x.aQ++cM (l.drop (k+1))):=by
  rw [List.set_eq_take_append_cons_drop,if_pos hk,aD3];simp [cM]
theorem yR{l:List aN}{k:Nat}(hk:k < l.length):cM l=cM (l.take k)++(l[k].aQ++cM (l.drop (k+1))):=by
  conv=>lhs;rw [←List.set_getElem_self hk,B4 hk]
def BG(l:List aY)(s:Int):Prop:=∃r∈bZ l,jA r.Handle∧r.Handle % 32=s
instance (l:List aY) (s:Int):Decidable (BG l s):=by unfold BG;infer_instance
noncomputable section
variable {l:List aY} (hl:uS l)
include hl
theorem uS.small:(bZ l).length≤1073741824∧l.length≤maxLen∧l.length≤1048576∧∀s∈l,s.Rows.length≤24:=by
  have:=hl.1;have h2:=hl.2.1
  refine⟨by omega,by simp only [maxLen];omega,by omega,fun s hs=>?_⟩
  have:=J5 hs;omega
theorem ML(s:Int):K3 l s=some (decide (BG l s)):=by
  have hm:=hl.small
  unfold K3
  rw [ZL hm.1 hm.2.1,aI]
  have key:=mR (f:=mN s (bZ l)) (bZ l) (fun k=>(k:Int)) (fun r=>¬(jA r.Handle∧r.Handle % 32=s)) (Out.brk ()) (Out.ret true)
    (fun k hk hp=>by
      have hk':=hl.2.1
      simp only [mN,xF]
      rw [if_pos (by simp;omega),aW hk,jB (show k < maxLen by simp only [maxLen];omega)]
      simp only [aI,eJ,dC]
      by_cases q:jA (bZ l)[k].Handle
      · have:((bZ l)[k].Handle % 32 == s)=false:=by simpa using fun a=>hp ⟨q,a⟩
        simp [q,this]
      · simp [q])
    (fun k hk hp=>by
      have hp:=Classical.not_not.1 hp
      simp only [mN,xF]
      rw [if_pos (by simp;omega),aW hk]
      simp [eJ,dC,hp.1,hp.2])
    (by simp [mN])
  have key':loop (mN s (bZ l)) 0=_:=key
  rw [key']
  by_cases q:BG l s
  · rw [if_neg (fun a=>by obtain⟨r,hr,e⟩:=q;exact a r hr e),bD q];rfl
  · rw [if_pos (fun r hr e=>q ⟨r,hr,e⟩),bM q];rfl
theorem WJ(s:Int):E2 l s=some (decide (BG l s)):=by
  have hm:=hl.small
  unfold E2
  have e1:∀(r:dA),oJ r s=some (decide (jA r.Handle∧r.Handle % 32=s)):=by
    intro r
    unfold oJ nN
    rw [iJ]
    by_cases q:jA r.Handle
    · rw [q.mod.1];simp [q];rfl
    · simp [q]
  have e2:∀x∈l,zT x s=some (x.Rows.any fun r=>decide (jA r.Handle∧r.Handle % 32=s)):=by
    intro x hx
    unfold zT
    have:x.Rows.length≤maxLen:=by have:=hm.2.2.2 x hx;simp only [maxLen];omega
    rw [show(fun y0=>oJ y0 s)=fun r=>some (decide (jA r.Handle∧r.Handle % 32=s)) from funext e1,QD this];rfl
  rw [OG hm.2.1 (fun x=>x.Rows.any fun r=>decide (jA r.Handle∧r.Handle % 32=s)) _ e2]
  simp only [aI]
  congr 1
  rw [Bool.eq_iff_iff,decide_eq_true_iff]
  simp only [List.any_eq_true,decide_eq_true_eq,BG,bZ,List.mem_flatMap]
  constructor
  · rintro⟨x,hx,r,hr,h⟩;exact⟨r,⟨x,hx,hr⟩,h⟩
  · rintro⟨r,⟨x,hx,hr⟩,h⟩;exact⟨x,hx,r,hr,h⟩
theorem uS.more{k:Nat}(hk:k < l.length){r:dA}(hr:HV r)(hn:¬BG l (r.Handle % 32)):uS (l.set k ⟨l[k].Rows ++ [r]⟩):=by
  have e:=BZ hk (⟨l[k].Rows ++ [r]⟩:aY)
  have p:(bZ (l.set k ⟨l[k].Rows ++ [r]⟩)).Perm (r :: bZ l):=by
    rw [e,yQ hk]
    refine List.Perm.trans ?_ List.perm_middle
    simp only [List.append_assoc]
    exact List.Perm.append_left _ (by simp only [List.singleton_append];exact(List.perm_middle (l₁:=l[k].Rows) (l₂:=bZ (l.drop (k+1))) (a:=r)))
  have h1:∀x∈bZ (l.set k ⟨l[k].Rows ++ [r]⟩),HV x:=fun x hx=>by
    rcases List.mem_cons.1 (p.mem_iff.1 hx) with rfl | h
    · exact hr
    · exact hl.2.2.1 x h
  have h2:((bZ (l.set k ⟨l[k].Rows ++ [r]⟩)).map yP).Nodup:=by
    refine(List.Perm.nodup_iff (p.map yP)).2 ?_
    rw [List.map_cons,List.nodup_cons]
    refine⟨fun h=>hn ?_,hl.2.2.2⟩
    obtain⟨x,hx,e⟩:=List.mem_map.1 h
    exact⟨x,hx,(hl.2.2.1 x hx).1,e⟩
  refine⟨by simpa using hl.1,?_,h1,h2⟩
  have:=aHZ 24 _ h2 (fun x hx=>by
    obtain⟨y,hy,rfl⟩:=List.mem_map.1 hx
    have:=(h1 y hy).1.mod
    unfold yP;omega)
  simpa using this
end
theorem aK7{b:aA}(hb:pB b)(hs:LH b){w:Int}(hw:0≤w∧w≤2)(s:Sub) :
    ∃x y,sZ b w s=some (x,y)∧nO s b w=some (y,x)∧∃L,x=⟨b.Mem,b.aC,L,b.m7⟩∧uS L∧∀r∈bZ L,C8 b r:=by
  have hL:=hb.1.2.2.1
  have hm:=hb.1.1
  have hlen:w.toNat < b.aO.length:=by have:=hL.1;omega
  have hx:idx b.aO w=some b.aO[w.toNat]:=fD hw.1 (by omega)
  have hg:b.Mem.aB.Global.length≤maxLen:=by rw [hm.1.2.1];simp [maxLen]
  have ho:b.Mem.aB.Own.length≤maxLen:=by rw [hm.1.2.2.1];simp [maxLen]
  have hall:(cX b.Mem.aB).length≤1073741824:=by have:=hs.1.2.2.2.2;omega
  have hrow:=hL.small.2.2.2 _ (List.getElem_mem hlen)
  have he:=hb.1.2.1.1
  unfold sZ nO lF
  rw [bU,dX,xM hm.1.1.1 hall hg ho,GN hm.1.1.1 hall hg ho,dC]
  simp only [bG,bB,aI,rQ,AM,lE]
  by_cases p0:s.Pc=0
  · simp only [p0,beq_self_eq_true,if_true];exact⟨_,_,rfl,rfl,_,rfl,hL,hb.2⟩
  · have p0' : (s.Pc == 0) = false := by simpa using p0
    simp only [p0',aL,if_false]
    by_cases p1:s.Pc=1
    · simp only [p1,beq_self_eq_true,bne_self_eq_false,aL,if_false,if_true]
      by_cases q1:0≤s.E∧s.E≤b.aC.aJ
      · simp only [bD q1,dJ,aL,if_false]
        by_cases q2:gY b.Mem s.A
        · have hh:=q2.1
          simp only [bD q2,dJ,aL,if_false,if_pos hh,hh.mod.1,ML hL,WJ hL,aI]
          by_cases q3:BG b.aO (s.A % 32)
          · simp only [bD q3,if_true];exact⟨_,_,rfl,rfl,_,rfl,hL,hb.2⟩
          · have hmore:=hL.more hlen (r:=⟨s.A,s.E⟩) ⟨hh,q1.1,by simp only;omega⟩ q3
            have e:CT b.aO w s.A s.E=some (b.aO.set w.toNat ⟨b.aO[w.toNat].Rows ++ [⟨s.A,s.E⟩]⟩,true):=by
              unfold CT tX
              rw [xL hL.small.1,j5,IY hL.small.2.2.1 (fun s h=>by have:=hL.small.2.2.2 s h;omega)]
              simp only [bD hL,bD hw,aI,dJ,aL,if_false,hx]
              rw [aR (by simp;omega),xL hmore.small.1,bD hmore];rfl
            simp only [bM q3,aL,if_false,hx,e,aI]
            rw [aR (by simp;omega)]
            refine⟨_,_,rfl,rfl,_,rfl,hmore,fun r hr=>?_⟩
            rw [BZ hlen] at hr
            have hsp:=yQ hlen
            rcases List.mem_append.1 hr with h | h
            · exact hb.2 r (by rw [hsp];exact List.mem_append_left _ h)
            · rcases List.mem_append.1 h with h | h
              · rcases List.mem_append.1 h with h | h
                · exact hb.2 r (by rw [hsp];exact List.mem_append_right _ (List.mem_append_left _ h))
                · simp at h;subst h;exact⟨q2,q1.2⟩
              · exact hb.2 r (by rw [hsp];exact List.mem_append_right _ (List.mem_append_right _ h))
        · simp only [bM q2,iC,if_true];exact⟨_,_,rfl,rfl,_,rfl,hL,hb.2⟩
      · simp only [bM q1,iC,if_true];exact⟨_,_,rfl,rfl,_,rfl,hL,hb.2⟩
    · have p1':(s.Pc == 1)=false:=by simpa using p1
      have p1'':(s.Pc != 1)=true:=by simpa using p1
      simp only [p1',p1'',aL,if_false,if_true];exact⟨_,_,rfl,rfl,_,rfl,hL,hb.2⟩
end Go.Gv
end
noncomputable section
namespace Go.Gv
def T2(b:List Int)(a:Nat)(n:Int):List Int:=(((b.set a 0).set (a+1) 0).set (a+2) 0).set (a+3) n
theorem A5(b:List Int)(a:Nat)(n:Int):(T2 b a n).length=b.length:=by simp [T2]
theorem aFV{b:List Int}(h:rV b)(a:Nat){n:Int}(hn:0≤n∧n≤255):rV (T2 b a n):=by
  have key:∀{l:List Int} (i:Nat) (v:Int),rV l→0≤v∧v≤255→rV (l.set i v):=fun i v hl hv x hx=>by
    rcases List.mem_or_eq_of_mem_set hx with h | rfl
    · exact hl x h
    · exact hv
  exact key _ _ (key _ _ (key _ _ (key _ _ h (by omega)) (by omega)) (by omega)) hn
theorem aO6{n:Int}(hn:0≤n∧n≤255):((u8 n).toNat:Int)=n:=by
  obtain⟨m,rfl⟩:=Int.eq_ofNat_of_zero_le hn.1
  unfold u8
  rw [UInt8.toNat_ofNat'];omega
theorem SJ{l:List Int}(i:Nat){v:Int}(hl:rV l)(hv:0≤v∧v≤255):rV (l.set i v):=fun x hx=>by
  rcases List.mem_or_eq_of_mem_set hx with h | rfl
  · exact hl x h
  · exact hv
def B5(b:List Int)(a:Nat)(n:Int):List Int:=(((b.set a (n / 16777216)).set (a+1) (n / 65536 % 256)).set (a+2) (n / 256 % 256)).set (a+3) (n % 256)
theorem J6(b:List Int)(a:Nat)(n:Int):(B5 b a n).length=b.length:=by simp [B5]
theorem aK8{b:List Int}(h:rV b)(a:Nat){n:Int}(hn:0≤n∧n≤4294967295):rV (B5 b a n):=by
  unfold B5
  exact SJ _ (SJ _ (SJ _ (SJ _ h (by omega)) (by omega)) (by omega)) (by omega)
theorem aK9(b:List Int)(a:Nat)(x y z u:Int):(((b.set (a+3) u).set (a+2) z).set (a+1) y).set a x=(((b.set a x).set (a+1) y).set (a+2) z).set (a+3) u:=by
  refine List.ext_getElem (by simp) fun j h1 h2=>?_
  simp only [List.getElem_set]
  by_cases j0:a=j
  · subst j0;simp
  · by_cases j1:a+1=j
    · subst j1;simp
    · by_cases j2:a+2=j
      · subst j2;simp
      · by_cases j3:a+3=j
        · subst j3;simp
        · simp [j0,j1,j2,j3]
theorem T3{b:List Int}{a:Nat}(h:a+4≤b.length)(hl:b.length≤100000){n:Int}(hn:0≤n∧n≤4294967295):uE b (a:Int) 4 n=some (B5 b a n):=by
  have st:∀(c:List Int) (m:Int) (i:Nat),c.length=b.length→0≤m→m≤4294967295→i < 4→xG (a:Int) (c,m,(i:Int))=some (.next (c.set (a+i) (m % 256),m / 256,(i:Int) - 1)):=fun c m i hc h0 h1 hi=>by
    simp only [xG]
    rw [if_pos (by simp),aP (x:=(a:Int)+i) (by omega) (by omega),show(a:Int)+i=((a+i:Nat):Int) by omega,aW (by omega),aI,tI h0,DS h0,aP (x:=m / 256) (by omega) (by omega),aP (x:=(i:Int) - 1) (by omega) (by omega),Int.toNat_natCast]
  unfold uE
  rw [show bC (4 - 1)=((3:Nat):Int) from by rw [aP (by omega) (by omega)];rfl]
  rw [b8 (st b n 3 rfl hn.1 hn.2 (by omega)),show((3:Nat):Int) - 1=((2:Nat):Int) by rfl,
    b8 (st _ _ 2 (by simp) (by omega) (by omega) (by omega)),show((2:Nat):Int) - 1=((1:Nat):Int) by rfl,
    b8 (st _ _ 1 (by simp) (by omega) (by omega) (by omega)),show((1:Nat):Int) - 1=((0:Nat):Int) by rfl,
    b8 (st _ _ 0 (by simp) (by omega) (by omega) (by omega)),bV (r:=B5 b a n)]
  · rfl
  · simp only [xG]
    rw [if_neg (by simp)]
    have e1:n / 256 / 256=n / 65536:=by omega
    have e2:n / 256 / 256 / 256=n / 16777216:=by omega
    have e3:n / 16777216 % 256=n / 16777216:=by omega
    rw [e1,show n / 65536 / 256=n / 16777216 by omega,e3]
    unfold B5
    simp only [Nat.add_zero]
    rw [aK9]
def QE(n:Int):List UInt8:=[u8 (n / 16777216),u8 (n / 65536),u8 (n / 256),u8 n]
theorem ZP{n:Int}(hn:0≤n∧n≤4294967295):xT n 4=some (QE n):=by
  have hw:jR 4=some true:=by unfold jR;rw [dX];rfl
  unfold xT
  rw [hw]
  have e1:IntKind.u64.wrap (bC (8 * 4))=32:=by decide
  have e2:aBX .i64 1 32=4294967296:=by decide
  simp only [aI,dJ,aL,if_false,e1,e2]
  rw [if_neg (by simp;omega),aR (by omega),bM (by omega)]
  simp only [vL,aL,if_false]
  rw [aR (by omega),show bC (4 - 1)=((3:Nat):Int) from by rw [aP (by omega) (by omega)];rfl]
  have st:∀(m:Int) (c:List UInt8) (i:Nat),i < c.length→i < 4→0≤m→CQ (m,c,(i:Int))=some (.next (m / 256,c.set i (u8 m),(i:Int) - 1)):=fun m c i hc hi h0=>by
    simp only [CQ]
    rw [if_pos (by simp),aW hc,aI,show(8:Int)=((8:Nat):Int) from rfl,aSE h0 (by omega),aP (by omega) (by omega),Int.toNat_natCast];rfl
  rw [b8 (st n _ 3 (by simp) (by omega) hn.1),show((3:Nat):Int) - 1=((2:Nat):Int) by rfl,
    b8 (st _ _ 2 (by simp) (by omega) (by omega)),show((2:Nat):Int) - 1=((1:Nat):Int) by rfl,
    b8 (st _ _ 1 (by simp) (by omega) (by omega)),show((1:Nat):Int) - 1=((0:Nat):Int) by rfl,
    b8 (st _ _ 0 (by simp) (by omega) (by omega)),bV (r:=QE n)]
  · rfl
  · simp only [CQ]
    rw [if_neg (by simp)]
    have e1:n / 256 / 256=n / 65536:=by omega
    rw [e1,show n / 65536 / 256=n / 16777216 by omega]
    rfl
theorem aD4{n:Int}(hn:0≤n):((u8 n).toNat:Int)=n % 256:=by
  have:u8 n=u8 (n % 256):=by
    unfold u8
    congr 1
    omega
  rw [this,aO6 (by omega)]
theorem ZQ{b:List Int}{a:Nat}(h:a+4≤b.length)(hl:b.length≤100000){n:Int}(hn:0≤n∧n≤4294967295):sO b (a:Int) (QE n)=some (B5 b a n):=by
  have st:∀(c:List Int) (i:Nat) (v:UInt8),c.length=b.length→i < 4→idx (QE n) (i:Int)=some v→zQ b (a:Int) (QE n) (c,(i:Int))=some (.next (c.set (a+i) (v.toNat:Int),((i+1:Nat):Int))):=fun c i v hc hi hv=>by
    simp only [zQ]
    rw [aR hc,if_pos (by simp [QE];omega),hv,aI,aP (x:=(a:Int)+i) (by omega) (by omega),show(a:Int)+i=((a+i:Nat):Int) by omega,aW (by omega),aI,aP (by omega) (by omega),Int.toNat_natCast];rfl
  unfold sO
  rw [show(0:Int)=((0:Nat):Int) from rfl,b8 (st b 0 _ rfl (by omega) rfl),b8 (st _ 1 _ (by simp) (by omega) rfl),b8 (st _ 2 _ (by simp) (by omega) rfl),b8 (st _ 3 _ (by simp) (by omega) rfl),bV (r:=B5 b a n)]
  · simp only [aI,NC,NB]
    rw [aR (J6 b a n)]
  · simp only [zQ]
    rw [aR (by simp),if_neg (by simp [QE])]
    simp only [aD4 hn.1,aD4 (show 0≤n / 16777216 by omega),aD4 (show 0≤n / 65536 by omega),aD4 (show 0≤n / 256 by omega)]
    rw [show n / 16777216 % 256=n / 16777216 by omega]
    rfl
theorem aO7{b:List Int}{a:Nat}{n:Int}(hn:0≤n∧n≤255):B5 b a n=T2 b a n:=by
  unfold B5 T2
  rw [show n / 16777216=0 by omega,show n / 65536 % 256=0 by omega,show n / 256 % 256=0 by omega,show n % 256=n by omega]
theorem EB{b:List Int}{a:Nat}(h:a+4≤b.length)(hl:b.length≤100000){n:Int}(hn:0≤n∧n≤255):uE b (a:Int) 4 n=some (T2 b a n):=by
  rw [T3 h hl ⟨hn.1,by omega⟩,aO7 hn]
theorem aXQ{n:Int}(hn:0≤n∧n≤255):QE n=[0,0,0,u8 n]:=by
  unfold QE
  rw [show n / 16777216=0 by omega,show n / 65536=0 by omega,show n / 256=0 by omega];rfl
theorem QF{n:Int}(hn:0≤n∧n≤255):xT n 4=some [0,0,0,u8 n]:=by
  rw [ZP ⟨hn.1,by omega⟩,aXQ hn]
theorem OJ{b:List Int}{a:Nat}(h:a+4≤b.length)(hl:b.length≤100000){n:Int}(hn:0≤n∧n≤255):sO b (a:Int) [0,0,0,u8 n]=some (T2 b a n):=by
  rw [←aXQ hn,ZQ h hl ⟨hn.1,by omega⟩,aO7 hn]
end Go.Gv
end
noncomputable section
namespace Go.Gv
theorem aT0{x y z:Int}:∀(a:Nat) (l:List Int),a+3≤l.length→dD l a [x,y,z]=((l.set a x).set (a+1) y).set (a+2) z
  | 0, l, h => by
    match l,h with
    | _ :: _ :: _ :: t,_=>simp [dD]
  | a + 1, l, h => by
    match l,h with
    | u :: t, h =>
      have ih:=aT0 (x:=x) (y:=y) (z:=z) a t (by simp at h;omega)
      simp only [List.set_cons_succ,←ih]
      simp [dD,Nat.add_right_comm]
def aO8(p k:Nat)(c:Int):Nat:=(dW ((p:Int) * 4+k) c).toNat
def gB(b:List Int)(p:Nat)(c:Int):Nat→List Int
  | 0=>((b.set (p * 64) 171).set (p * 64+1) c).set (p * 64+2) (bP c)
  | k+1=>T2 (gB b p c k) (aO8 p k c) 1
theorem GO(b:List Int)(p:Nat)(c:Int):∀k,(gB b p c k).length=b.length
  | 0=>by simp [gB]
  | k+1=>by rw [gB,A5,GO b p c k]
theorem ZR{l:List Int}(i:Nat){v:Int}(hl:rV l)(hv:0≤v∧v≤255):rV (l.set i v):=fun x hx=>by
  rcases List.mem_or_eq_of_mem_set hx with h | rfl
  · exact hl x h
  · exact hv
theorem aD5{b:List Int}(hb:rV b)(p:Nat){c:Int}(hc:0≤c∧c≤2):∀k,rV (gB b p c k)
  | 0 => by
    have:=lI c
    exact ZR _ (ZR _ (ZR _ hb (by omega)) (by omega)) (by omega)
  | k+1=>aFV (aD5 hb p hc k) _ (by omega)
def gS(p:Nat)(n:Nat):List Int:=(List.range n).map fun(i:Nat)=>(p:Int) * 4+(i:Int)
theorem GP(p n:Nat):(gS p n).length=n:=by simp [gS]
theorem aJ4(p n:Nat):gS p (n+1)=gS p n ++ [(p:Int) * 4+(n:Int)]:=by simp [gS,List.range_succ]
theorem aD6{p k:Nat}{c:Int}(hp:p < 6)(hk:(k:Int) < bP c):dW ((p:Int) * 4+k) c=(aO8 p k c:Int)∧aO8 p k c+4≤384:=by
  have h4:=lI c
  have hm:=GH (c:=c) (i:=(k:Int)) (by omega) hk
  have hst:4≤aS c:=by
    have:0≤c∧c≤2:=gG.1 (by omega)
    rcases fE this with e | e | e <;> rw [e] <;> decide
  have e:dW ((p:Int) * 4+k) c=(p:Int) * 64+8+(k:Int) * aS c:=by
    unfold dW
    rw [if_pos ⟨by omega,by omega⟩,show((p:Int) * 4+k) / 4=p by omega,show((p:Int) * 4+k) % 4=k by omega]
  unfold aO8
  rw [e];omega
theorem aCH{p k:Nat}(hp:p < 6)(hk:k < 4):sV (p:Int) (k:Int)=some ((p:Int) * 4+k)∧HL (p:Int) (k:Int)=some ((p:Int) * 4+k):=by
  have a:0≤(p:Int)∧(p:Int)≤5:=by omega
  have b:0≤(k:Int)∧(k:Int)≤3:=by omega
  have e1:bC ((p:Int) * 4)=(p:Int) * 4:=aP (by omega) (by omega)
  have e2:bC ((p:Int) * 4+k)=(p:Int) * 4+k:=aP (by omega) (by omega)
  constructor
  · unfold sV AJ;rw [bU,bU,bD a,bD b,e1,e2];rfl
  · unfold HL zR;rw [dX,dX,bD a,bD b,e1,e2];rfl
noncomputable section
variable {b:List Int} (hb:b.length=384) {p:Nat} (hp:p < 6) {c:Int} (hc:0≤c∧c≤2)
include hb hp hc
theorem ZS:loop (xH c (p:Int)) ([],0,gB b p c 0)=some (gS p (bP c).toNat,gB b p c (bP c).toNat):=by
  have h4:=lI c
  refine iU (bP c).toNat (fun k=>(gS p k,(k:Int),gB b p c k)) _ (fun k hk=>?_) ?_
  · have ho:=aD6 (c:=c) hp (k:=k) (by omega)
    simp only [xH,MG,gN,aI]
    rw [if_pos (by simp;omega),(aCH hp (by omega)).1]
    simp only [aI,rB,ho.1]
    rw [EB (by rw [GO];omega) (by rw [GO];omega) (by omega)]
    simp only [aI]
    rw [aR (by rw [GP];simp;omega),aP (by omega) (by omega),aJ4];rfl
  · simp only [xH,gN,aI]
    rw [if_neg (by simp;omega)]
theorem aH0:loop (CR c (p:Int) (bP c)) ([],0,gB b p c 0)=some (gS p (bP c).toNat,gB b p c (bP c).toNat):=by
  have h4:=lI c
  refine iU (bP c).toNat (fun k=>(gS p k,(k:Int),gB b p c k)) _ (fun k hk=>?_) ?_
  · have ho:=aD6 (c:=c) hp (k:=k) (by omega)
    simp only [CR,H8]
    rw [if_pos (by simp;omega),(aCH hp (by omega)).2]
    simp only [aI,wE,ho.1]
    rw [QF (by omega),aI,OJ (by rw [GO];omega) (by rw [GO];omega) (by omega)]
    simp only [aI]
    rw [aR (by rw [GP];simp;omega),aP (by omega) (by omega),aJ4];rfl
  · simp only [CR]
    rw [if_neg (by simp;omega)]
end
theorem aO9{h:aD}(hh:P8 h){c:Int}(hc:0≤c∧c≤2) :
    (pZ h c=some (h,[])∧BS h c=some (h,[])) ∨
    ∃p,p < 6∧bL h p < 0∧pZ h c=some (⟨gB h.Bytes p c (bP c).toNat,h.Class.set p c⟩,gS p (bP c).toNat)∧BS h c=some (⟨gB h.Bytes p c (bP c).toNat,h.Class.set p c⟩,gS p (bP c).toNat):=by
  have hs:=hh.1
  have h6:=hs.2.1
  have h384:=hs.1
  have hp4:=lI c
  have hcp:=LI (h:=h) (by omega) (by omega)
  have hne:∀j (hj:j < 6),j < h.Class.findIdx (fun x=>decide (x = -1))→h.Class[j]≠-1:=fun j hj hlt=>by
    have:=List.not_of_lt_findIdx hlt
    simpa using this
  generalize hq:h.Class.findIdx (fun x=>decide (x = -1))=q at hne
  have hq6:q≤6:=by rw [←hq,←h6];exact List.findIdx_le_length
  have s1:∀k (hk:k < q),eI h c (k:Int)=some (.next ((k+1:Nat):Int)):=fun k hk=>by
    have:=hne k (by omega) hk
    have n:(h.Class[k] != -1)=true:=by simpa using this
    simp only [eI,D8]
    rw [if_pos (by simp;omega),aW (by omega),aI,n,if_pos rfl,aP (by omega) (by omega)];rfl
  have s2:∀k (hk:k < q),eB h.Class (-1) (k:Int)=some (.next ((k+1:Nat):Int)):=fun k hk=>by
    have:=hne k (by omega) hk
    have n:((-1:Int) == h.Class[k])=false:=by simpa using fun a=>this a.symm
    simp only [eB]
    rw [if_pos (by simp;omega),aW (by omega),aI,n,aP (by omega) (by omega)];rfl
  have hm:h.Bytes.length≤maxLen:=by rw [h384];simp [maxLen]
  by_cases h5:q=6
  · left
    have a1:loop (eI h c) 0=some (Out.brk ()):=iU q (fun k=>(k:Int)) _ s1 (by simp only [eI];rw [if_neg (by simp;omega)])
    have a2:loop (eB h.Class (-1)) 0=some (Out.brk ()):=iU q (fun k=>(k:Int)) _ s2 (by simp only [eB];rw [if_neg (by simp;omega)])
    constructor
    · unfold pZ;rw [a1];rfl
    · unfold BS lR
      rw [a2,hcp,GJ hm,i6,bD hh,bD hc];rfl
  · right
    have hq5:q < 6:=by omega
    have he:h.Class[q] = -1:=by
      have:=List.findIdx_getElem (xs:=h.Class) (p:=fun x=>decide (x = -1)) (w:=by rw [hq];omega)
      simp only [hq,decide_eq_true_eq] at this
      exact this
    refine⟨q,hq5,by rw [←PC hs hq5,he];omega,?_,?_⟩
    · have a1:loop (eI h c) 0=some (Out.ret (⟨gB h.Bytes q c (bP c).toNat,h.Class.set q c⟩,gS q (bP c).toNat)):=iU q (fun k=>(k:Int)) _ s1 (by
        have e0:bC ((q:Int) * 64)=((q * 64:Nat):Int):=by rw [aP (by omega) (by omega)];omega
        have e1:bC (((q * 64:Nat):Int)+1)=((q * 64+1:Nat):Int):=by rw [aP (by omega) (by omega)];omega
        have e2:bC (((q * 64:Nat):Int)+2)=((q * 64+2:Nat):Int):=by rw [aP (by omega) (by omega)];omega
        have n:(h.Class[q] != -1)=false:=by simpa using he
        simp only [eI,e0,e1,e2,Int.toNat_natCast]
        rw [if_pos (by simp;omega),aW (by omega),aI,n,if_neg (by simp),aW (by omega),aI,aW (by simp;omega),aI,gN,aI,aW (by simp;omega),aI]
        have:=ZS h384 hq5 hc
        simp only [gB] at this
        rw [this];rfl)
      unfold pZ;rw [a1];rfl
    · have a2:loop (eB h.Class (-1)) 0=some (Out.ret (q:Int)):=iU q (fun k=>(k:Int)) _ s2 (by
        have n:((-1:Int) == h.Class[q])=true:=by rw [he];rfl
        simp only [eB]
        rw [if_pos (by simp;omega),aW (by omega),aI,n];rfl)
      unfold BS lR
      rw [a2,hcp,GJ hm,i6,bD hh,bD hc]
      have e0:bC ((q:Int) * 64)=((q * 64:Nat):Int):=by rw [aP (by omega) (by omega)];omega
      simp only [aI,nK,dJ,aL,if_false,vM,e0,xJ,H9,Int.toNat_natCast]
      rw [bM (by omega),if_neg (by simp),aW (by omega),aI,aR (by omega),aT0 _ _ (by omega)]
      have:=aH0 h384 hq5 hc
      simp only [gB] at this
      rw [this];rfl
theorem LOk.count{l:aB}(h:LOk l):(cX l).length≤24:=aHZ 24 _ h.2.2.2.2 (fun x hx=>by have:=h.2.2.2.1 x hx;omega)
theorem aLA{m:Mem}(hs:fF m.aD){s:Int}(hc:0≤aU m.aD s):∃h,vY m s=some h∧CS m s=some h:=by
  unfold vY CS IL IA uF tW
  rw [nE hs hc,C6 hs hc,aI,aI,bU,bU,tJ,dX]
  have h1:=(nU hc).1
  simp only [bD h1,aI,dJ,aL,if_false]
  by_cases q:1≤gR m.aD s∧gR m.aD s≤6
  · simp only [bD q,dJ,aL,if_false];exact⟨_,rfl,rfl⟩
  · simp only [bM q,iC,if_true];exact⟨_,rfl,rfl⟩
theorem Q8{l:List aN}{k:Nat}(hk:k < l.length)(t:List Int):(cM (l.set k ⟨l[k].aQ++t⟩)).length=(cM l).length+t.length:=by
  rw [B4 hk,yR hk];simp;omega
end Go.Gv
end
noncomputable section
namespace Go.Gv
def bt(b:List Int)(i:Nat):Int:=b.getD i 0
theorem ZT{b:List Int}{i:Nat}(h:i < b.length):b[i]=bt b i:=by
  unfold bt;rw [List.getD_eq_getElem?_getD,List.getElem?_eq_getElem h];rfl
theorem ld4{b:List Int}{a:Nat}(h:a+4≤b.length):ld b a 4=((bt b a * 256+bt b (a+1)) * 256+bt b (a+2)) * 256+bt b (a+3):=by
  unfold ld
  rw [List.drop_eq_getElem_cons (by omega),List.drop_eq_getElem_cons (by omega),List.drop_eq_getElem_cons (by omega),List.drop_eq_getElem_cons (by omega)]
  simp only [List.take_succ_cons,List.take_zero,ldF,List.foldl_cons,List.foldl_nil,ZT (b:=b) (i:=a) (by omega),ZT (b:=b) (i:=a+1) (by omega),ZT (b:=b) (i:=a+1+1) (by omega),ZT (b:=b) (i:=a+1+1+1) (by omega)]
  simp only [Nat.add_assoc,Nat.reduceAdd];omega
theorem yA{b:List Int}{i j:Nat}{v:Int}(hi:i < b.length):bt (b.set i v) j=if j=i then v else bt b j:=by
  unfold bt
  rw [List.getD_eq_getElem?_getD,List.getD_eq_getElem?_getD,List.getElem?_set]
  by_cases h:i=j
  · subst h;simp [hi]
  · have h':¬j=i:=fun q=>h q.symm
    simp [h,h']
theorem tK{b:List Int}{a:Nat}{n:Int}(h:a+4≤b.length)(j:Nat):bt (T2 b a n) j=if j=a+3 then n else if a≤j∧j < a+3 then 0 else bt b j:=by
  unfold T2
  rw [yA (by simp;omega),yA (by simp;omega),yA (by simp;omega),yA (by omega)]
  by_cases h1:j=a+3
  · simp [h1]
  · rw [if_neg h1,if_neg h1]
    by_cases h2:a≤j∧j < a+3
    · rw [if_pos h2]
      by_cases h3:j=a+2
      · simp [h3]
      · rw [if_neg h3]
        by_cases h4:j=a+1
        · simp [h4]
        · rw [if_neg h4,if_pos (by omega)]
    · rw [if_neg h2,if_neg (by omega),if_neg (by omega),if_neg (by omega)]
theorem aH1{b:List Int}{a:Nat}{n:Int}(h:a+4≤b.length):ld (T2 b a n) a 4=n:=by
  rw [ld4 (by rw [A5];exact h),tK h,tK h,tK h,tK h,if_neg (by omega),if_pos (by omega),if_neg (by omega),if_pos (by omega),if_neg (by omega),if_pos (by omega),if_pos rfl]
  omega
theorem FH{b b':List Int}{a:Nat}(h:a+4≤b.length)(hl:b'.length=b.length)(hs:∀j,a≤j→j < a+4→bt b' j=bt b j):ld b' a 4=ld b a 4:=by
  rw [ld4 (by omega),ld4 h,hs a (by omega) (by omega),hs (a+1) (by omega) (by omega),hs (a+2) (by omega) (by omega),hs (a+3) (by omega) (by omega)]
def T4(h:aD)(p:Nat):Prop:=
  if bL h p < 0 then ∀k,k < 64→bt h.Bytes (p * 64+k)=0
  else ((bt h.Bytes (p * 64)=171∧bt h.Bytes (p * 64+1)=bL h p∧bt h.Bytes (p * 64+2)=bP (bL h p))∧(∀k,3≤k→k < 8→bt h.Bytes (p * 64+k)=0)∧∀i,i < (bP (bL h p)).toNat→1≤ld h.Bytes (p * 64+8+i * (aS (bL h p)).toNat) 4∧ld h.Bytes (p * 64+8+i * (aS (bL h p)).toNat) 4≤7)
theorem aCI{h:aD}(hs:fF h){p:Nat}(hp:p < 6){k:Nat}(hk:k < 64):(dU h p).getD k 0=bt h.Bytes (p * 64+k):=by
  rw [←aCC hs hp hk,ZT (by have:=hs.1;omega)]
theorem SK{l:List Int}{x:Int}:x∈l↔∃k,k < l.length∧l.getD k 0=x:=by
  rw [List.mem_iff_getElem]
  constructor
  · rintro⟨k,hk,e⟩
    exact⟨k,hk,by rw [List.getD_eq_getElem?_getD,List.getElem?_eq_getElem hk];exact e⟩
  · rintro⟨k,hk,e⟩
    exact⟨k,hk,by rw [List.getD_eq_getElem?_getD,List.getElem?_eq_getElem hk] at e;exact e⟩
theorem GQ{h:aD}(hs:fF h){p:Nat}(hp:p < 6):lY h p↔T4 h p:=by
  unfold lY T4
  have hl:=GI hs hp
  split
  · constructor
    · intro q k hk
      rw [←aCI hs hp hk]
      exact q _ (SK.2 ⟨k,by omega,rfl⟩)
    · intro q x hx
      obtain⟨k,hk,rfl⟩:=SK.1 hx
      rw [aCI hs hp (by omega)];exact q k (by omega)
  · rw [aCI hs hp (by omega),aCI hs hp (by omega),aCI hs hp (by omega)]
    have e:(∀x∈((dU h p).drop 3).take 5,x=0)↔∀k,3≤k→k < 8→bt h.Bytes (p * 64+k)=0:=by
      have g:∀j,j < 5→(((dU h p).drop 3).take 5).getD j 0=bt h.Bytes (p * 64+(3+j)):=fun j hj=>by
        rw [←aCI hs hp (by omega),List.getD_eq_getElem?_getD,List.getD_eq_getElem?_getD,List.getElem?_take,if_pos hj,List.getElem?_drop]
      constructor
      · intro q k h3 h8
        have:=q _ (SK.2 ⟨k - 3,by simp [hl];omega,rfl⟩)
        rw [g _ (by omega)] at this
        rw [show 3+(k - 3)=k by omega] at this;exact this
      · intro q x hx
        obtain⟨k,hk,rfl⟩:=SK.1 hx
        simp [hl] at hk
        rw [g _ hk];exact q _ (by omega) (by omega)
    rw [e];rfl
theorem T4.same{h h':aD}{p:Nat}(hp:p < 6)(hs:fF h)(hl:h'.Bytes.length=h.Bytes.length)(hc:bL h' p=bL h p)(hb:∀k,k < 64→bt h'.Bytes (p * 64+k)=bt h.Bytes (p * 64+k))(q:T4 h p):T4 h' p:=by
  have h1:=hs.1
  unfold T4 at q ⊢
  rw [hc]
  split
  · rename_i q0;rw [if_pos q0] at q
    exact fun k hk=>by rw [hb k hk];exact q k hk
  · rename_i q0;rw [if_neg q0] at q
    obtain⟨⟨a1,a2,a3⟩,a4,a5⟩:=q
    have b0:=hb 0 (by omega);have b1:=hb 1 (by omega);have b2:=hb 2 (by omega)
    simp only [Nat.add_zero] at b0
    refine⟨⟨by rw [b0];exact a1,by rw [b1];exact a2,by rw [b2];exact a3⟩,fun k k3 k8=>by rw [hb k (by omega)];exact a4 k k3 k8,fun i hi=>?_⟩
    have hz:=rC hs hp (c:=bL h p) rfl hi
    rw [FH (b:=h.Bytes) (by omega) hl fun j j1 j2=>by
      have:=hb (j - p * 64) (by omega)
      rw [show p * 64+(j - p * 64)=j by omega] at this;exact this]
    exact a5 i hi
theorem qU{h:aD}{s:Int}(hc:0≤aU h s):∃p i,p < 6∧i < (bP (bL h p)).toNat∧s=(p:Int) * 4+i∧aU h s=bL h p∧(dW s (aU h s)).toNat=p * 64+8+i * (aS (bL h p)).toNat∧(s / 4).toNat=p:=by
  obtain⟨h1,h2,h3⟩:=nU hc
  have hle:=lI (bL h (s / 4).toNat)
  refine⟨(s / 4).toNat,(s % 4).toNat,by omega,by omega,by omega,h3,?_,rfl⟩
  rw [h3]
  unfold dW
  rw [if_pos ⟨h1,by omega⟩]
  have hst:=(Q6 (bL h (s / 4).toNat)).1
  have e:s % 4 * aS (bL h (s / 4).toNat)=(((s % 4).toNat * (aS (bL h (s / 4).toNat)).toNat:Nat):Int):=by
    rw [Int.natCast_mul,Int.toNat_of_nonneg (by omega),Int.toNat_of_nonneg hst]
  omega
theorem LJ{c:Int}{i j:Nat}(hi:i < (bP c).toNat)(hj:j < (bP c).toNat)(hn:i≠j):i * (aS c).toNat+4≤j * (aS c).toNat∨j * (aS c).toNat+4≤i * (aS c).toNat:=by
  have hc:0≤c∧c≤2:=gG.1 (by omega)
  have h12:12≤(aS c).toNat:=by rcases fE hc with rfl | rfl | rfl <;> decide
  rcases Nat.lt_or_gt_of_ne hn with q | q
  · left
    have:(i+1) * (aS c).toNat≤j * (aS c).toNat:=Nat.mul_le_mul_right _ q
    rw [Nat.add_mul] at this;omega
  · right
    have:(j+1) * (aS c).toNat≤i * (aS c).toNat:=Nat.mul_le_mul_right _ q
    rw [Nat.add_mul] at this;omega
theorem P8.aPA{h:aD}(hh:P8 h){s g:Int}(hc:0≤aU h s)(hg:1≤g∧g≤7) :
    P8 ⟨T2 h.Bytes (dW s (aU h s)).toNat g,h.Class⟩∧∀t,0≤aU h t→gR ⟨T2 h.Bytes (dW s (aU h s)).toNat g,h.Class⟩ t=if t=s then g else gR h t:=by
  obtain⟨hs,hp⟩:=hh
  have h384:=hs.1
  have hs':fF ⟨T2 h.Bytes (dW s (aU h s)).toNat g,h.Class⟩:=⟨by rw [A5];exact hs.1,hs.2.1,aFV hs.2.2.1 _ (by omega),hs.2.2.2⟩
  obtain⟨p,i,p6,hi,es,ec,eo,ep⟩:=qU hc
  have hz:=rC hs p6 rfl hi
  have h4:=lI (bL h p)
  refine⟨⟨hs',fun q hq=>?_⟩,fun t ht=>?_⟩
  · rw [GQ hs' hq]
    have hold:=(GQ hs hq).1 (hp q hq)
    by_cases e:q=p
    · subst e
      have hpos:0 < bP (bL h q):=by omega
      have hcl:¬bL h q < 0:=by have:=gG.1 hpos;omega
      unfold T4 at hold ⊢
      have hcl':bL ⟨T2 h.Bytes (dW s (aU h s)).toNat g,h.Class⟩ q=bL h q:=rfl
      rw [hcl']
      rw [if_neg hcl] at hold ⊢
      obtain⟨⟨a1,a2,a3⟩,a4,a5⟩:=hold
      have bs:∀k,k < 8→bt (T2 h.Bytes (dW s (aU h s)).toNat g) (q * 64+k)=bt h.Bytes (q * 64+k):=fun k hk=>by
        rw [tK (by omega),if_neg (by omega),if_neg (by omega)]
      have b0:=bs 0 (by omega);have b1:=bs 1 (by omega);have b2:=bs 2 (by omega)
      simp only [Nat.add_zero] at b0
      refine⟨⟨by rw [b0];exact a1,by rw [b1];exact a2,by rw [b2];exact a3⟩,fun k k3 k8=>by rw [bs k k8];exact a4 k k3 k8,fun j hj=>?_⟩
      have hzj:=rC hs p6 rfl hj
      by_cases ej:j=i
      · subst ej
        simp only [eo]
        rw [aH1 (by omega)];exact hg
      · rw [FH (b:=h.Bytes) (by omega) (by simp only [A5]) fun k k1 k2=>?_]
        · exact a5 j hj
        · simp only [eo]
          have:=LJ hi hj (fun q=>ej q.symm)
          rw [tK (by omega),if_neg (by omega),if_neg (by omega)]
    · refine T4.same hq hs (by simp only [A5]) rfl (fun k hk=>?_) hold
      rw [tK (by omega),if_neg (by omega),if_neg (by omega)]
  · have e2:aU ⟨T2 h.Bytes (dW s (aU h s)).toNat g,h.Class⟩ t=aU h t:=rfl
    unfold gR
    rw [e2]
    by_cases e:t=s
    · subst e;rw [if_pos rfl];simp only;rw [aH1 (by omega)]
    · rw [if_neg e]
      obtain⟨p',i',p6',hi',es',ec',eo',ep'⟩:=qU ht
      have hz':=rC hs p6' rfl hi'
      rw [FH (b:=h.Bytes) (by omega) (by simp only [A5]) fun k k1 k2=>?_]
      simp only
      by_cases ee:p'=p
      · subst ee
        have:=LJ hi hi' (fun q=>e (by rw [es,es',q]))
        rw [tK (by omega),if_neg (by omega),if_neg (by omega)]
      · have h4':=lI (bL h p')
        rw [tK (by omega),if_neg (by omega),if_neg (by omega)]
theorem W8{p k:Nat}{c:Int}(hp:p < 6)(hk:(k:Int) < bP c):aO8 p k c=p * 64+8+k * (aS c).toNat∧8+k * (aS c).toNat+4≤64:=by
  have hc:0≤c∧c≤2:=gG.1 (by omega)
  have h1:=aD6 (c:=c) hp hk
  have hle:=lI c
  have e:=h1.1
  unfold dW at e
  rw [if_pos (by omega)] at e
  have e1:((p:Int) * 4+k) / 4=p:=by omega
  have e2:((p:Int) * 4+k) % 4=k:=by omega
  rw [e1,e2] at e
  rcases fE hc with rfl | rfl | rfl
  · rw [show aS 0=12 from rfl] at e ⊢
    rw [show bP 0=4 from rfl] at hk
    rw [show(12:Int).toNat=12 from rfl]
    omega
  · rw [show aS 1=20 from rfl] at e ⊢
    rw [show bP 1=2 from rfl] at hk
    rw [show(20:Int).toNat=20 from rfl]
    omega
  · rw [show aS 2=44 from rfl] at e ⊢
    rw [show bP 2=1 from rfl] at hk
    rw [show(44:Int).toNat=44 from rfl]
    omega
theorem aPB{b:List Int}{p:Nat}{c:Int}(hl:b.length=384)(hp:p < 6)(hc:0≤c∧c≤2):∀k:Nat,(k:Int)≤bP c→∀j,(j < p * 64∨p * 64+64≤j→bt (gB b p c k) j=bt b j)∧(3≤j→j < 8→bt (gB b p c k) (p * 64+j)=bt b (p * 64+j))∧bt (gB b p c k) (p * 64)=171∧bt (gB b p c k) (p * 64+1)=c∧bt (gB b p c k) (p * 64+2)=bP c
  | 0, hk, j => by
    have key:∀i,bt (gB b p c 0) i=if i=p * 64+2 then bP c else if i=p * 64+1 then c else if i=p * 64 then 171 else bt b i:=fun i=>by
      unfold gB
      rw [yA (by simp;omega),yA (by simp;omega),yA (by omega)]
    refine⟨fun h=>?_,fun h1 h2=>?_,?_,?_,?_⟩
    · rw [key,if_neg (by omega),if_neg (by omega),if_neg (by omega)]
    · rw [key,if_neg (by omega),if_neg (by omega),if_neg (by omega)]
    · rw [key,if_neg (by omega),if_neg (by omega),if_pos rfl]
    · rw [key,if_neg (by omega),if_pos rfl]
    · rw [key,if_pos rfl]
  | k + 1, hk, j => by
    have ih:=aPB hl hp hc k (by omega)
    have hoff:=W8 (c:=c) hp (by omega:(k:Int) < bP c)
    have hbl:=GO b p c k
    unfold gB
    refine⟨fun h=>?_,fun h1 h2=>?_,?_,?_,?_⟩
    · rw [tK (by omega),if_neg (by omega),if_neg (by omega)];exact(ih j).1 h
    · rw [tK (by omega),if_neg (by omega),if_neg (by omega)];exact(ih j).2.1 h1 h2
    · rw [tK (by omega),if_neg (by omega),if_neg (by omega)];exact(ih j).2.2.1
    · rw [tK (by omega),if_neg (by omega),if_neg (by omega)];exact(ih j).2.2.2.1
    · rw [tK (by omega),if_neg (by omega),if_neg (by omega)];exact(ih j).2.2.2.2
theorem aPC{b:List Int}{p:Nat}{c:Int}(hl:b.length=384)(hp:p < 6):∀k:Nat,(k:Int)≤bP c→∀i,i < k→ld (gB b p c k) (p * 64+8+i * (aS c).toNat) 4=1
  | 0,_,i,h=>absurd h (by omega)
  | k + 1, hk, i, h => by
    have hbl:=GO b p c k
    have ho:=W8 (c:=c) hp (by omega:(k:Int) < bP c)
    unfold gB
    by_cases e:i=k
    · subst e;rw [←ho.1];exact aH1 (by omega)
    · have hoi:=W8 (c:=c) hp (by omega:(i:Int) < bP c)
      have ha:=LJ (c:=c) (i:=i) (j:=k) (by omega) (by omega) e
      rw [FH (b:=gB b p c k) (by omega) (by rw [A5]) fun j j1 j2=>by rw [tK (by omega),if_neg (by omega),if_neg (by omega)]]
      exact aPC hl hp k (by omega) i (by omega)
theorem OK{h:aD}(hs:fF h){B:List Int}{p q:Nat}(hq:q < 6){c:Int}:bL ⟨B,h.Class.set p c⟩ q=if q=p then c else bL h q:=by
  have h6:=hs.2.1
  unfold bL
  rw [List.getD_eq_getElem?_getD,List.getD_eq_getElem?_getD,List.getElem?_set]
  by_cases e:p=q
  · subst e;simp [h6,hq]
  · have e':¬q=p:=fun z=>e z.symm
    simp [e,e']
theorem P8.aT1{h:aD}(hh:P8 h){p:Nat}(hp:p < 6)(hun:bL h p < 0){c:Int}(hc:0≤c∧c≤2) :
    P8 ⟨gB h.Bytes p c (bP c).toNat,h.Class.set p c⟩∧(∀t,(t / 4).toNat≠p→aU ⟨gB h.Bytes p c (bP c).toNat,h.Class.set p c⟩ t=aU h t)∧(∀t,0≤aU h t→(t / 4).toNat≠p∧gR ⟨gB h.Bytes p c (bP c).toNat,h.Class.set p c⟩ t=gR h t) ∧
      ∀i,i < (bP c).toNat→aU ⟨gB h.Bytes p c (bP c).toNat,h.Class.set p c⟩ ((p:Int) * 4+i)=c∧gR ⟨gB h.Bytes p c (bP c).toNat,h.Class.set p c⟩ ((p:Int) * 4+i)=1:=by
  obtain⟨hs,hpg⟩:=hh
  have h384:=hs.1
  have hle:=lI c
  have hpn:((bP c).toNat:Int)≤bP c:=by omega
  have hb:=aPB h384 hp hc (bP c).toNat hpn
  have hbl:=GO h.Bytes p c (bP c).toNat
  have hs':fF ⟨gB h.Bytes p c (bP c).toNat,h.Class.set p c⟩:=⟨by simp only [hbl];exact h384,by simp only [List.length_set];exact hs.2.1,aD5 hs.2.2.1 p hc _,fun x hx=>by
    rcases List.mem_or_eq_of_mem_set hx with q | rfl
    · exact hs.2.2.2 x q
    · omega⟩
  have hcls:∀t:Int,(t / 4).toNat≠p→aU ⟨gB h.Bytes p c (bP c).toNat,h.Class.set p c⟩ t=aU h t:=fun t ht=>by
    unfold aU
    by_cases q:0≤t∧t≤23
    · rw [OK hs (by omega),if_neg ht]
    · rw [if_neg (fun z=>q z.1),if_neg (fun z=>q z.1)]
  refine⟨⟨hs',fun q hq=>?_⟩,hcls,fun t ht=>?_,fun i hi=>?_⟩
  · rw [GQ hs' hq]
    have hold:=(GQ hs hq).1 (hpg q hq)
    by_cases e:q=p
    · subst e
      unfold T4 at hold ⊢
      rw [if_pos hun] at hold
      rw [OK hs hq,if_pos rfl,if_neg (by omega)]
      refine⟨(hb 0).2.2,fun k k3 k8=>?_,fun i hi=>?_⟩
      · simp only;rw [(hb k).2.1 k3 k8];exact hold k (by omega)
      · simp only;rw [aPC h384 hp _ hpn i hi];omega
    · refine T4.same hq hs (by simp only [hbl]) (by rw [OK hs hq,if_neg e]) (fun k hk=>?_) hold
      exact(hb _).1 (by omega)
  · obtain⟨p',i',p6',hi',es',ec',eo',ep'⟩:=qU ht
    have hne:(t / 4).toNat≠p:=fun z=>by rw [ec',←ep',z] at ht;omega
    refine⟨hne,?_⟩
    have hz':=rC hs p6' rfl hi'
    unfold gR
    rw [hcls t hne,FH (b:=h.Bytes) (by omega) (by simp only [hbl]) fun k k1 k2=>(hb k).1 (by omega)]
  · have e1:((p:Int) * 4+i) / 4=p:=by omega
    have e2:((p:Int) * 4+i) % 4=i:=by omega
    have ec:aU ⟨gB h.Bytes p c (bP c).toNat,h.Class.set p c⟩ ((p:Int) * 4+i)=c:=by
      unfold aU
      rw [e1,e2,Int.toNat_natCast,OK hs hp,if_pos rfl,if_pos (by omega)]
    refine⟨ec,?_⟩
    unfold gR
    rw [ec]
    have ho:=W8 (c:=c) hp (by omega:(i:Int) < bP c)
    have:(dW ((p:Int) * 4+i) c).toNat=p * 64+8+i * (aS c).toNat:=ho.1
    rw [this]
    exact aPC h384 hp _ hpn i hi
def uT(m m':Mem)(k:Int):Prop:=mD m'∧∀s,d6 m s=3→s≠k→d6 m' s=3∧gR m'.aD s=gR m.aD s∧aU m'.aD s=aU m.aD s
theorem uT.refl{m:Mem}(h:mD m)(k:Int):uT m m k:=⟨h,fun _ h _=>⟨h,rfl,rfl⟩⟩
theorem uT.live{m m':Mem}{k h:Int}(q:uT m m' k)(hl:gY m h)(hn:h % 32≠k):gY m' h:=by
  obtain⟨h1,h2,h3⟩:=hl
  obtain⟨a,b,_⟩:=q.2 _ h2 hn
  exact⟨h1,a,by rw [b];exact h3⟩
theorem HW{l:List aN}{k j:Nat}(hk:k < l.length){t:aN}:dF (l.set k t) j=if j=k then t.aQ else dF l j:=by
  unfold dF
  rw [List.getD_eq_getElem?_getD,List.getD_eq_getElem?_getD,List.getElem?_set]
  by_cases e:k=j
  · subst e;simp [hk]
  · have e':¬j=k:=fun z=>e z.symm
    simp [e,e']
theorem aCJ{l:List aN}{k:Nat}(hk:k < l.length){t:aN}(ht:t.aQ.Sublist l[k].aQ):(cM (l.set k t)).Sublist (cM l):=by
  rw [B4 hk,yR hk]
  exact(List.Sublist.refl _).append (ht.append (List.Sublist.refl _))
theorem A6{l:List aN}{k:Nat}(hk:k < l.length){xs:List Int}{s:Int}:s∈cM (l.set k ⟨l[k].aQ++xs⟩)↔s∈cM l∨s∈xs:=by
  rw [B4 hk,yR hk]
  simp only [List.mem_append]
  constructor
  · rintro(h | (h | h) | h)
    · exact .inl (.inl h)
    · exact .inl (.inr (.inl h))
    · exact .inr h
    · exact .inl (.inr (.inr h))
  · rintro((h | h | h) | h)
    · exact .inl h
    · exact .inr (.inl (.inl h))
    · exact .inr (.inr h)
    · exact .inr (.inl (.inr h))
theorem OL{l:List aN}{k:Nat}(hk:k < l.length){xs r q:List Int}(h:(q++(cM l++r)).Nodup)(hx:xs.Nodup)(hd:∀x∈xs,x∉q++(cM l++r)):(q++(cM (l.set k ⟨l[k].aQ++xs⟩)++r)).Nodup:=by
  have hp:(q++(cM (l.set k ⟨l[k].aQ++xs⟩)++r)).Perm (xs++(q++(cM l++r))):=by
    rw [B4 hk,yR hk]
    have e1:q++(cM (l.take k)++(l[k].aQ++xs++cM (l.drop (k+1)))++r)=(q++cM (l.take k)++l[k].aQ)++(xs++(cM (l.drop (k+1))++r)):=by simp
    have e2:xs++(q++(cM (l.take k)++(l[k].aQ++cM (l.drop (k+1)))++r))=xs++((q++cM (l.take k)++l[k].aQ)++(cM (l.drop (k+1))++r)):=by simp
    rw [e1,e2]
    exact List.perm_append_comm_assoc _ _ _
  rw [hp.nodup_iff,List.nodup_append]
  exact⟨hx,h,fun a ha b hb e=>hd a ha (e ▸ hb)⟩
theorem SL{m m':Mem}{s:Int}(h1:aU m'.aD s=aU m.aD s)(h2:gR m'.aD s=gR m.aD s)(h3:s∈cX m'.aB↔s∈cX m.aB):d6 m' s=d6 m s:=by
  unfold d6
  rw [h1,h2]
  by_cases q:s∈cX m.aB
  · rw [if_pos q,if_pos (h3.2 q)]
  · rw [if_neg q,if_neg (fun z=>q (h3.1 z))]
theorem fZ{m:Mem}{s:Int}:d6 m s=3↔0≤aU m.aD s∧s∉cX m.aB∧gR m.aD s≤6:=by
  unfold d6
  constructor
  · intro h
    split at h
    · omega
    · split at h
      · omega
      · split at h
        · omega
        · exact⟨by omega,by assumption,by omega⟩
  · rintro⟨a,b,c⟩
    rw [if_neg (by omega),if_neg b,if_neg (by omega)]
noncomputable section
variable {m:Mem} (hm:mD m)
include hm
theorem mD.aVQ{k:Nat}(hk:k < 9){t:aN}(ht:t.aQ.Sublist (dF m.aB.Own k)):uT m ⟨m.aD,⟨m.aB.Global,m.aB.Own.set k t⟩⟩ (-1):=by
  obtain⟨⟨hh,h3,h9,h2,hr,hn⟩,hg,ho⟩:=hm
  have hk':k < m.aB.Own.length:=by omega
  have ht':t.aQ.Sublist m.aB.Own[k].aQ:=by rw [cY hk'];exact ht
  have hsub:(cX ⟨m.aB.Global,m.aB.Own.set k t⟩).Sublist (cX m.aB):=(List.Sublist.refl _).append (aCJ hk' ht')
  refine⟨⟨⟨hh,h3,by simpa using h9,fun s hs=>?_,fun x hx=>hr x (hsub.subset hx),hsub.nodup hn⟩,hg,fun j hj=>?_⟩,fun s hs _=>⟨?_,rfl,rfl⟩⟩
  · rcases List.mem_or_eq_of_mem_set hs with q | rfl
    · exact h2 s q
    · have:=ht'.length_le;have:=h2 _ (List.getElem_mem hk');omega
  · unfold A4
    simp only [HW hk']
    split
    · rename_i e;subst e
      exact fun x hx=>ho j hj x (ht.subset hx)
    · exact ho j hj
  · rw [fZ] at hs ⊢
    exact⟨hs.1,fun q=>hs.2.1 (hsub.subset q),hs.2.2⟩
theorem mD.aLB{k:Nat}(hk:k < 3){t:aN}(ht:t.aQ.Sublist (dF m.aB.Global k)):uT m ⟨m.aD,⟨m.aB.Global.set k t,m.aB.Own⟩⟩ (-1):=by
  obtain⟨⟨hh,h3,h9,h2,hr,hn⟩,hg,ho⟩:=hm
  have hk':k < m.aB.Global.length:=by omega
  have ht':t.aQ.Sublist m.aB.Global[k].aQ:=by rw [cY hk'];exact ht
  have hsub:(cX ⟨m.aB.Global.set k t,m.aB.Own⟩).Sublist (cX m.aB):=(aCJ hk' ht').append (List.Sublist.refl _)
  refine⟨⟨⟨hh,by simpa using h3,h9,h2,fun x hx=>hr x (hsub.subset hx),hsub.nodup hn⟩,fun j hj=>?_,ho⟩,fun s hs _=>⟨?_,rfl,rfl⟩⟩
  · unfold G0
    simp only [HW hk']
    split
    · rename_i e;subst e
      exact fun x hx=>hg j hj x (ht.subset hx)
    · exact hg j hj
  · rw [fZ] at hs ⊢
    exact⟨hs.1,fun q=>hs.2.1 (hsub.subset q),hs.2.2⟩
theorem mD.aSH{k:Nat}(hk:k < 9){xs:List Int}(hl:(dF m.aB.Own k).length+xs.length≤2)(hx:xs.Nodup)(hf:A3 m.aD xs ((k % 3:Nat):Int))(hd:∀x∈xs,x∉cX m.aB)(hk':k < m.aB.Own.length) :
    mD ⟨m.aD,⟨m.aB.Global,m.aB.Own.set k ⟨m.aB.Own[k].aQ++xs⟩⟩⟩∧∀s,s∉xs→d6 m s=3→d6 ⟨m.aD,⟨m.aB.Global,m.aB.Own.set k ⟨m.aB.Own[k].aQ++xs⟩⟩⟩ s=3:=by
  obtain⟨⟨hh,h3,h9,h2,hr,hn⟩,hg,ho⟩:=hm
  have hmem:∀s,s∈cX ⟨m.aB.Global,m.aB.Own.set k ⟨m.aB.Own[k].aQ++xs⟩⟩↔s∈cX m.aB∨s∈xs:=fun s=>by
    unfold cX;simp only [List.mem_append,A6 hk'];rw [or_assoc]
  have hcl:∀x∈xs,0≤x∧x≤23:=fun x h=>by
    have:=(hf x h).1
    exact(nU (h:=m.aD) (s:=x) (by omega)).1
  refine⟨⟨⟨hh,h3,by simpa using h9,fun s hs=>?_,fun x hx=>?_,?_⟩,hg,fun j hj=>?_⟩,fun s hs h3=>?_⟩
  · rcases List.mem_or_eq_of_mem_set hs with q | rfl
    · exact h2 s q
    · rw [←cY hk'] at hl;simpa using hl
  · rcases(hmem x).1 hx with q | q
    · exact hr x q
    · exact hcl x q
  · have:=OL (q:=cM m.aB.Global) (r:=[]) hk' (by simpa [cX] using hn) hx (by simpa [cX] using hd)
    simpa [cX] using this
  · unfold A4
    simp only [HW hk']
    split
    · rename_i e;subst e
      intro x hx
      rcases List.mem_append.1 hx with q | q
      · rw [cY hk'] at q;exact ho j hj x q
      · exact hf x q
    · exact ho j hj
  · rw [fZ] at h3 ⊢
    exact⟨h3.1,fun q=>(((hmem s).1 q).elim h3.2.1 hs),h3.2.2⟩
theorem mD.ZU{k:Nat}(hk:k < 3){xs:List Int}(hx:xs.Nodup)(hf:A3 m.aD xs (k:Int))(hd:∀x∈xs,x∉cX m.aB)(hk':k < m.aB.Global.length) :
    mD ⟨m.aD,⟨m.aB.Global.set k ⟨m.aB.Global[k].aQ++xs⟩,m.aB.Own⟩⟩∧∀s,s∉xs→d6 m s=3→d6 ⟨m.aD,⟨m.aB.Global.set k ⟨m.aB.Global[k].aQ++xs⟩,m.aB.Own⟩⟩ s=3:=by
  obtain⟨⟨hh,h3,h9,h2,hr,hn⟩,hg,ho⟩:=hm
  have hmem:∀s,s∈cX ⟨m.aB.Global.set k ⟨m.aB.Global[k].aQ++xs⟩,m.aB.Own⟩↔s∈cX m.aB∨s∈xs:=fun s=>by
    unfold cX;simp only [List.mem_append,A6 hk'];rw [or_right_comm]
  have hcl:∀x∈xs,0≤x∧x≤23:=fun x h=>by
    have:=(hf x h).1
    exact(nU (h:=m.aD) (s:=x) (by omega)).1
  refine⟨⟨⟨hh,by simpa using h3,h9,h2,fun x hx=>?_,?_⟩,fun j hj=>?_,ho⟩,fun s hs h3=>?_⟩
  · rcases(hmem x).1 hx with q | q
    · exact hr x q
    · exact hcl x q
  · have:=OL (q:=[]) (r:=cM m.aB.Own) hk' (by simpa [cX] using hn) hx (by simpa [cX] using hd)
    simpa [cX] using this
  · unfold G0
    simp only [HW hk']
    split
    · rename_i e;subst e
      intro x hx
      rcases List.mem_append.1 hx with q | q
      · rw [cY hk'] at q;exact hg j hj x q
      · exact hf x q
    · exact hg j hj
  · rw [fZ] at h3 ⊢
    exact⟨h3.1,fun q=>(((hmem s).1 q).elim h3.2.1 hs),h3.2.2⟩
theorem mD.nF{x:Int}(hx:x∈cX m.aB):0≤aU m.aD x∧gR m.aD x≤6:=by
  obtain⟨⟨hh,h3,h9,h2,hr,hn⟩,hg,ho⟩:=hm
  have key:∀(l:List aN),x∈cM l→∃k,k < l.length∧x∈dF l k:=fun l h=>by
    obtain⟨s,h1,h2⟩:=PD.1 h
    obtain⟨k,hk,rfl⟩:=List.mem_iff_getElem.1 h1
    exact⟨k,hk,by rw [←cY hk];exact h2⟩
  rcases List.mem_append.1 hx with q | q
  · obtain⟨k,hk,h⟩:=key _ q
    have:=hg k (by omega) x h
    exact⟨by omega,this.2⟩
  · obtain⟨k,hk,h⟩:=key _ q
    have:=ho k (by omega) x h
    exact⟨by omega,this.2⟩
theorem mD.heap{h':aD}(hh:P8 h')(hs:∀x∈cX m.aB,aU h' x=aU m.aD x∧gR h' x=gR m.aD x):mD ⟨h',m.aB⟩:=by
  obtain⟨⟨_,hl⟩,hg,ho⟩:=hm
  have key:∀(l:List aN) k x,x∈dF l k→x∈cM l:=fun l k x h=>by
    unfold dF at h
    rw [List.getD_eq_getElem?_getD] at h
    cases hk:l[k]? with
    | none=>rw [hk] at h;simp at h
    | some s=>rw [hk] at h;exact PD.2 ⟨s,List.mem_of_getElem? hk,h⟩
  refine⟨⟨hh,hl⟩,fun k hk x hx=>?_,fun k hk x hx=>?_⟩
  · obtain⟨a,b⟩:=hs x (List.mem_append_left _ (key _ k x hx))
    show aU h' x=_∧gR h' x≤6
    rw [a,b];exact hg k hk x hx
  · obtain⟨a,b⟩:=hs x (List.mem_append_right _ (key _ k x hx))
    show aU h' x=_∧gR h' x≤6
    rw [a,b];exact ho k hk x hx
theorem mD.aY8{s g:Int}(hu:d6 m s=3)(hg:1≤g∧g≤7):uT m ⟨⟨T2 m.aD.Bytes (dW s (aU m.aD s)).toNat g,m.aD.Class⟩,m.aB⟩ s∧gR ⟨T2 m.aD.Bytes (dW s (aU m.aD s)).toNat g,m.aD.Class⟩ s=g:=by
  have hu':=fZ.1 hu
  obtain⟨a,b⟩:=P8.aPA hm.1.1 hu'.1 hg
  refine⟨⟨mD.heap hm a fun x hx=>⟨rfl,?_⟩,fun t ht hn=>?_⟩,by rw [b s hu'.1,if_pos rfl]⟩
  · rw [b x (mD.nF hm hx).1,if_neg (show ¬x=s from fun e=>hu'.2.1 (e ▸ hx))]
  · have ht':=fZ.1 ht
    have e:gR ⟨T2 m.aD.Bytes (dW s (aU m.aD s)).toNat g,m.aD.Class⟩ t=gR m.aD t:=by rw [b t ht'.1,if_neg hn]
    exact⟨fZ.2 ⟨ht'.1,ht'.2.1,by simp only [e];exact ht'.2.2⟩,e,rfl⟩
theorem mD.aXR{p:Nat}(hp:p < 6)(hun:bL m.aD p < 0){c:Int}(hc:0≤c∧c≤2){xs:List Int}(hxs:∀x∈xs,∃i,i < (bP c).toNat∧x=(p:Int) * 4+(i:Nat))(hx:xs.Nodup)(hk':c.toNat < m.aB.Global.length) :
    uT m ⟨⟨gB m.aD.Bytes p c (bP c).toNat,m.aD.Class.set p c⟩,⟨m.aB.Global.set c.toNat ⟨m.aB.Global[c.toNat].aQ++xs⟩,m.aB.Own⟩⟩ (-1):=by
  obtain⟨a,b,d,e⟩:=P8.aT1 hm.1.1 hp hun hc
  have h1:mD ⟨⟨gB m.aD.Bytes p c (bP c).toNat,m.aD.Class.set p c⟩,m.aB⟩:=mD.heap hm a fun x hx=>by
    obtain⟨q,r⟩:=d x (mD.nF hm hx).1
    exact⟨b x q,r⟩
  have hno:∀x∈xs,¬0≤aU m.aD x:=fun x h q=>by
    obtain⟨i,hi,rfl⟩:=hxs x h
    have h4:=lI c
    exact(d _ q).1 (by omega)
  obtain⟨f,g⟩:=mD.ZU h1 (k:=c.toNat) (by omega) hx (fun x h=>by
    obtain⟨i,hi,rfl⟩:=hxs x h
    have:=e i hi
    exact⟨by simp only [this.1];omega,by simp only [this.2];omega⟩) (fun x h q=>hno x h (mD.nF hm q).1) hk'
  refine⟨f,fun s hs _=>?_⟩
  have hs':=fZ.1 hs
  obtain⟨q,r⟩:=d s hs'.1
  have h2:d6 ⟨⟨gB m.aD.Bytes p c (bP c).toNat,m.aD.Class.set p c⟩,m.aB⟩ s=3:=fZ.2 ⟨by simp only [b s q];exact hs'.1,hs'.2.1,by simp only [r];exact hs'.2.2⟩
  exact⟨g s (fun h=>hno s h hs'.1) h2,r,b s q⟩
end
end Go.Gv
end
noncomputable section
namespace Go.Gv
theorem aPD{p n:Nat}{x:Int}(h:x∈gS p n):∃i,i < n∧x=(p:Int) * 4+(i:Nat):=by
  simp only [gS,List.mem_map,List.mem_range] at h
  obtain⟨i,h1,h2⟩:=h
  exact⟨i,h1,h2.symm⟩
theorem aFW(p n:Nat):(gS p n).Nodup:=by
  unfold gS
  rw [List.Nodup,List.pairwise_map]
  exact List.Pairwise.imp (fun h e=>h (by omega)) (List.nodup_range (n:=n))
theorem aFX{m:Mem}(hm:mD m){c:Int}(hc:0≤c∧c≤2) :
    ∃m' s,AL m c=some (m',s)∧E1 m c=some (m',s)∧uZ m'∧(0≤s→fF m'.aD∧0≤aU m'.aD s)∧uT m m' (-1):=by
  have hl:=hm.1.2
  have hcnt:=hl.count
  have hs:=hm.1.1.1
  have hsl:=hl.UM (by omega)
  have hp4:=lI c
  have hpp:0 < bP c:=gG.2 hc
  have hall:=oX m.aB
  have hsG:∀s∈m.aB.Global,s.aQ.length≤24:=fun s h=>by have:=DT h;omega
  have hsO:∀s∈m.aB.Own,s.aQ.length≤24:=fun s h=>by have:=DT h;omega
  have h3:=hl.1
  have h9:=hl.2.1
  have hcpl:=IX (l:=m.aB) (by omega) (by omega) (fun s h=>by have:=hsG s h;omega) (fun s h=>by have:=hsO s h;omega)
  unfold AL E1
  rcases aO9 hm.1.1 hc with ⟨e1,e2⟩ | ⟨p,hp,hun,e1,e2⟩
  · rw [e1,e2,hcpl]
    have h1:=hs.1;have h2:=hs.2.1
    exact⟨_,_,rfl,rfl,⟨by simp only;omega,by simp only;omega,by simp only;omega,by simp only;omega,by simp only;omega⟩,fun h=>absurd h (by omega),uT.refl hm _⟩
  · rw [e1,e2,hcpl]
    simp only [aI,D3,D2,D9,GP]
    have hn:(((bP c).toNat:Int) == 0)=false:=by simpa using (by omega:¬((bP c).toNat:Int)=0)
    have hk:c.toNat < m.aB.Global.length:=by omega
    have hg0:=hsG _ (List.getElem_mem hk)
    have hx:idx m.aB.Global c=some m.aB.Global[c.toNat]:=fD hc.1 (by omega)
    have hz:idx (gS p (bP c).toNat) 0=some ((p:Int) * 4):=by
      have:=aW (l:=gS p (bP c).toNat) (k:=0) (by rw [GP];omega)
      rw [show((0:Nat):Int)=0 from rfl] at this
      rw [this];simp [gS]
    have hlen:(List.drop (1:Int).toNat (List.take (bP c).toNat (gS p (bP c).toNat))).length≤4:=by simp [GP];omega
    simp only [hn,aL,if_false,hx,aI,hz]
    rw [aR (by omega),aR (by omega)]
    have hcl:bL ⟨gB m.aD.Bytes p c (bP c).toNat,m.aD.Class.set p c⟩ p=c:=by
      have h6:=hs.2.1
      unfold bL;simp [List.getD_eq_getElem?_getD,List.getElem?_set,h6,hp]
    refine⟨_,_,rfl,rfl,⟨by simp only [GO];have:=hs.1;omega,by simp only [List.length_set];have:=hs.2.1;omega,by simp only [List.length_set];omega,by simp only;omega,?_⟩,fun _=>⟨⟨by simp only [GO];exact hs.1,by simp only [List.length_set];exact hs.2.1,aD5 hs.2.2.1 p hc _,fun x hx=>?_⟩,?_⟩,?_⟩
    · rw [oX];simp only [Q8 hk];omega
    · rcases List.mem_or_eq_of_mem_set hx with h | rfl
      · exact hs.2.2.2 x h
      · omega
    · unfold aU
      have e4:((p:Int) * 4 / 4).toNat=p:=by omega
      rw [e4]
      simp only [hcl]
      rw [if_pos ⟨by omega,by omega⟩];exact hc.1
    · exact mD.aXR hm hp hun hc (fun x hx=>aPD (List.mem_of_mem_take (List.mem_of_mem_drop hx))) ((aFW p _).sublist ((List.drop_sublist _ _).trans (List.take_sublist _ _))) hk
theorem aH2(n:Int):∃c,AK n=some c∧EZ n=some c∧(c = -1∨(0≤c∧c≤2)):=by
  have s1:∀k,0≤k∧k≤2→eU n k=some (if 1≤n∧n≤fY k then .stop (Out.ret k) else .next (k+1)):=fun k hk=>by
    simp only [eU]
    rw [if_pos (by simp;omega),oW,aI,bU,aI,aP (by omega) (by omega)]
    by_cases q:1≤n∧n≤fY k
    · rw [bD q,if_pos rfl,if_pos q]
    · rw [bM q,if_neg (by simp),if_neg q]
  have s2:∀k,0≤k∧k≤2→i5 n k=some (if 1≤n∧n≤fY k then .stop (Out.ret k) else .next (k+1)):=fun k hk=>by
    simp only [i5,wS]
    rw [if_pos (by simp;omega),N9,aI,aP (by omega) (by omega)]
    by_cases q1:1≤n
    · by_cases q2:n≤fY k <;> simp [q1,q2]
    · simp [q1]
  have st:∀k,0≤k∧k≤2→1≤n∧n≤fY k→loop (eU n) k=some (Out.ret k)∧loop (i5 n) k=some (Out.ret k):=fun k hk h=>
    ⟨bV (by rw [s1 k hk,if_pos h]),bV (by rw [s2 k hk,if_pos h])⟩
  have nx:∀k,0≤k∧k≤2→¬(1≤n∧n≤fY k)→loop (eU n) k=loop (eU n) (k+1)∧loop (i5 n) k=loop (i5 n) (k+1):=fun k hk h=>
    ⟨b8 (by rw [s1 k hk,if_neg h]),b8 (by rw [s2 k hk,if_neg h])⟩
  unfold AK EZ
  by_cases q0:1≤n∧n≤fY 0
  · have:=st 0 (by omega) q0
    rw [this.1,this.2];exact⟨_,rfl,rfl,.inr (by omega)⟩
  · have h0:=nx 0 (by omega) q0
    rw [h0.1,h0.2,show(0:Int)+1=1 from rfl]
    by_cases q1:1≤n∧n≤fY 1
    · have:=st 1 (by omega) q1
      rw [this.1,this.2];exact⟨_,rfl,rfl,.inr (by omega)⟩
    · have h1:=nx 1 (by omega) q1
      rw [h1.1,h1.2,show(1:Int)+1=2 from rfl]
      by_cases q2:1≤n∧n≤fY 2
      · have:=st 2 (by omega) q2
        rw [this.1,this.2];exact⟨_,rfl,rfl,.inr (by omega)⟩
      · have h2:=nx 2 (by omega) q2
        rw [h2.1,h2.2,show(2:Int)+1=3 from rfl,bV (body:=eU n) (r:=Out.brk ()) (by simp [eU]),bV (body:=i5 n) (r:=Out.brk ()) (by simp [i5])]
        exact⟨_,rfl,rfl,.inl rfl⟩
theorem aPE{s:aN}(hl:s.aQ.length≤1048576):∃t x,pY s=some (t,x)∧sN s=some (x,t)∧t.aQ.length≤s.aQ.length∧(0≤x→x∈s.aQ)∧t.aQ.Sublist s.aQ:=by
  unfold pY sN IK
  rw [aP (by omega) (by omega)]
  by_cases q:s.aQ.length=0
  · rw [if_pos (by simpa using q),if_pos (by simp;omega)]
    exact⟨_,_,rfl,rfl,Nat.le_refl _,fun h=>absurd h (by omega),List.Sublist.refl _⟩
  · have hx:idx s.aQ ((s.aQ.length:Int) - 1)=some (s.aQ[s.aQ.length - 1]'(by omega)):=by
      rw [show((s.aQ.length:Int) - 1)=((s.aQ.length - 1:Nat):Int) by omega,aW (by omega)]
    rw [if_neg (by simpa using q),if_neg (by simp;omega),aR (by omega),hx]
    simp only [aI]
    rw [aR (by omega)]
    exact⟨_,_,rfl,rfl,by simp,fun _=>List.getElem_mem _,(List.drop_sublist _ _).trans (List.take_sublist _ _)⟩
theorem J7{w c:Int}(hw:0≤w∧w≤2)(hc:0≤c∧c≤2):xY w c=some (w * 3+c)∧FY w c=some (w * 3+c):=by
  have e:bC (bC (w * 3)+c)=w * 3+c:=by rw [aP (x:=w * 3) (by omega) (by omega),aP (by omega) (by omega)]
  constructor
  · unfold xY C0;rw [bU,bU,bD hw,bD hc,e];rfl
  · unfold FY CP;rw [j5,i6,bD hw,bD hc,e];rfl
theorem ZV{l:List aN}{k:Nat}(hk:k < l.length){t:aN}(ht:t.aQ.length≤l[k].aQ.length):(cM (l.set k t)).length≤(cM l).length:=by
  rw [B4 hk,yR hk];simp;omega
noncomputable section
variable {m:Mem} (hm:mD m)
include hm
theorem mD.facts:(cX m.aB).length≤24∧m.aB.Global.length=3∧m.aB.Own.length=9∧m.aD.Bytes.length=384∧m.aD.Class.length=6∧uZ m∧g8 m.aB=some m.aB∧jP m.aB=some true ∧
    (∀s∈m.aB.Global,s.aQ.length≤24)∧(∀s∈m.aB.Own,s.aQ.length≤24):=by
  have hl:=hm.1.2
  have hcnt:=hl.count
  have hall:=oX m.aB
  have hsG:∀s∈m.aB.Global,s.aQ.length≤24:=fun s h=>by have:=DT h;omega
  have hsO:∀s∈m.aB.Own,s.aQ.length≤24:=fun s h=>by have:=DT h;omega
  have h3:=hl.1;have h9:=hl.2.1
  have h1:=hm.1.1.1.1;have h2:=hm.1.1.1.2.1
  refine⟨hcnt,h3,h9,h1,h2,⟨by omega,by omega,by omega,by omega,by omega⟩,IX (by omega) (by omega) (fun s h=>by have:=hsG s h;omega) (fun s h=>by have:=hsO s h;omega),by rw [MK (by omega),bD hl],hsG,hsO⟩
theorem ZW{w c:Int}(hw:0≤w∧w≤2)(hc:0≤c∧c≤2) :
    ∃l t x,idx m.aB.Own (w * 3+c)=some l∧pY l=some (t,x)∧E0 m.aB w c=some (⟨m.aB.Global,m.aB.Own.set (w * 3+c).toNat t⟩,x) ∧
      uZ ⟨m.aD,⟨m.aB.Global,m.aB.Own.set (w * 3+c).toNat t⟩⟩∧(0≤x→0≤aU m.aD x)∧uT m ⟨m.aD,⟨m.aB.Global,m.aB.Own.set (w * 3+c).toNat t⟩⟩ (-1):=by
  obtain⟨hcnt,h3,h9,h1,h2,hsm,hcp,hlo,hsG,hsO⟩:=mD.facts hm
  have hk:(w * 3+c).toNat < m.aB.Own.length:=by omega
  have hx:idx m.aB.Own (w * 3+c)=some m.aB.Own[(w * 3+c).toNat]:=fD (by omega) (by omega)
  have h24:=hsO _ (List.getElem_mem hk)
  obtain⟨t,x,e1,e2,ht,hmem,hsub⟩:=aPE (s:=m.aB.Own[(w * 3+c).toNat]) (by omega)
  have hall:=oX m.aB
  refine⟨_,t,x,hx,e1,?_,⟨by simp only;omega,by simp only;omega,by simp only;omega,by simp only [List.length_set];omega,?_⟩,fun h0=>?_,mD.aVQ hm (by omega) (by rw [←cY hk];exact hsub)⟩
  · unfold E0 wT
    rw [hcp,(J7 hw hc).2,hlo]
    simp only [aI,dJ,aL,if_false]
    rw [bM (by omega),if_neg (by simp),hx,aI,e2];rfl
  · have:=ZV hk ht
    rw [oX];simp only;omega
  · have:=hm.2.2 (w * 3+c).toNat (by omega) x (by rw [←cY hk];exact hmem h0)
    omega
theorem QG{c:Int}(hc:0≤c∧c≤2) :
    ∃l t x,idx m.aB.Global c=some l∧pY l=some (t,x)∧wU m.aB c=some (⟨m.aB.Global.set c.toNat t,m.aB.Own⟩,x) ∧
      uZ ⟨m.aD,⟨m.aB.Global.set c.toNat t,m.aB.Own⟩⟩∧(0≤x→0≤aU m.aD x)∧uT m ⟨m.aD,⟨m.aB.Global.set c.toNat t,m.aB.Own⟩⟩ (-1):=by
  obtain⟨hcnt,h3,h9,h1,h2,hsm,hcp,hlo,hsG,hsO⟩:=mD.facts hm
  have hk:c.toNat < m.aB.Global.length:=by omega
  have hx:idx m.aB.Global c=some m.aB.Global[c.toNat]:=fD (by omega) (by omega)
  have h24:=hsG _ (List.getElem_mem hk)
  obtain⟨t,x,e1,e2,ht,hmem,hsub⟩:=aPE (s:=m.aB.Global[c.toNat]) (by omega)
  have hall:=oX m.aB
  refine⟨_,t,x,hx,e1,?_,⟨by simp only;omega,by simp only;omega,by simp only [List.length_set];omega,by simp only;omega,?_⟩,fun h0=>?_,mD.aLB hm (by omega) (by rw [←cY hk];exact hsub)⟩
  · unfold wU pS
    rw [hcp,hlo,i6,bD hc]
    simp only [aI,dJ,aL,if_false]
    rw [hx,aI,e2];rfl
  · have:=ZV hk ht
    rw [oX];simp only;omega
  · have:=hm.2.1 c.toNat (by omega) x (by rw [←cY hk];exact hmem h0)
    omega
theorem aSI{w h:Int}(hw:0≤w∧w≤2)(hv:gY m h):∃m',DL m w (h % 32)=some m'∧KO m w h=some m'∧uZ m'∧uT m m' (h % 32):=by
  obtain⟨hcnt,h3,h9,h1,h2,hsm,hcp,hlo,hsG,hsO⟩:=mD.facts hm
  have hs:=hm.1.1.1
  have hh:=hv.1
  have hhm:=hh.mod
  have hcl:=gH hv.2.1
  have hgo:=C5 hcl
  have hc2:0≤aU m.aD (h % 32)∧aU m.aD (h % 32)≤2:=by
    obtain⟨_,q,e⟩:=nU hcl
    rw [e];exact gG.1 (by omega)
  have hg6:1≤h / 32∧h / 32≤6:=by unfold jA at hh;omega
  have hbl:m.aD.Bytes.length≤maxLen:=by rw [h1];simp [maxLen]
  have hnot:h % 32∉cX m.aB:=fun q=>by
    have:=hv.2.1;unfold d6 at this;rw [if_neg (by omega),if_pos q] at this;omega
  have hcpH:=LI (h:=m.aD) (by omega) (by omega)
  have eo:dW (h % 32) (aU m.aD (h % 32))=(((dW (h % 32) (aU m.aD (h % 32))).toNat:Nat):Int):=by omega
  have ew:bC (h / 32+1)=h / 32+1:=aP (by omega) (by omega)
  have ed:bC (Int.tdiv h 32)=h / 32:=by rw [DS (by unfold jA at hh;omega),aP (by omega) (by omega)]
  have hall:=oX m.aB
  obtain⟨hr1,hr2⟩:=mD.aY8 hm hv.2.1 (g:=h / 32+1) (by omega)
  have hu:=fZ.1 hv.2.1
  unfold DL KO NF pM
  rw [hhm.1,hQ hs,hcpH,A2 hbl,bD hs,kS hs,ed,ew,hcp]
  simp only [aI,dJ,aL,if_false,F5,zX,FZ]
  rw [nE hs hcl,hv.2.2,dX,bM (show ¬aU m.aD (h % 32) < 0 by omega),bD (show 1≤h / 32+1∧h / 32+1≤7 by omega)]
  simp only [aI,dJ,aL,if_false,rB,wE,ew]
  generalize hgn:(dW (h % 32) (aU m.aD (h % 32))).toNat=a at eo
  rw [hgn] at hr1 hr2
  rw [eo,EB (by omega) (by omega) (by omega),QF (by omega)]
  simp only [aI]
  rw [OJ (by omega) (by omega) (by omega)]
  simp only [aI,F9,IC,ed,ew,hhm.1]
  by_cases q:h / 32+1≤6
  · have hk:(w * 3+aU m.aD (h % 32)).toNat < m.aB.Own.length:=by omega
    have hx:idx m.aB.Own (w * 3+aU m.aD (h % 32))=some m.aB.Own[(w * 3+aU m.aD (h % 32)).toNat]:=fD (by omega) (by omega)
    have hk2:(aU m.aD (h % 32)).toNat < m.aB.Global.length:=by omega
    have hx2:idx m.aB.Global (aU m.aD (h % 32))=some m.aB.Global[(aU m.aD (h % 32)).toNat]:=fD (by omega) (by omega)
    have b1:=hsO _ (List.getElem_mem hk)
    have b2:=hsG _ (List.getElem_mem hk2)
    rw [bD q,if_pos rfl,if_pos rfl]
    unfold NW TJ tY
    rw [kS hs,aI,hcp,(J7 hw hc2).1,(J7 hw hc2).2,hlo,tJ,bD (show 0≤h % 32∧h % 32≤23 by omega),OI (by omega) (by simp only [maxLen];omega) (by simp only [maxLen];omega),bM hnot]
    simp only [aI,dJ,aL,if_false,hx,hx2]
    have nz:¬w * 3+aU m.aD (h % 32) < 0:=by omega
    simp only [bM nz,aL,if_false]
    by_cases q2:m.aB.Own[(w * 3+aU m.aD (h % 32)).toNat].aQ.length < 2
    · have y1:(m.aB.Own[(w * 3+aU m.aD (h % 32)).toNat].aQ.length:Int) < 2:=by omega
      have y2:¬(2:Int)≤m.aB.Own[(w * 3+aU m.aD (h % 32)).toNat].aQ.length:=by omega
      simp only [bD y1,bM y2,aL,if_false,if_true]
      rw [aR (by simp;omega),aR (by simp;omega)]
      refine⟨_,rfl,rfl,⟨by simp only [A5];omega,by simp only;omega,by simp only;omega,by simp only [List.length_set];omega,?_⟩,?_⟩
      · rw [oX];simp only [Q8 hk];simp;omega
      · have hmod:((w * 3+aU m.aD (h % 32)).toNat % 3:Nat)=(aU m.aD (h % 32)).toNat:=by omega
        obtain⟨z1,z2⟩:=mD.aSH hr1.1 (k:=(w * 3+aU m.aD (h % 32)).toNat) (by omega) (xs:=[h % 32]) (by simp only [←cY hk,List.length_cons,List.length_nil];omega) (by simp) (fun x hx=>by
          simp at hx;subst hx
          exact⟨by rw [hmod];show aU m.aD (h % 32)=_;omega,by rw [hr2];omega⟩) (fun x hx=>by simp at hx;subst hx;exact hnot) hk
        refine⟨z1,fun s h1 h2=>?_⟩
        obtain⟨y1,y2,y3⟩:=hr1.2 s h1 h2
        exact⟨z2 s (by simpa using h2) y1,y2,y3⟩
    · have y1:¬(m.aB.Own[(w * 3+aU m.aD (h % 32)).toNat].aQ.length:Int) < 2:=by omega
      have y2:(2:Int)≤m.aB.Own[(w * 3+aU m.aD (h % 32)).toNat].aQ.length:=by omega
      simp only [bD y2,bM y1,aL,if_false,if_true]
      rw [aR (by simp;omega),aR (by simp;omega)]
      refine⟨_,rfl,rfl,⟨by simp only [A5];omega,by simp only;omega,by simp only [List.length_set];omega,by simp only;omega,?_⟩,?_⟩
      · rw [oX];simp only [Q8 hk2];simp;omega
      · obtain⟨z1,z2⟩:=mD.ZU hr1.1 (k:=(aU m.aD (h % 32)).toNat) (by omega) (xs:=[h % 32]) (by simp) (fun x hx=>by
          simp at hx;subst hx
          exact⟨by show aU m.aD (h % 32)=_;omega,by rw [hr2];omega⟩) (fun x hx=>by simp at hx;subst hx;exact hnot) hk2
        refine⟨z1,fun s h1 h2=>?_⟩
        obtain⟨y1,y2,y3⟩:=hr1.2 s h1 h2
        exact⟨z2 s (by simpa using h2) y1,y2,y3⟩
  · rw [bM q,if_neg (by simp),if_neg (by simp)]
    refine⟨_,rfl,rfl,⟨by simp only [A5];omega,by simp only;omega,by simp only;omega,by simp only;omega,by rw [oX];simp only;omega⟩,hr1⟩
end
theorem alloc_eq{b:aA}(hm:mD b.Mem){w:Int}(hw:0≤w∧w≤2)(s:Sub) :
    ∃x y,vZ b w s=some (x,y)∧pT s b w=some (y,x)∧∃m',x=⟨m',b.aC,b.aO,b.m7⟩∧uZ m'∧uT b.Mem m' (-1):=by
  have hsm:=(mD.facts hm).2.2.2.2.2.1
  have hs:=hm.1.1.1
  obtain⟨c,ec,ei,hcc⟩:=aH2 s.A
  unfold vZ pT
  rw [ec,ei]
  simp only [aI]
  by_cases c0:c < 0
  · simp only [bD c0,if_true,bG,bB];exact⟨_,_,rfl,rfl,_,rfl,hsm,uT.refl hm _⟩
  have hc:0≤c∧c≤2:=by omega
  simp only [bM c0,aL,if_false]
  have fin:∀(m':Mem) (x:Int),uZ m'→uT b.Mem m' (-1)→(0≤x→fF m'.aD∧0≤aU m'.aD x) →
      ∃X Y,iH s x ⟨m',b.aC,b.aO,b.m7⟩=some (X,Y)∧gZ s x ⟨m',b.aC,b.aO,b.m7⟩=some (Y,X)∧∃m',X=⟨m',b.aC,b.aO,b.m7⟩∧uZ m'∧uT b.Mem m' (-1):=by
    intro m' x hs' hst hx
    unfold iH gZ
    simp only [uG,K5,bG,bB]
    by_cases x0:0≤x
    · obtain⟨h,e1,e2⟩:=aLA (m:=m') (hx x0).1 (hx x0).2
      rw [bM (show ¬x < 0 by omega),bD x0]
      simp only [aL,if_false,if_true,e1,e2,aI]
      exact⟨_,_,rfl,rfl,m',rfl,hs',hst⟩
    · rw [bD (show x < 0 by omega),bM x0]
      by_cases p3:s.Pc=3
      · simp only [p3,beq_self_eq_true,if_true,aL,if_false,aI];exact⟨_,_,rfl,rfl,m',rfl,hs',hst⟩
      · have p3':(s.Pc == 3)=false:=by simpa using p3
        simp only [p3',if_true,aL,if_false,aI];exact⟨_,_,rfl,rfl,m',rfl,hs',hst⟩
  by_cases p0:s.Pc=0
  · obtain⟨l,t,x,e1,e2,e3,h1,h2,h3⟩:=ZW hm hw hc
    simp only [p0,beq_self_eq_true,if_true,(J7 hw hc).1,aI,e1,e2,e3]
    exact fin _ x h1 h3 (fun h=>⟨hs,h2 h⟩)
  · have p0':(s.Pc == 0)=false:=by simpa using p0
    simp only [p0',aL,if_false,uH,l5]
    obtain⟨l,t,x,e1,e2,e3,h1,h2,h3⟩:=QG hm hc
    by_cases p1:s.Pc=1
    · simp only [p1,beq_self_eq_true,if_true,aI,e1,e2,e3]
      exact fin _ x h1 h3 (fun h=>⟨hs,h2 h⟩)
    · have p1':(s.Pc == 1)=false:=by simpa using p1
      simp only [p1',aL,if_false]
      by_cases p3:s.Pc=3
      · simp only [p3,beq_self_eq_true,if_true,aI,e1,e2,e3]
        exact fin _ x h1 h3 (fun h=>⟨hs,h2 h⟩)
      · have p3':(s.Pc == 3)=false:=by simpa using p3
        simp only [p3',aL,if_false]
        by_cases p2:s.Pc=2
        · obtain⟨m',x,e1,e2,h1,h2,h3⟩:=aFX hm hc
          simp only [p2,beq_self_eq_true,if_true,aI,e1,e2]
          exact fin m' x h1 h3 h2
        · have p2':(s.Pc == 2)=false:=by simpa using p2
          simp only [p2',aL,if_false,bG,bB];exact⟨_,_,rfl,rfl,_,rfl,hsm,uT.refl hm _⟩
end Go.Gv
end
noncomputable section
namespace Go.Gv
theorem aJ5(r:dA)(e:Int):∃v,FM r e=some v∧JO r e=some v:=by
  unfold FM JO FE E3
  by_cases h:2≤e
  · simp only [bD h,if_true];exact⟨_,rfl,rfl⟩
  · simp only [bM h,aL,if_false];exact⟨_,rfl,rfl⟩
theorem aSJ{b:aA}{w:Int}{l:aY}(hx:idx b.aO w=some l)(hl:l.Rows.length≤1000)(s:Sub) :
    (uJ l.Rows s.Row s.E=some (-1)∧mY s b w=(bB s 0).bind fun x=>some (x,b)) ∨
    ∃k,∃h:k < l.Rows.length,uJ l.Rows s.Row s.E=some (k:Int)∧mY s b w=some (⟨s.Kind,s.A,2,s.E,(k:Int),0,l.Rows[k].Handle,s.Out,s.Code,s.cE⟩,b):=by
  have key:∀d k,k+d=l.Rows.length →
      (loop (d4 l.Rows s.E) (k:Int)=some (Out.brk ())∧loop (eM s b w) (k:Int)=some (Out.brk ())) ∨
      ∃j,∃h:j < l.Rows.length,loop (d4 l.Rows s.E) (k:Int)=some (Out.ret (j:Int))∧loop (eM s b w) (k:Int)=some (Out.ret (⟨s.Kind,s.A,2,s.E,(j:Int),0,l.Rows[j].Handle,s.Out,s.Code,s.cE⟩,b)):=by
    intro d
    induction d with
    | zero =>
      intro k hk
      left
      exact⟨bV (by simp only [d4];rw [if_neg (by simp;omega)]),bV (by simp only [eM,hx,aI];rw [if_neg (by simp;omega)])⟩
    | succ d ih =>
      intro k hk
      have hk':k < l.Rows.length:=by omega
      obtain⟨v,e1,e2⟩:=aJ5 l.Rows[k] s.E
      cases v with
      | true =>
        right
        refine⟨k,hk',bV ?_,bV ?_⟩
        · simp only [d4]
          rw [if_pos (by simp;omega),aW hk',aI,e1];rfl
        · simp only [eM,hx,aI]
          rw [if_pos (by simp;omega),aW hk',aI,e2];rfl
      | false =>
        have n1:d4 l.Rows s.E (k:Int)=some (.next ((k+1:Nat):Int)):=by
          simp only [d4]
          rw [if_pos (by simp;omega),aW hk',aI,e1,aI,aP (by omega) (by omega)];rfl
        have n2:eM s b w (k:Int)=some (.next ((k+1:Nat):Int)):=by
          simp only [eM,hx,aI]
          rw [if_pos (by simp;omega),aW hk',aI,e2,aI,aP (by omega) (by omega)];rfl
        rw [b8 n1,b8 n2]
        exact ih (k+1) (by omega)
  unfold uJ mY
  have hst:∃i:Nat,(if 0 < s.Row then s.Row else 0)=(i:Int)∧(if s.Row < 0 then 0 else s.Row)=(i:Int):=by
    refine⟨s.Row.toNat,?_,?_⟩ <;> split <;> omega
  obtain⟨i,i1,i2⟩:=hst
  rw [i1,i2]
  by_cases hi:i≤l.Rows.length
  · rcases key (l.Rows.length - i) i (by omega) with ⟨a,c⟩ | ⟨j,hj,a,c⟩
    · left;rw [a,c];exact⟨rfl,rfl⟩
    · right;rw [a,c];exact⟨j,hj,rfl,rfl⟩
  · left
    rw [bV (body:=d4 l.Rows s.E) (r:=Out.brk ()) (by simp only [d4];rw [if_neg (by simp;omega)]),
      bV (body:=eM s b w) (r:=Out.brk ()) (by simp only [eM,hx,aI];rw [if_neg (by simp;omega)])]
    exact⟨rfl,rfl⟩
theorem del_eq{α:Type}{l:List α}{k:Nat}(h:k < l.length):((dD l k (l.drop (k+1))).take (k+(l.length - (k+1)))).drop 0=l.eraseIdx k:=by
  have h1:(l.take k).length=k:=by rw [List.length_take];omega
  have h2:(l.drop (k+1)).length=l.length - (k+1):=by simp
  unfold dD
  rw [List.drop_zero,List.eraseIdx_eq_take_drop_succ,List.take_of_length_le (l:=l.drop (k+1)) (by rw [h2];omega),←List.append_assoc]
  rw [show k+(l.length - (k+1))=(l.take k++l.drop (k+1)).length by rw [List.length_append,h1,h2]]
  exact List.take_left
theorem ZX{α:Type}{l:List α}{k:Nat}(h:k < l.length):l.Perm (l[k] :: l.eraseIdx k):=by
  have e:l=l.take k++l[k] :: l.drop (k+1):=by rw [←List.drop_eq_getElem_cons h,List.take_append_drop]
  rw [List.eraseIdx_eq_take_drop_succ]
  refine(List.Perm.of_eq e).trans ?_
  exact List.perm_middle
theorem uS.drop{b:List aY}(hL:uS b){w:Nat}(hw:w < b.length):∀k (hk:k < b[w].Rows.length),uS (b.set w ⟨b[w].Rows.eraseIdx k⟩)∧∀r∈bZ (b.set w ⟨b[w].Rows.eraseIdx k⟩),r∈bZ b∧r.Handle % 32≠b[w].Rows[k].Handle % 32:=by
  intro k hk
  have hsub:(bZ (b.set w ⟨b[w].Rows.eraseIdx k⟩)).Sublist (bZ b):=by
    rw [BZ hw,yQ hw]
    exact(List.Sublist.refl _).append ((List.eraseIdx_sublist _ _).append (List.Sublist.refl _))
  have hnd:=hL.2.2.2
  refine⟨⟨by simpa using hL.1,Nat.le_trans hsub.length_le hL.2.1,fun r hr=>hL.2.2.1 r (hsub.subset hr),(hsub.map yP).nodup hnd⟩,fun r hr=>⟨hsub.subset hr,?_⟩⟩
  have hp:(bZ b).Perm (b[w].Rows[k] :: bZ (b.set w ⟨b[w].Rows.eraseIdx k⟩)):=by
    rw [BZ hw,yQ hw]
    refine List.Perm.trans (List.Perm.append_left _ (List.Perm.append_right _ (ZX hk))) ?_
    exact List.perm_middle
  have:=(hp.map yP).nodup_iff.1 hnd
  rw [List.map_cons,List.nodup_cons] at this
  exact fun e=>this.1 (List.mem_map.2 ⟨r,hr,e⟩)
theorem aH3{b:aA}(hb:pB b){w:Int}(hw:0≤w∧w≤2)(s:Sub) :
    ∃x y,qR b w s=some (x,y)∧mZ s b w=some (y,x)∧∃m' L,x=⟨m',b.aC,L,b.m7⟩∧uZ m'∧mD m'∧uS L∧∀r∈bZ L,gY m' r.Handle∧r.aJ≤b.aC.aJ:=by
  have hm:=hb.1.1
  have hL:=hb.1.2.2.1
  have hZ:=hb.1.2.2.2
  have hsm:=(mD.facts hm).2.2.2.2.2.1
  have hlen:w.toNat < b.aO.length:=by have:=hL.1;omega
  have hx:idx b.aO w=some b.aO[w.toNat]:=fD hw.1 (by omega)
  have hrow:=hL.small.2.2.2 _ (List.getElem_mem hlen)
  have hmemL:b.aO[w.toNat]∈b.aO:=List.getElem_mem hlen
  have hset:=uS.drop hL hlen
  generalize b.aO[w.toNat]=l at hx hrow hset hmemL
  have done:∀y:Sub,∃x z,(some (b,y):Option (aA×Sub))=some (x,z)∧(some (y,b):Option (Sub×aA))=some (z,x)∧∃m' L,x=⟨m',b.aC,L,b.m7⟩∧uZ m'∧mD m'∧uS L∧∀r∈bZ L,gY m' r.Handle∧r.aJ≤b.aC.aJ:=
    fun y=>⟨_,_,rfl,rfl,b.Mem,b.aO,rfl,hsm,hm,hL,hb.2⟩
  have hw1:bC ((l.Rows.length:Int) - 1)=(l.Rows.length:Int) - 1:=aP (by omega) (by omega)
  have hhas:DG b.aO w s.Row=some (decide (0≤s.Row∧s.Row≤(l.Rows.length:Int) - 1)):=by
    unfold DG zW
    rw [j5,bD hw,aI,if_pos rfl,hx,aI,dX,hw1];rfl
  unfold qR mZ
  rw [hhas,hx]
  simp only [aI,bG,bU,hw1]
  have hat:∃a:Bool,(if decide (0≤s.Row∧s.Row≤(l.Rows.length:Int) - 1)=true then (idx l.Rows s.Row).bind fun x15=>fA s b w (x15.Handle == s.H) else fA s b w false)=fA s b w a ∧
      (if (!decide (0≤s.Row∧s.Row≤(l.Rows.length:Int) - 1))=true then eO b s true else (idx l.Rows s.Row).bind fun x11=>eO b s (x11.Handle != s.H))=eO b s (!a) ∧
      (a=true→∃r,r∈l.Rows∧idx l.Rows s.Row=some r∧r.Handle=s.H∧0≤s.Row∧s.Row < l.Rows.length) ∧
      (a=false→∀f:dA→Option (aA×Sub),(if (!decide (0≤s.Row∧s.Row≤(l.Rows.length:Int) - 1))=true then eP b w s l true else (idx l.Rows s.Row).bind fun x=>if (x.Handle != s.H)=true then eP b w s l true else f x)=eP b w s l true):=by
    by_cases q:0≤s.Row∧s.Row≤(l.Rows.length:Int) - 1
    · have hr:idx l.Rows s.Row=some (l.Rows[s.Row.toNat]'(by omega)):=fD q.1 (by omega)
      by_cases q2:(l.Rows[s.Row.toNat]'(by omega)).Handle=s.H
      · refine⟨true,?_,?_,fun _=>⟨_,List.getElem_mem _,hr,q2,q.1,by omega⟩,fun h=>by cases h⟩
        · rw [bD q,if_pos rfl,hr,aI,q2,beq_self_eq_true]
        · rw [bD q,if_neg (by simp),hr,aI,q2,bne_self_eq_false];rfl
      · have n1:((l.Rows[s.Row.toNat]'(by omega)).Handle == s.H)=false:=by simpa using q2
        have n2:((l.Rows[s.Row.toNat]'(by omega)).Handle != s.H)=true:=by simpa using q2
        refine⟨false,?_,?_,(fun h=>by cases h),fun _ f=>?_⟩
        · rw [bD q,if_pos rfl,hr,aI,n1]
        · rw [bD q,if_neg (by simp),hr,aI,n2];rfl
        · rw [bD q,if_neg (by simp),hr,aI,n2,if_pos rfl]
    · refine⟨false,?_,?_,(fun h=>by cases h),fun _ f=>?_⟩
      · rw [bM q,if_neg (by simp)]
      · rw [bM q,if_pos (by simp)];rfl
      · rw [bM q,if_pos (by simp)]
  obtain⟨a,ha1,ha2,ha3,ha4⟩:=hat
  rw [ha1,ha2]
  unfold fA
  by_cases p0:s.Pc=0
  · simp only [p0,beq_self_eq_true,if_true];exact done _
  have p0':(s.Pc == 0)=false:=by simpa using p0
  simp only [p0',aL,if_false]
  by_cases p1:s.Pc=1
  · simp only [p1,beq_self_eq_true,if_true]
    rcases aSJ hx (by omega) s with ⟨e1,e2⟩ | ⟨k,hk,e1,e2⟩
    · rw [e1,e2,aI,if_pos (by simp)];simp only [bB,p1,aI];exact done _
    · rw [e1,e2,aI,if_neg (by simp),aW hk];simp only [aI];exact done _
  have p1':(s.Pc == 1)=false:=by simpa using p1
  simp only [p1',aL,if_false]
  by_cases p2:s.Pc=2
  · simp only [p2,beq_self_eq_true,if_true,j5,aI]
    by_cases hB:0≤s.B∧s.B≤2
    · rw [bD hB]
      simp only [dJ,aL,if_false,if_true]
      cases a with
      | true =>
        have hz:idx b.m7 s.B=some (b.m7[s.B.toNat]'(by have:=hZ.1;omega)):=fD hB.1 (by have:=hZ.1;omega)
        simp only [eO,d9,dJ,aL,if_false,if_true,hz,aI,qA]
        by_cases q:(b.m7[s.B.toNat]'(by have:=hZ.1;omega))=s.H
        · simp only [q,beq_self_eq_true,if_true];exact done _
        · have q':((b.m7[s.B.toNat]'(by have:=hZ.1;omega)) == s.H)=false:=by simpa using q
          simp only [q',aL,if_false]
          by_cases q3:bC (s.B+1)=3
          · simp only [q3,beq_self_eq_true,if_true];exact done _
          · have q3':(bC (s.B+1) == 3)=false:=by simpa using q3
            simp only [q3',aL,if_false];exact done _
      | false =>
        simp only [eO,d9,c9,bG,bB,iC,if_true,aL,if_false,p2,show((2:Int) == 3)=false from rfl,aI]
        exact done _
    · rw [bM hB]
      simp only [eO,d9,c9,bG,bB,iC,if_true,aL,if_false,p2,show((2:Int) == 3)=false from rfl,aI]
      exact done _
  have p2':(s.Pc == 2)=false:=by simpa using p2
  simp only [p2',aL,if_false,d9]
  by_cases p3:s.Pc=3
  · simp only [p3,beq_self_eq_true,if_true]
    cases a with
    | false =>
      rw [ha4 rfl]
      simp only [eP,c9,bG,bB,if_true,aL,if_false,aI]
      exact done _
    | true =>
      obtain⟨r,hrm,hr,hrH,r0,r1⟩:=ha3 rfl
      obtain⟨v,e1,e2⟩:=aJ5 r s.E
      rw [bD (show 0≤s.Row∧s.Row≤(l.Rows.length:Int) - 1 by omega)]
      simp only [dJ,aL,if_false,if_true,hr,aI,hrH,bne_self_eq_false,hx,e1,e2]
      cases v with
      | false =>
        simp only [eP,c9,bG,bB,iC,if_true,aL,if_false,aI]
        exact done _
      | true =>
        have hlive:gY b.Mem s.H:=by
          have:r∈bZ b.aO:=List.mem_flatMap.2 ⟨l,hmemL,hrm⟩
          have:=(hb.2 r this).1
          rwa [hrH] at this
        obtain⟨m',f1,f2,f3,f4⟩:=aSI hm hw hlive
        have ew:bC (s.Row+1)=s.Row+1:=aP (by omega) (by omega)
        have hdrop:E4 b.aO w s.Row=some (b.aO.set w.toNat ⟨((dD l.Rows s.Row.toNat (l.Rows.drop (s.Row+1).toNat)).take (s.Row.toNat+(l.Rows.length - (s.Row+1).toNat))).drop 0⟩,true):=by
          unfold E4 wV
          rw [IY hL.small.2.2.1 (fun s h=>by have:=hL.small.2.2.2 s h;omega),xL hL.small.1,bD hL,hhas,bD (show 0≤s.Row∧s.Row≤(l.Rows.length:Int) - 1 by omega)]
          simp only [aI,dJ,aL,if_false,hx,ew]
          unfold xU
          rw [aR (by omega),if_neg (by simp;omega),aR (by omega),aR (by omega),aR (by omega),aR]
          · rfl
          · rw [eY (by omega)]
            simp only [List.drop_zero,List.length_take,eY (show s.Row.toNat≤l.Rows.length by omega)]
            omega
        simp only [eP,c9,xZ,ew,dJ,aL,if_false,if_true]
        rw [aR (by omega),aR (by omega),aR (by omega),dC,if_pos hlive.1,aI,f1,f2,hdrop]
        have hk:s.Row.toNat < l.Rows.length:=by omega
        have eL:((dD l.Rows s.Row.toNat (l.Rows.drop (s.Row+1).toNat)).take (s.Row.toNat+(l.Rows.length - (s.Row+1).toNat))).drop 0=l.Rows.eraseIdx s.Row.toNat:=by
          rw [show(s.Row+1).toNat=s.Row.toNat+1 by omega];exact del_eq hk
        have er:l.Rows[s.Row.toNat]=r:=by
          have:=aW hk
          rw [show((s.Row.toNat:Nat):Int)=s.Row by omega,hr] at this
          exact(Option.some.inj this).symm
        rw [eL] at hdrop ⊢
        obtain⟨g1,g2⟩:=hset s.Row.toNat hk
        refine⟨_,_,rfl,rfl,m',_,rfl,f3,f4.1,g1,fun q hq=>?_⟩
        obtain⟨g3,g4⟩:=g2 q hq
        obtain⟨g5,g6⟩:=hb.2 q g3
        refine⟨f4.live g5 fun e=>?_,g6⟩
        rw [er,hrH] at g4
        exact g4 e
  · have p3':(s.Pc == 3)=false:=by simpa using p3
    simp only [p3',aL,if_false,c9,bB,aI]
    exact done _
end Go.Gv
end
noncomputable section
namespace Go.Gv
theorem LH.fits{b:aA}(h:LH b):b.Mem.aD.Bytes.length≤maxLen∧(cX b.Mem.aB).length≤1073741824∧b.aC.cK.length≤maxLen∧b.aO.length≤maxLen∧(bZ b.aO).length≤1073741824∧b.m7.length≤maxLen:=by
  have hb:(1048576:Nat)≤maxLen:=by simp [maxLen]
  have g1:=h.1.1;have g2:=h.1.2.2.2.2;have g3:=h.2.1;have g4:=h.2.2.1;have g5:=h.2.2.2.1;have g6:=h.2.2.2.2
  exact⟨by omega,by omega,by omega,by omega,by omega,by omega⟩
theorem step_eq{b:aA}(hb:pB b)(hs:LH b){w:Int}(hw:0≤w∧w≤2)(s:Sub) :
    ∃x y,tA b w s=some (x,y)∧jS s b w=some (y,x)∧pB x:=by
  have hz:=hb.1.2.2.2.1
  have hl:=hb.1.2.2.1
  unfold tA jS
  cases hd:s.cE with
  | true=>exact⟨_,_,rfl,rfl,hb⟩
  | false =>
    simp only [aL,if_false]
    by_cases k1:s.Kind=1
    · obtain⟨x,y,e1,e2,m,rfl,h1,h2⟩:=alloc_eq hb.1.1 hw s
      simp only [k1,beq_self_eq_true,if_true,e1,e2,aI]
      exact⟨_,_,rfl,rfl,⟨h2.1,hb.1.2⟩,fun r hr=>⟨h2.live (hb.2 r hr).1 (by have:=(hb.2 r hr).1.1;unfold jA at this;omega),(hb.2 r hr).2⟩⟩
    have k1':(s.Kind == 1)=false:=by simpa using k1
    simp only [k1',aL,if_false]
    by_cases k2:s.Kind=2
    · obtain⟨x,y,e1,e2,L,rfl,h1,h2⟩:=aK7 hb hs hw s
      simp only [k2,beq_self_eq_true,if_true,e1,e2,aI]
      exact⟨_,_,rfl,rfl,⟨hb.1.1,hb.1.2.1,h1,hb.1.2.2.2⟩,h2⟩
    have k2':(s.Kind == 2)=false:=by simpa using k2
    simp only [k2',aL,if_false]
    by_cases k3:s.Kind=3
    · obtain⟨x,y,e1,e2,c,rfl,h1,h2⟩:=aHY hb.1.2.1 s
      simp only [k3,beq_self_eq_true,if_true,e1,e2,aI]
      exact⟨_,_,rfl,rfl,⟨hb.1.1,h1,hb.1.2.2⟩,fun r hr=>⟨(hb.2 r hr).1,Int.le_trans (hb.2 r hr).2 h2⟩⟩
    have k3':(s.Kind == 3)=false:=by simpa using k3
    simp only [k3',aL,if_false]
    by_cases k4:s.Kind=4
    · obtain⟨x,y,e1,e2,m,L,rfl,h1,h2,h3,h4⟩:=aH3 hb hw s
      simp only [k4,beq_self_eq_true,if_true,e1,e2,aI]
      exact⟨_,_,rfl,rfl,⟨h2,hb.1.2.1,h3,hb.1.2.2.2⟩,h4⟩
    have k4':(s.Kind == 4)=false:=by simpa using k4
    simp only [k4',aL,if_false]
    by_cases k5:s.Kind=5
    · obtain⟨x,y,e1,e2,c,rfl,h1,h2⟩:=aVP hb.1.2.1 hw s
      simp only [k5,beq_self_eq_true,if_true,e1,e2,aI]
      exact⟨_,_,rfl,rfl,⟨hb.1.1,h1,hb.1.2.2⟩,fun r hr=>⟨(hb.2 r hr).1,Int.le_trans (hb.2 r hr).2 h2⟩⟩
    have k5':(s.Kind == 5)=false:=by simpa using k5
    simp only [k5',aL,if_false,bG,bB,aI]
    exact⟨_,_,rfl,rfl,hb⟩
theorem pB.small{b:aA}(hb:pB b):LH b:=by
  have h1:=hb.1.2.1.2.1;have h2:=hb.1.2.2.1.1;have h3:=hb.1.2.2.1.2.1;have h4:=hb.1.2.2.2.1
  exact⟨(mD.facts hb.1.1).2.2.2.2.2.1,by omega,by omega,by omega,by omega⟩
end Go.Gv
end
noncomputable section
namespace Go.Gv
theorem SM{b:List Int}{a:Nat}{n:Int}(h:a+4≤b.length){j:Nat}(hj:j < a∨a+4≤j):bt (B5 b a n) j=bt b j:=by
  unfold B5
  rw [yA (by simp;omega),yA (by simp;omega),yA (by simp;omega),yA (by omega),if_neg (by omega),if_neg (by omega),if_neg (by omega),if_neg (by omega)]
theorem P8.put{h:aD}(hh:P8 h){s:Int}(hc:0≤aU h s){n:Int}(hn:0≤n∧n≤4294967295) :
    P8 ⟨B5 h.Bytes ((dW s (aU h s)).toNat+4) n,h.Class⟩∧∀t,0≤aU h t→gR ⟨B5 h.Bytes ((dW s (aU h s)).toNat+4) n,h.Class⟩ t=gR h t:=by
  obtain⟨hs,hp⟩:=hh
  have h384:=hs.1
  have hs':fF ⟨B5 h.Bytes ((dW s (aU h s)).toNat+4) n,h.Class⟩:=⟨by rw [J6];exact hs.1,hs.2.1,aK8 hs.2.2.1 _ hn,hs.2.2.2⟩
  obtain⟨p,i,p6,hi,es,ec,eo,ep⟩:=qU hc
  have hcl:0≤bL h p∧bL h p≤2:=gG.1 (by omega)
  have hroom:8+i * (aS (bL h p)).toNat+8≤64∧∀j,j < (bP (bL h p)).toNat→j * (aS (bL h p)).toNat+4≤i * (aS (bL h p)).toNat+4∨i * (aS (bL h p)).toNat+12≤j * (aS (bL h p)).toNat:=by
    generalize bL h p=c at hi hcl
    rcases fE hcl with rfl | rfl | rfl
    · rw [show(bP 0).toNat=4 from rfl] at *;rw [show(aS 0).toNat=12 from rfl]
      exact⟨by omega,fun j hj=>by omega⟩
    · rw [show(bP 1).toNat=2 from rfl] at *;rw [show(aS 1).toNat=20 from rfl]
      exact⟨by omega,fun j hj=>by omega⟩
    · rw [show(bP 2).toNat=1 from rfl] at *;rw [show(aS 2).toNat=44 from rfl]
      exact⟨by omega,fun j hj=>by omega⟩
  have hgen:∀q j,q < 6→j < (bP (bL h q)).toNat→ld (B5 h.Bytes ((dW s (aU h s)).toNat+4) n) (q * 64+8+j * (aS (bL h q)).toNat) 4=ld h.Bytes (q * 64+8+j * (aS (bL h q)).toNat) 4:=fun q j hq hj=>by
    have hz:=rC hs hq rfl hj
    refine FH (by omega) (by simp only [J6]) fun k k1 k2=>?_
    by_cases e:q=p
    · subst e
      have:=hroom.2 j hj
      exact SM (by omega) (by omega)
    · exact SM (by omega) (by omega)
  refine⟨⟨hs',fun q hq=>?_⟩,fun t ht=>?_⟩
  · rw [GQ hs' hq]
    have hold:=(GQ hs hq).1 (hp q hq)
    by_cases e:q=p
    · subst e
      have hcl':¬bL h q < 0:=by omega
      unfold T4 at hold ⊢
      have hcc:bL ⟨B5 h.Bytes ((dW s (aU h s)).toNat+4) n,h.Class⟩ q=bL h q:=rfl
      rw [hcc]
      rw [if_neg hcl'] at hold ⊢
      obtain⟨⟨a1,a2,a3⟩,a4,a5⟩:=hold
      have bs:∀k,k < 8→bt (B5 h.Bytes ((dW s (aU h s)).toNat+4) n) (q * 64+k)=bt h.Bytes (q * 64+k):=fun k hk=>SM (by omega) (by omega)
      have b0:=bs 0 (by omega);have b1:=bs 1 (by omega);have b2:=bs 2 (by omega)
      simp only [Nat.add_zero] at b0
      refine⟨⟨by rw [b0];exact a1,by rw [b1];exact a2,by rw [b2];exact a3⟩,fun k k3 k8=>by rw [bs k k8];exact a4 k k3 k8,fun j hj=>?_⟩
      rw [hgen q j hq hj];exact a5 j hj
    · refine T4.same hq hs (by simp only [J6]) rfl (fun k hk=>SM (by omega) (by omega)) hold
  · obtain⟨p',i',p6',hi',es',ec',eo',ep'⟩:=qU ht
    have e2:aU ⟨B5 h.Bytes ((dW s (aU h s)).toNat+4) n,h.Class⟩ t=aU h t:=rfl
    unfold gR
    rw [e2,eo']
    exact hgen p' i' p6' hi'
theorem mD.put{m:Mem}(hm:mD m){s:Int}(hc:0≤aU m.aD s){n:Int}(hn:0≤n∧n≤4294967295):uT m ⟨⟨B5 m.aD.Bytes ((dW s (aU m.aD s)).toNat+4) n,m.aD.Class⟩,m.aB⟩ (-1):=by
  obtain⟨a,b⟩:=P8.put hm.1.1 hc hn
  refine⟨mD.heap hm a fun x hx=>⟨rfl,b x (mD.nF hm hx).1⟩,fun t ht _=>?_⟩
  have ht':=fZ.1 ht
  have e:=b t ht'.1
  exact⟨fZ.2 ⟨ht'.1,ht'.2.1,by simp only [e];exact ht'.2.2⟩,e,rfl⟩
theorem start_eq{h:aD}(hs:fF h){s:Int}(hc:0≤aU h s):FF s (aU h s)=some (dW s (aU h s)+4)∧E5 s (aU h s)=some (dW s (aU h s)+4):=by
  have hg:=C5 hc
  unfold FF E5
  rw [rB,wE,aI,if_neg (by simp;omega),aP (by omega) (by omega)]
  exact⟨rfl,rfl⟩
theorem ZY{h:aD}(hs:fF h){s:Int}(hc:0≤aU h s):uA h s 0 4=some (dW s (aU h s)+4):=by
  have hg:=C5 hc
  have hc2:0≤aU h s∧aU h s≤2:=by
    obtain⟨_,q,e⟩:=nU hc
    rw [e];exact gG.1 (by omega)
  have hz:8≤fY (aU h s)∧fY (aU h s)≤40:=by rcases fE hc2 with e | e | e <;> rw [e] <;> decide
  unfold uA KQ
  rw [kS hs,aI,(start_eq hs hc).2,aI,if_neg (by simp;omega),N9]
  simp only [aI,dX]
  rw [aP (x:=dW s (aU h s)+4+fY (aU h s)) (by omega) (by omega),aP (x:=dW s (aU h s)+4+fY (aU h s) - (dW s (aU h s)+4)) (by omega) (by omega),aP (x:=dW s (aU h s)+4+fY (aU h s) - (dW s (aU h s)+4) - 4) (by omega) (by omega),bD (by omega),aP (by omega) (by omega)]
  simp
theorem UP{n:Int}(hn:0≤n∧n≤65535):∃t:List UInt8,K6 n 4=some t∧(t == [])=false:=by
  have st:∀(m:Int) (c:List UInt8) (i:Nat),c.length≤4→i < 4→0≤m→m≤4294967295→C1 4 (m,c,(i:Int))=some (.next (m / 256,[u8 (m % 256)]++c,((i+1:Nat):Int))):=fun m c i hc hi h0 h1=>by
    simp only [C1]
    rw [if_pos (by simp;omega),aR (by simp;omega),tI h0,DS h0,aP (x:=m / 256) (by omega) (by omega),aP (by omega) (by omega)];rfl
  unfold K6
  rw [bU]
  simp only [aI,show(decide ((1:Int)≤4∧(4:Int)≤7))=true from rfl,dJ,aL,if_false,IM,bM (show ¬n < 0 by omega)]
  rw [show(0:Int)=((0:Nat):Int) from rfl,b8 (st n [] 0 (by simp) (by omega) hn.1 (by omega)),b8 (st _ _ 1 (by simp) (by omega) (by omega) (by omega)),b8 (st _ _ 2 (by simp) (by omega) (by omega) (by omega)),b8 (st _ _ 3 (by simp) (by omega) (by omega) (by omega)),bV (by simp only [C1];rw [if_neg (by simp)])]
  simp only [aI,P0,PZ]
  rw [if_neg (by simp;omega)]
  exact⟨_,rfl,rfl⟩
theorem aH4{m:Mem}(hm:mD m){h n:Int}(hn:0≤n∧n≤65535):∃x c,AR m h 0 4 n=some (x,c)∧E6 m h 0 4 n=some (x,c)∧uT m x (-1)∧(c≠0→x=m):=by
  obtain⟨hcnt,h3,h9,h1,h2,hsm,hcp,hlo,hsG,hsO⟩:=mD.facts hm
  have hs:=hm.1.1.1
  have hbl:m.aD.Bytes.length≤maxLen:=by rw [h1];simp [maxLen]
  have hall:(cX m.aB).length≤1073741824:=by omega
  have hg:m.aB.Global.length≤maxLen:=by rw [h3];simp [maxLen]
  have ho:m.aB.Own.length≤maxLen:=by rw [h9];simp [maxLen]
  have hw4:jR 4=some true:=by unfold jR;rw [dX];rfl
  unfold AR E6 N0 NG
  rw [UN hsm,UO hsm,QB hbl hall,QC hbl hall,bD hm,bU,hw4,ZP ⟨hn.1,by omega⟩]
  simp only [aI,dJ,aL,if_false,AQ,zY,show(decide ((1:Int)≤4∧(4:Int)≤7))=true from rfl,xM hs hall hg ho,GN hs hall hg ho]
  by_cases hv:gY m h
  · have hh:=hv.1
    have hcl:=gH hv.2.1
    have hgo:=C5 hcl
    have hc2:0≤aU m.aD (h % 32)∧aU m.aD (h % 32)≤2:=by
      obtain⟨_,q,e⟩:=nU hcl
      rw [e];exact gG.1 (by omega)
    have hz:8≤fY (aU m.aD (h % 32))∧fY (aU m.aD (h % 32))≤40:=by rcases fE hc2 with e | e | e <;> rw [e] <;> decide
    obtain⟨p,i,p6,hi,es,ec,eo,ep⟩:=qU hcl
    have hroom:(dW (h % 32) (aU m.aD (h % 32))).toNat+8≤384:=by
      rw [eo]
      have hcl':0≤bL m.aD p∧bL m.aD p≤2:=by rw [←ec];exact hc2
      generalize bL m.aD p=c at hi hcl'
      rcases fE hcl' with rfl | rfl | rfl
      · rw [show(bP 0).toNat=4 from rfl] at hi;rw [show(aS 0).toNat=12 from rfl];omega
      · rw [show(bP 1).toNat=2 from rfl] at hi;rw [show(aS 1).toNat=20 from rfl];omega
      · rw [show(bP 2).toNat=1 from rfl] at hi;rw [show(aS 2).toNat=44 from rfl];omega
    simp only [bD hv,dJ,aL,if_false,dC,if_pos hh,aI,hQ hs,oW,bU,hh.mod.1,ZY hs hcl]
    rw [aP (x:=fY (aU m.aD (h % 32)) - 1) (by omega) (by omega),bD (show(0:Int)≤0∧(0:Int)≤fY (aU m.aD (h % 32)) - 1 by omega),aP (x:=fY (aU m.aD (h % 32)) - 0) (by omega) (by omega),bM (show ¬fY (aU m.aD (h % 32)) - 0 < 4 by omega)]
    simp only [dJ,aL,if_false,AP,(start_eq hs hcl).1,aI]
    rw [aP (x:=dW (h % 32) (aU m.aD (h % 32))+4+0) (by omega) (by omega),Int.add_zero,bM (show ¬dW (h % 32) (aU m.aD (h % 32))+4 < 0 by omega)]
    have eo':dW (h % 32) (aU m.aD (h % 32))+4=(((dW (h % 32) (aU m.aD (h % 32))).toNat+4:Nat):Int):=by omega
    have hput:=mD.put hm hcl (n:=n) ⟨hn.1,by omega⟩
    have hspf:∃t:List UInt8,K6 n 4=some t∧(t == [])=false:=UP hn
    obtain⟨t,ht1,ht2⟩:=hspf
    have hld:k9 m.aD.Bytes (((dW (h % 32) (aU m.aD (h % 32))).toNat+4:Nat):Int) 4=some (ld m.aD.Bytes ((dW (h % 32) (aU m.aD (h % 32))).toNat+4) 4):=xK hs.2.2.1 (w:=4) (by omega) (by omega) (by omega)
    rw [eo',hld]
    simp only [aI,aL,if_false,bne_self_eq_false,ht1,ht2,show(QE n == [])=false from rfl]
    rw [T3 (by omega) (by omega) ⟨hn.1,by omega⟩,ZQ (by omega) (by omega) ⟨hn.1,by omega⟩]
    exact⟨_,_,rfl,rfl,hput,fun q=>absurd rfl q⟩
  · simp only [bM hv,iC,if_true,aI,show((4:Int) != 0)=true from rfl]
    exact⟨_,_,rfl,rfl,uT.refl hm _,fun _=>rfl⟩
theorem aH5{b:aA}(hm:mD b.Mem)(h:Int):∃r,HQ b.Mem.aD h 0 4=some r∧E7 b h 0 4=some r:=by
  have hs:=hm.1.1.1
  have h1:=hs.1
  have hbl:b.Mem.aD.Bytes.length≤maxLen:=by rw [h1];simp [maxLen]
  have hw4:jR 4=some true:=by unfold jR;rw [dX];rfl
  unfold HQ E7 pM
  rw [eJ,iJ,bU,hw4,A2 hbl,bD hs]
  simp only [aI,AS,qJ,show(decide ((1:Int)≤4∧(4:Int)≤7))=true from rfl,dJ,aL,if_false]
  by_cases hh:jA h
  · simp only [bD hh,dJ,aL,if_false,dC,if_pos hh,aI,hQ hs,kS hs,hh.mod.1]
    by_cases hcl:aU b.Mem.aD (h % 32) < 0
    · simp only [bD hcl,if_true,lW];exact⟨_,rfl,rfl⟩
    · have hcl':0≤aU b.Mem.aD (h % 32):=by omega
      have hgo:=C5 hcl'
      have hc2:0≤aU b.Mem.aD (h % 32)∧aU b.Mem.aD (h % 32)≤2:=by
        obtain⟨_,q,e⟩:=nU hcl'
        rw [e];exact gG.1 (by omega)
      have hz:8≤fY (aU b.Mem.aD (h % 32))∧fY (aU b.Mem.aD (h % 32))≤40:=by rcases fE hc2 with e | e | e <;> rw [e] <;> decide
      obtain⟨p,i,p6,hi,es,ec,eo,ep⟩:=qU hcl'
      have hroom:(dW (h % 32) (aU b.Mem.aD (h % 32))).toNat+8≤384:=by
        rw [eo]
        have hcl'':0≤bL b.Mem.aD p∧bL b.Mem.aD p≤2:=by rw [←ec];exact hc2
        generalize bL b.Mem.aD p=c at hi hcl''
        rcases fE hcl'' with rfl | rfl | rfl
        · rw [show(bP 0).toNat=4 from rfl] at hi;rw [show(aS 0).toNat=12 from rfl];omega
        · rw [show(bP 1).toNat=2 from rfl] at hi;rw [show(aS 1).toNat=20 from rfl];omega
        · rw [show(bP 2).toNat=1 from rfl] at hi;rw [show(aS 2).toNat=44 from rfl];omega
      simp only [bM hcl,aL,if_false,oW,bU,aI,ZY hs hcl']
      rw [aP (x:=fY (aU b.Mem.aD (h % 32)) - 1) (by omega) (by omega),bD (show(0:Int)≤0∧(0:Int)≤fY (aU b.Mem.aD (h % 32)) - 1 by omega),aP (x:=fY (aU b.Mem.aD (h % 32)) - 0) (by omega) (by omega),bM (show ¬fY (aU b.Mem.aD (h % 32)) - 0 < 4 by omega)]
      simp only [dJ,aL,if_false,lW,dC,if_pos hh,(start_eq hs hcl').1,aI]
      rw [aP (x:=dW (h % 32) (aU b.Mem.aD (h % 32))+4+0) (by omega) (by omega),Int.add_zero,bM (show ¬dW (h % 32) (aU b.Mem.aD (h % 32))+4 < 0 by omega)]
      have eo':dW (h % 32) (aU b.Mem.aD (h % 32))+4=(((dW (h % 32) (aU b.Mem.aD (h % 32))).toNat+4:Nat):Int):=by omega
      have hld:k9 b.Mem.aD.Bytes (((dW (h % 32) (aU b.Mem.aD (h % 32))).toNat+4:Nat):Int) 4=some (ld b.Mem.aD.Bytes ((dW (h % 32) (aU b.Mem.aD (h % 32))).toNat+4) 4):=xK hs.2.2.1 (w:=4) (by omega) (by omega) (by omega)
      have hls:yO b.Mem.aD.Bytes (((dW (h % 32) (aU b.Mem.aD (h % 32))).toNat+4:Nat):Int) 4=some (ld b.Mem.aD.Bytes ((dW (h % 32) (aU b.Mem.aD (h % 32))).toNat+4) 4):=A0 hs.2.2.1 (w:=4) (by omega) (by omega) (by omega)
      rw [eo',hld,hls]
      exact⟨_,rfl,rfl⟩
  · simp only [bM hh,iC,if_true];exact⟨_,rfl,rfl⟩
end Go.Gv
end
noncomputable section
namespace Go.Gv
theorem aFY{l:List dO}(hl:l.length≤maxLen)(f:dO→Bool)(g:dO→Option Bool)(hg:∀x∈l,g x=some (f x)):lD l g=some (l.any f):=by
  obtain⟨o,e,h⟩:=GM l f (body:=lC l g) (fun k hk=>by
    simp only [lC]
    rw [if_pos (by simp;omega),aW hk,jB (nW hk hl)]
    simp only [aI,hg _ (List.getElem_mem hk)]) (by simp [lC])
  unfold lD uW
  rw [e]
  cases o with
  | brk u=>simp only at h;simp [pR,zK,h]
  | ret r=>simp only at h;simp [pR,h]
theorem OM{l:List Queue}(hl:l.length≤maxLen)(f:Queue→Bool)(g:Queue→Option Bool)(hg:∀x∈l,g x=some (f x)):gW l g=some (l.any f):=by
  obtain⟨o,e,h⟩:=GM l f (body:=jF l g) (fun k hk=>by
    simp only [jF]
    rw [if_pos (by simp;omega),aW hk,jB (nW hk hl)]
    simp only [aI,hg _ (List.getElem_mem hk)]) (by simp [jF])
  unfold gW pQ
  rw [e]
  cases o with
  | brk u=>simp only at h;simp [mB,uQ,h]
  | ret r=>simp only at h;simp [mB,h]
theorem SN{l:List aZ}(hl:l.length≤maxLen)(f:aZ→Bool)(g:aZ→Option Bool)(hg:∀x∈l,g x=some (f x)):iF l g=some (l.any f):=by
  obtain⟨o,e,h⟩:=GM l f (body:=kD l g) (fun k hk=>by
    simp only [kD]
    rw [if_pos (by simp;omega),aW hk,jB (nW hk hl)]
    simp only [aI,hg _ (List.getElem_mem hk)]) (by simp [kD])
  unfold iF sM
  rw [e]
  cases o with
  | brk u=>simp only at h;simp [oH,yN,h]
  | ret r=>simp only at h;simp [oH,h]
def A7(k:Int):Prop:=k=1∨k=2∨k=3∨k=7
instance (k:Int):Decidable (A7 k):=by unfold A7;infer_instance
def kX(o:dO):Prop:=(1≤o.Kind∧o.Kind≤7)∧(A7 o.Kind∨o.Cell=0)∧(0≤o.Cell∧o.Cell≤1)∧if o.Kind=1 then (0≤o.f8∧o.f8≤100)∧0≤o.cV∧o.cV≤65535 else o.f8=0∧o.cV=0
instance (o:dO):Decidable (kX o):=by unfold kX;infer_instance
theorem hb0(x:Int):(x == 0)=decide (x=0):=by rw [Bool.eq_iff_iff];simp
theorem aH6:A7 1:=.inl rfl
theorem aCK(k:Int):r9 k=some (decide (A7 k)):=by
  unfold r9 kA A7
  by_cases h1:k=1
  · simp [h1]
  · by_cases h2:k=2
    · simp [h2]
    · by_cases h3:k=3
      · simp [h3]
      · by_cases h7:k=7
        · simp [h7]
        · simp [h1,h2,h3,h7]
theorem aD7(o:dO):O9 o=some (decide (kX o)):=by
  unfold O9 y5 EN EO kX
  rw [bU,aCK,bU,bU,bU]
  by_cases h1:1≤o.Kind∧o.Kind≤7
  · by_cases h2:A7 o.Kind
    · by_cases h3:0≤o.Cell∧o.Cell≤1
      · by_cases h4:o.Kind=1
        · by_cases h5:0≤o.f8∧o.f8≤100 <;> simp [h1,h2,h3,h4,h5,aH6] <;> exact hb0 _
        · by_cases h5:o.f8=0 <;> simp [h1,h2,h3,h4,h5,aH6] <;> exact hb0 _
      · simp [h1,h2,h3]
    · by_cases h0:o.Cell=0
      · by_cases h4:o.Kind=1
        · exact absurd (.inl h4) h2
        · by_cases h5:o.f8=0 <;> simp [h1,h2,h0,h4,h5,aH6] <;> exact hb0 _
      · simp [h1,h2,h0]
  · simp [h1]
theorem SO(o:dO):FL o=some (decide (kX o)):=by
  have key:∀x,mW o x=if 1≤o.Kind∧o.Kind≤7 then (if x then some (decide ((0≤o.Cell∧o.Cell≤1)∧if o.Kind=1 then (0≤o.f8∧o.f8≤100)∧0≤o.cV∧o.cV≤65535 else o.f8=0∧o.cV=0):Bool) else some (decide (o.Cell=0∧if o.Kind=1 then (0≤o.f8∧o.f8≤100)∧0≤o.cV∧o.cV≤65535 else o.f8=0∧o.cV=0))) else some false:=fun x=>by
    unfold mW zL EW EX
    rw [dX,dX,dX,dX]
    by_cases h1:1≤o.Kind∧o.Kind≤7
    · cases x
      · by_cases h0:o.Cell=0
        · by_cases h4:o.Kind=1
          · by_cases h5:0≤o.f8∧o.f8≤100 <;> simp [h1,h0,h4,h5,aH6] <;> exact hb0 _
          · by_cases h5:o.f8=0 <;> simp [h1,h0,h4,h5,aH6] <;> exact hb0 _
        · simp [h1,h0]
      · by_cases h3:0≤o.Cell∧o.Cell≤1
        · by_cases h4:o.Kind=1
          · by_cases h5:0≤o.f8∧o.f8≤100 <;> simp [h1,h3,h4,h5,aH6] <;> exact hb0 _
          · by_cases h5:o.f8=0 <;> simp [h1,h3,h4,h5,aH6] <;> exact hb0 _
        · simp [h1,h3]
    · simp [h1]
  have key2:FL o=mW o (decide (A7 o.Kind)):=by
    unfold FL A7
    by_cases h1:o.Kind=1
    · simp [h1]
    · by_cases h2:o.Kind=2
      · simp [h2]
      · by_cases h3:o.Kind=3
        · simp [h3]
        · have h7:(o.Kind == 7)=decide (o.Kind=1∨o.Kind=2∨o.Kind=3∨o.Kind=7):=by rw [Bool.eq_iff_iff];simp [h1,h2,h3]
          rw [if_neg (by simpa using h1),if_neg (by simpa using h2),if_neg (by simpa using h3),h7]
  rw [key2,key]
  unfold kX
  by_cases h1:1≤o.Kind∧o.Kind≤7
  · by_cases h2:A7 o.Kind
    · simp only [h1,h2,and_self,decide_true,if_true,true_or,true_and]
    · by_cases h0:o.Cell=0
      · simp [h1,h2,h0]
      · simp [h1,h2,h0]
  · simp [h1]
theorem LK(h:Int):pH h=some (decide (dQ h)):=by
  unfold pH sJ dQ
  rw [iJ]
  by_cases q:h=0 <;> simp [q]
def aFZ(l:List dO):Prop:=∀o∈l,kX o
instance (l:List dO):Decidable (aFZ l):=by unfold aFZ;infer_instance
def QOk(q:Queue):Prop:=q.hU.length≤12∧aFZ q.hU
instance (q:Queue):Decidable (QOk q):=by unfold QOk;infer_instance
def G3(l:List Queue):Prop:=l.length=3∧∀q∈l,QOk q
instance (l:List Queue):Decidable (G3 l):=by unfold G3;infer_instance
theorem aD8{l:List Queue}(hl:l.length≤maxLen):EP l=some (decide (G3 l)):=by
  unfold EP
  have inner:∀k (hk:k < l.length),l[k].hU.length≤12→loop (mE l (k:Int)) 0=some (if aFZ l[k].hU then Out.brk () else Out.ret false):=by
    intro k hk h12
    have hb:∀j (hj:j < l[k].hU.length),mE l (k:Int) (j:Int)=if kX l[k].hU[j] then some (.next ((j+1:Nat):Int)) else some (.stop (Out.ret false)):=by
      intro j hj
      simp only [mE]
      rw [aW hk,aI,if_pos (by simp;omega),aI,aW hj,aI,aD7,aI,aP (by omega) (by omega)]
      by_cases q:kX l[k].hU[j] <;> simp [q]
    have:=mR (f:=mE l (k:Int)) l[k].hU (fun j=>(j:Int)) kX (Out.brk ()) (Out.ret false) (fun j hj hp=>by rw [hb j hj,if_pos hp]) (fun j hj hp=>by rw [hb j hj,if_neg hp]) (by
      simp only [mE]
      rw [aW hk,aI,if_neg (by simp)])
    refine Eq.trans this ?_
    congr 1
  have hs:∀k (hk:k < l.length),mF l (k:Int)=if QOk l[k] then some (.next ((k+1:Nat):Int)) else some (.stop (Out.ret false)):=by
    intro k hk
    simp only [mF]
    rw [if_pos (by simp;omega),aW hk,aI]
    by_cases h12:l[k].hU.length≤12
    · rw [if_neg (by simp;omega),inner k hk h12]
      by_cases q:aFZ l[k].hU
      · rw [if_pos q,if_pos ⟨h12,q⟩]
        simp only [aI,LW,LV]
        rw [jB (nW hk hl)]
      · rw [if_neg q,if_neg (fun a=>q a.2)];rfl
    · rw [if_pos (by simp;omega),if_neg (fun a=>h12 a.1)]
  have key:loop (mF l) 0=_:=mR (f:=mF l) l (fun k=>(k:Int)) QOk (Out.brk ()) (Out.ret false) (fun k hk hp=>by rw [hs k hk,if_pos hp]) (fun k hk hp=>by rw [hs k hk,if_neg hp]) (by simp [mF])
  rw [key]
  by_cases q:∀x∈l,QOk x
  · rw [if_pos q]
    simp only [aI,LX,LU]
    congr 1;rw [Bool.eq_iff_iff];simp only [beq_iff_eq,decide_eq_true_eq]
    exact⟨fun a=>⟨by omega,q⟩,fun a=>by have:=a.1;omega⟩
  · rw [if_neg q,bM (show ¬G3 l from fun a=>q a.2)];rfl
theorem SP{l:List Queue}(hl:l.length≤maxLen)(hq:∀q∈l,q.hU.length≤maxLen):DF l=some (decide (G3 l)):=by
  have e1:∀q∈l,CN q=some (!decide (QOk q)):=by
    intro q hm
    unfold CN tT
    have e:∀x∈q.hU,wR x=some (!decide (kX x)):=fun x _=>by
      unfold wR;rw [SO];rfl
    rw [aFY (hq q hm) (fun x=>!decide (kX x)) _ e,C4]
    by_cases h:q.hU.length≤12
    · rw [if_neg (by simp;omega)]
      by_cases h2:∀x∈q.hU,kX x
      · rw [bD h2,bD (show QOk q from ⟨h,h2⟩)];rfl
      · rw [bM h2,bM (show ¬QOk q from fun a=>h2 a.2)];rfl
    · rw [if_pos (by simp;omega),bM (show ¬QOk q from fun a=>h a.1)];rfl
  unfold DF zN
  rw [OM hl (fun q=>!decide (QOk q)) _ e1,C4]
  by_cases h:l.length=3
  · rw [if_pos (by simp;omega)]
    by_cases h2:∀x∈l,QOk x
    · rw [bD h2,bD (show G3 l from ⟨h,h2⟩)];rfl
    · rw [bM h2,bM (show ¬G3 l from fun a=>h2 a.2)];rfl
  · rw [if_neg (by simp;omega),bM (show ¬G3 l from fun a=>h a.1)]
def lZ:aZ:=⟨false,⟨0,0,0,0⟩,0,0,⟨0,0,0,0,0,0,0,0,0,false⟩,0,0,0,0⟩
def JOk(j:aZ):Prop:=if j.dE then kX j.Op∧dQ j.H∧dQ j.Old else j=lZ
instance (j:aZ):Decidable (JOk j):=by unfold JOk;infer_instance
theorem DU{j:aZ}(hb:j.dE=true):JOk j↔kX j.Op∧dQ j.H∧dQ j.Old:=by unfold JOk;rw [if_pos hb]
theorem ZZ{j:aZ}(hb:j.dE=false):JOk j↔j=lZ:=by unfold JOk;rw [if_neg (by simp [hb])]
theorem aF0(j:aZ):KN j=some (decide (JOk j)):=by
  unfold KN vK
  rw [SO,LK,LK]
  cases hb:j.dE
  · rw [show decide (JOk j)=decide (j=lZ) from decide_eq_decide.2 (ZZ hb)];rfl
  · rw [show decide (JOk j)=decide (kX j.Op∧dQ j.H∧dQ j.Old) from decide_eq_decide.2 (DU hb)]
    by_cases h1:kX j.Op
    · by_cases h2:dQ j.H <;> simp [h1,h2]
    · simp [h1]
def yT(s:aE):Prop:=pB s.aA∧s.Cells.length=2∧s.aV.length=3∧G3 s.cL∧(0≤s.aG∧s.aG≤1000000)∧(∀h∈s.Cells,dQ h)∧∀j∈s.aV,JOk j
instance (s:aE):Decidable (yT s):=by unfold yT;infer_instance
noncomputable section
variable {s:aE} (hf:s.aA.Mem.aD.Bytes.length≤maxLen∧(cX s.aA.Mem.aB).length≤1073741824∧s.aA.aC.cK.length≤maxLen∧s.aA.aO.length≤maxLen∧(bZ s.aA.aO).length≤1073741824∧s.aA.m7.length≤maxLen) (ht:s.cL.length≤maxLen) (hq:∀q∈s.cL,q.hU.length≤maxLen) (hcl:s.Cells.length≤maxLen) (hjl:s.aV.length≤maxLen)
include hf ht
include hq hcl hjl
theorem WK:zP s=some (decide (yT s)):=by
  have e1:sL=fun x=>some (!decide (dQ x)):=funext fun x=>by unfold sL;rw [LK];rfl
  have e2:∀x∈s.aV,zO x=some (!decide (JOk x)):=fun x _=>by unfold zO;rw [aF0];rfl
  unfold zP hO
  rw [ZO hf,SP ht hq,dX,show(fun y0=>sL y0)=fun x=>some (!decide (dQ x)) from e1,A1 hcl,C4,SN hjl _ _ e2,C4]
  by_cases h1:pB s.aA
  · by_cases h2:s.Cells.length=2
    · by_cases h3:s.aV.length=3
      · have c2:((s.Cells.length:Int) == 2)=true:=by simp;omega
        have c3:((s.aV.length:Int) == 3)=true:=by simp;omega
        by_cases h4:G3 s.cL
        · by_cases h5:0≤s.aG∧s.aG≤1000000
          · by_cases q2:∀h∈s.Cells,dQ h
            · by_cases q3:∀j∈s.aV,JOk j
              · rw [bD (show yT s from ⟨h1,h2,h3,h4,h5,q2,q3⟩)]
                simp only [bD h1,bD h4,bD h5,bD q2,bD q3,c2,c3,aI,dJ,iC,aL,if_false,if_true]
              · rw [bM (fun a:yT s=>q3 a.2.2.2.2.2.2)]
                simp only [bD h1,bD h4,bD h5,bD q2,bM q3,c2,c3,aI,dJ,iC,aL,if_false,if_true]
            · rw [bM (fun a:yT s=>q2 a.2.2.2.2.2.1)]
              simp only [bD h1,bD h4,bD h5,bM q2,c2,c3,aI,dJ,iC,aL,if_false,if_true]
          · rw [bM (fun a:yT s=>h5 a.2.2.2.2.1)]
            simp only [bD h1,bD h4,bM h5,c2,c3,aI,aL,if_false,if_true]
        · rw [bM (fun a:yT s=>h4 a.2.2.2.1)]
          simp only [bD h1,bM h4,c2,c3,aI,aL,if_false,if_true]
      · rw [bM (fun a:yT s=>h3 a.2.2.1)]
        have c2:((s.Cells.length:Int) == 2)=true:=by simp;omega
        have c3:((s.aV.length:Int) == 3)=false:=by simp;omega
        simp only [bD h1,c2,c3,aI,aL,if_false,if_true]
    · rw [bM (fun a:yT s=>h2 a.2.1)]
      have c2:((s.Cells.length:Int) == 2)=false:=by simp;omega
      simp only [bD h1,c2,aI,aL,if_false,if_true]
  · rw [bM (fun a:yT s=>h1 a.1)];simp only [bM h1,aI,aL,if_false]
end
end Go.Gv
end
noncomputable section
namespace Go.Gv
theorem GR{α:Type}{l:List α}{w:Int}(h0:0≤w)(h1:w < l.length)(x:α):idx (l.set w.toNat x) w=some x:=by
  unfold idx
  rw [if_pos h0,List.getElem?_set_self (by omega)]
theorem fW{a b:Int}(h:¬a=b):(a == b)=false:=by simpa using h
theorem LL{a b:Int}(h:¬a=b):(a != b)=true:=by simpa using h
theorem aF1{c:aC}(hc:GX c){w:Int}(hw:0≤w∧w≤2):∃r,BV c w=some r∧KR c w=some r∧GX r.1∧r.1.aJ=c.aJ:=by
  obtain⟨p,hp,hpk⟩:=T1 hc hw
  unfold BV KR
  rw [lN hc.small.1,wG hc.small.1,i7,qT hc.small.2,j5,bU,bD hc,bD hw]
  simp only [aI,dJ,aL,if_false,hp,v8,vO]
  cases p.On with
  | true =>
    simp only [dJ,aL,if_false]
    have h0:=hc.1
    exact⟨_,rfl,rfl,hc.aD1 ⟨by simp only;omega,by simp,fun _=>rfl⟩,rfl⟩
  | false=>simp only [iC,if_true];exact⟨_,rfl,rfl,hc,rfl⟩
theorem GL.set{z:List Int}(hz:GL z)(k:Nat){h:Int}(hh:dQ h):GL (z.set k h):=⟨by simpa using hz.1,fun q hq=>(List.mem_or_eq_of_mem_set hq).elim (hz.2 q) (fun e=>e ▸ hh)⟩
theorem aH7{z:List Int}(hz:GL z){w:Int}(hw:0≤w∧w≤2)(h:Int):∃r,AT z w h=some r∧E8 z w h=some r∧GL r.1:=by
  have h3:=hz.1
  have hx:idx z w=some (z[w.toNat]'(by omega)):=fD hw.1 (by omega)
  unfold AT E8
  rw [BY (by omega),m9 (by omega),C7 (by simp only [maxLen];omega),IW (by simp only [maxLen];omega),bD hz,bU,j5,bD hw,eJ,iJ]
  simp only [aI,dJ,aL,if_false,qS,qL,hx]
  by_cases q:jA h
  · simp only [bD q,dJ,aL,if_false];exact⟨_,rfl,rfl,hz.set _ (.inr q)⟩
  · simp only [bM q,iC,if_true];exact⟨_,rfl,rfl,hz⟩
theorem aPF{z:List Int}(hz:GL z){w:Int}(hw:0≤w∧w≤2):∃r,GC z w=some r∧KS z w=some r∧GL r.1:=by
  have h3:=hz.1
  have hx:idx z w=some (z[w.toNat]'(by omega)):=fD hw.1 (by omega)
  unfold GC KS
  rw [BY (by omega),m9 (by omega),C7 (by simp only [maxLen];omega),IW (by simp only [maxLen];omega),bD hz,bU,j5,bD hw]
  simp only [aI,dJ,aL,if_false,v9,vP,hx]
  by_cases q:(z[w.toNat]'(by omega))=0
  · simp only [q,beq_self_eq_true,if_true];exact⟨_,rfl,rfl,hz⟩
  · simp only [fW q,aL,if_false];exact⟨_,rfl,rfl,hz.set _ (.inl rfl)⟩
theorem pB.clock{b:aA}(hb:pB b){cl:aC}(h:GX cl)(e:b.aC.aJ≤cl.aJ):pB ⟨b.Mem,cl,b.aO,b.m7⟩:=⟨⟨hb.1.1,h,hb.1.2.2⟩,fun r hr=>⟨(hb.2 r hr).1,Int.le_trans (hb.2 r hr).2 e⟩⟩
theorem pB.haz{b:aA}(hb:pB b){z:List Int}(h:GL z):pB ⟨b.Mem,b.aC,b.aO,z⟩:=⟨⟨hb.1.1,hb.1.2.1,hb.1.2.2.1,h⟩,hb.2⟩
theorem pB.mem{b:aA}(hb:pB b){m:Mem}(h:uT b.Mem m (-1)):pB ⟨m,b.aC,b.aO,b.m7⟩:=⟨⟨h.1,hb.1.2⟩,fun r hr=>⟨h.live (hb.2 r hr).1 (by have:=(hb.2 r hr).1.1;unfold jA at this;omega),(hb.2 r hr).2⟩⟩
theorem yT.put{s:aE}(hs:yT s){w:Int}{b:aA}(hb:pB b){c:List Int}(hc:c.length=2∧∀h∈c,dQ h){j:aZ}(hj:JOk j)(l:List Ev):yT ⟨b,c,s.aV.set w.toNat j,s.cL,l,s.aG⟩:=
  ⟨hb,hc.1,by simpa using hs.2.2.1,hs.2.2.2.1,hs.2.2.2.2.1,hc.2,fun q hq=>(List.mem_or_eq_of_mem_set hq).elim (hs.2.2.2.2.2.2 q) (fun e=>e ▸ hj)⟩
theorem cS{j:aZ}(h:j.dE=true)(h1:kX j.Op∧dQ j.H∧dQ j.Old):JOk j:=(DU h).2 h1
noncomputable section
variable {s:aE} (hs:yT s) (hl:s.Log.length≤1000000000) {w:Int} (hw:0≤w∧w≤2) {j:aZ} (hj:idx s.aV w=some j) (hb:j.dE=true) (hjo:kX j.Op∧dQ j.H∧dQ j.Old)
include hs hl hw hj hb hjo
theorem aVS(hk:j.Op.Kind=1):∃x,((DN s w j).bind fun q=>cH w q.1 q.2)=some x∧z8 s w=some x∧yT x∧x.Log.length≤s.Log.length+1:=by
  have h3:=hs.2.2.1
  have hset:∀x,idx (s.aV.set w.toNat x) w=some x:=GR hw.1 (by omega)
  have hn:∀(e:Ev) {α:Type} (k:Option α),need (s.Log.length + [e].length≤1073741824) k=k:=fun e _ k=>aR (by simp;omega) k
  have hcs:s.Cells.length=2∧∀h∈s.Cells,dQ h:=⟨hs.2.1,hs.2.2.2.2.2.1⟩
  have hcell:idx s.Cells j.Op.Cell=some (s.Cells[j.Op.Cell.toNat]'(by have:=hjo.1.2.2.1;omega)):=fD hjo.1.2.2.1.1 (by have:=hjo.1.2.2.1;omega)
  have hcm:dQ (s.Cells[j.Op.Cell.toNat]'(by have:=hjo.1.2.2.1;omega)):=hcs.2 _ (List.getElem_mem _)
  generalize (s.Cells[j.Op.Cell.toNat]'(by have:=hjo.1.2.2.1;omega))=cell at hcell hcm
  have hval:0≤j.Op.cV∧j.Op.cV≤65535:=by have:=hjo.1.2.2.2;rw [if_pos hk] at this;exact this.2
  unfold DN z8
  rw [hj]
  simp only [aI,bA,bH,cW,cH,gD,iZ]
  by_cases p0:j.Pc=0
  · obtain⟨x,y,e1,e2,hx⟩:=step_eq hs.1 hs.1.small hw j.Sub
    simp only [p0,beq_self_eq_true,if_true,e1,e2,aI]
    cases hd:y.cE with
    | false=>simp only [iC,if_true,aI,hj];exact⟨_,rfl,rfl,hs.put hx hcs (by exact cS hb hjo) _,Nat.le_succ _⟩
    | true =>
      simp only [dJ,aL,if_false]
      by_cases c0:y.Code=0
      · simp only [c0,bne_self_eq_false,aL,if_false,eJ,iJ,aI]
        by_cases o0:jA y.Out
        · simp only [bD o0,dJ,aL,if_false,aI,hj];exact⟨_,rfl,rfl,hs.put hx hcs (by exact cS hb ⟨hjo.1,.inr o0,hjo.2.2⟩) _,Nat.le_succ _⟩
        · simp only [bM o0,iC,if_true,aI,hj];exact⟨_,rfl,rfl,hs.put hx hcs (by exact cS hb hjo) _,Nat.le_succ _⟩
      · simp only [LL c0,if_true,aI,hj];exact⟨_,rfl,rfl,hs.put hx hcs (by exact cS hb hjo) _,Nat.le_succ _⟩
  simp only [fW p0,aL,if_false]
  by_cases p1:j.Pc=1
  · obtain⟨x,c,e1,e2,h1,h2⟩:=aH4 hs.1.1.1 (h:=j.H) hval
    simp only [p1,beq_self_eq_true,if_true,e1,e2,aI,zZ,hj,bH,cW]
    by_cases c0:c=0
    · simp only [c0,bne_self_eq_false,aL,if_false,aI,hj];exact⟨_,rfl,rfl,hs.put (hs.1.mem h1) hcs (by exact cS hb hjo) _,Nat.le_succ _⟩
    · have:=h2 c0
      subst this
      simp only [LL c0,if_true,aI,hj];exact⟨_,rfl,rfl,hs.put hs.1 hcs (by exact cS hb hjo) _,Nat.le_succ _⟩
  simp only [fW p1,aL,if_false]
  by_cases p2:j.Pc=2
  · have hc2:(s.Cells.set j.Op.Cell.toNat j.H).length=2∧∀h∈s.Cells.set j.Op.Cell.toNat j.H,dQ h:=⟨by simpa using hcs.1,fun q hq=>(List.mem_or_eq_of_mem_set hq).elim (hcs.2 q) (fun e=>e ▸ hjo.2.1)⟩
    simp only [p2,beq_self_eq_true,if_true,hcell,aI,hset,hn,z7,cT,dB,z6,bH,cW,iZ]
    by_cases c0:cell=0
    · simp only [c0,beq_self_eq_true,if_true,aI,hj,List.set_set];exact⟨_,rfl,rfl,hs.put hs.1 hc2 (by exact cS hb ⟨hjo.1,hjo.2.1,.inl rfl⟩) _,by simp⟩
    · simp only [fW c0,aL,if_false,aI,hj,List.set_set];exact⟨_,rfl,rfl,hs.put hs.1 hc2 (by exact cS hb ⟨hjo.1,hjo.2.1,hcm⟩) _,by simp⟩
  simp only [fW p2,aL,if_false]
  by_cases p3:j.Pc=3
  · obtain⟨x,y,e1,e2,hx⟩:=step_eq hs.1 hs.1.small hw j.Sub
    simp only [p3,beq_self_eq_true,if_true,e1,e2,aI]
    cases hd:y.cE with
    | false=>simp only [iC,if_true,aL,if_false,aI,hj];exact⟨_,rfl,rfl,hs.put hx hcs (by exact cS hb hjo) _,Nat.le_succ _⟩
    | true=>simp only [dJ,if_true,aL,if_false,aI,hj];exact⟨_,rfl,rfl,hs.put hx hcs (by exact cS hb hjo) _,Nat.le_succ _⟩
  simp only [fW p3,aL,if_false,aI,hj]
  exact⟨_,rfl,rfl,hs.put hs.1 hcs (by exact cS hb hjo) _,Nat.le_succ _⟩
theorem get_eq(hk:j.Op.Kind=2):∃x,((DO s w j).bind fun q=>cH w q.1 q.2)=some x∧z9 s w=some x∧yT x∧x.Log.length≤s.Log.length+1:=by
  have h3:=hs.2.2.1
  have hset:∀x,idx (s.aV.set w.toNat x) w=some x:=GR hw.1 (by omega)
  have hn:∀(e:Ev) {α:Type} (k:Option α),need (s.Log.length + [e].length≤1073741824) k=k:=fun e _ k=>aR (by simp;omega) k
  have hcs:s.Cells.length=2∧∀h∈s.Cells,dQ h:=⟨hs.2.1,hs.2.2.2.2.2.1⟩
  have hcell:idx s.Cells j.Op.Cell=some (s.Cells[j.Op.Cell.toNat]'(by have:=hjo.1.2.2.1;omega)):=fD hjo.1.2.2.1.1 (by have:=hjo.1.2.2.1;omega)
  have hcm:dQ (s.Cells[j.Op.Cell.toNat]'(by have:=hjo.1.2.2.1;omega)):=hcs.2 _ (List.getElem_mem _)
  generalize (s.Cells[j.Op.Cell.toNat]'(by have:=hjo.1.2.2.1;omega))=cell at hcell hcm
  obtain⟨pn,hpn,_⟩:=T1 hs.1.1.2.1 hw
  unfold DO z9
  rw [hj]
  simp only [aI,bA,bH,cW,cH]
  by_cases p0:j.Pc=0
  · obtain⟨x,y,e1,e2,hx⟩:=step_eq hs.1 hs.1.small hw j.Sub
    simp only [p0,beq_self_eq_true,if_true,e1,e2,aI]
    cases hd:y.cE with
    | false=>simp only [iC,if_true,aL,if_false,aI,hj];exact⟨_,rfl,rfl,hs.put hx hcs (by exact cS hb hjo) _,Nat.le_succ _⟩
    | true=>simp only [dJ,if_true,aL,if_false,aI,hj];exact⟨_,rfl,rfl,hs.put hx hcs (by exact cS hb hjo) _,Nat.le_succ _⟩
  simp only [fW p0,aL,if_false]
  by_cases p1:j.Pc=1
  · simp only [p1,beq_self_eq_true,if_true,hcell,aI,iS,hn,sP,hj,cT,dB,hset]
    by_cases c0:cell=0
    · simp only [c0,beq_self_eq_true,if_true,aI,hj,List.set_set];exact⟨_,rfl,rfl,hs.put hs.1 hcs (by exact cS hb ⟨hjo.1,.inl rfl,hjo.2.2⟩) _,by simp⟩
    · simp only [fW c0,aL,if_false,aI,hj,List.set_set];exact⟨_,rfl,rfl,hs.put hs.1 hcs (by exact cS hb ⟨hjo.1,hcm,hjo.2.2⟩) _,by simp⟩
  simp only [fW p1,aL,if_false]
  by_cases p2:j.Pc=2
  · obtain⟨r,e1,e2⟩:=aH5 hs.1.1.1 j.H
    simp only [p2,beq_self_eq_true,if_true,m6,kP,hj,e1,e2,aI,hset,List.set_set]
    exact⟨_,rfl,rfl,hs.put hs.1 hcs (by exact cS hb hjo) _,Nat.le_succ _⟩
  simp only [fW p2,aL,if_false]
  by_cases p3:j.Pc=3
  · simp only [p3,beq_self_eq_true,if_true,rA,kV,hj,hpn,aI,cW,pU,jH,lT,bA]
    cases pn.On with
    | false=>simp only [aL,if_false,aI,iC,if_true,hj];exact⟨_,rfl,rfl,hs.put hs.1 hcs (by exact cS hb hjo) _,Nat.le_succ _⟩
    | true =>
      simp only [if_true,aI]
      cases pn.dI with
      | false=>simp only [aL,if_false,aI,iC,dJ,if_true,hj];exact⟨_,rfl,rfl,hs.put hs.1 hcs (by exact cS hb hjo) _,Nat.le_succ _⟩
      | true=>simp only [aL,if_false,aI,iC,dJ,if_true,hj];exact⟨_,rfl,rfl,hs.put hs.1 hcs (by exact cS hb hjo) _,Nat.le_succ _⟩
  simp only [fW p3,aL,if_false]
  by_cases p4:j.Pc=4
  · obtain⟨r,e1,e2,h1,h2⟩:=aF1 hs.1.1.2.1 hw
    simp only [p4,beq_self_eq_true,if_true,e1,e2,qK,aI,hj]
    exact⟨_,rfl,rfl,hs.put (hs.1.clock h1 (by rw [h2];exact Int.le_refl _)) hcs (by exact cS hb hjo) _,Nat.le_succ _⟩
  simp only [fW p4,aL,if_false,aI,hj]
  exact⟨_,rfl,rfl,hs.put hs.1 hcs (by exact cS hb hjo) _,Nat.le_succ _⟩
theorem aVT(hk:j.Op.Kind=3):∃x,((DP s w j).bind fun q=>cH w q.1 q.2)=some x∧AD s w=some x∧yT x∧x.Log.length≤s.Log.length+1:=by
  have h3:=hs.2.2.1
  have hset:∀x,idx (s.aV.set w.toNat x) w=some x:=GR hw.1 (by omega)
  have hn:∀(e:Ev) {α:Type} (k:Option α),need (s.Log.length + [e].length≤1073741824) k=k:=fun e _ k=>aR (by simp;omega) k
  have hcs:s.Cells.length=2∧∀h∈s.Cells,dQ h:=⟨hs.2.1,hs.2.2.2.2.2.1⟩
  have hcell:idx s.Cells j.Op.Cell=some (s.Cells[j.Op.Cell.toNat]'(by have:=hjo.1.2.2.1;omega)):=fD hjo.1.2.2.1.1 (by have:=hjo.1.2.2.1;omega)
  have hcm:dQ (s.Cells[j.Op.Cell.toNat]'(by have:=hjo.1.2.2.1;omega)):=hcs.2 _ (List.getElem_mem _)
  generalize (s.Cells[j.Op.Cell.toNat]'(by have:=hjo.1.2.2.1;omega))=cell at hcell hcm
  unfold DP AD
  rw [hj]
  simp only [aI,bA,bH,cW,cH,AA,AB]
  by_cases p0:j.Pc=0
  · simp only [p0,beq_self_eq_true,if_true,hcell,aI,iS,hn,hj,cT,dB,hset]
    by_cases c0:cell=0
    · simp only [c0,beq_self_eq_true,if_true,aI,hj,List.set_set,hn];exact⟨_,rfl,rfl,hs.put hs.1 hcs (by exact cS hb ⟨hjo.1,.inl rfl,hjo.2.2⟩) _,by simp⟩
    · simp only [fW c0,aL,if_false,aI,hj,List.set_set];exact⟨_,rfl,rfl,hs.put hs.1 hcs (by exact cS hb ⟨hjo.1,hcm,hjo.2.2⟩) _,Nat.le_succ _⟩
  simp only [fW p0,aL,if_false]
  by_cases p1:j.Pc=1
  · obtain⟨r,e1,e2,h1⟩:=aH7 hs.1.1.2.2.2 hw j.H
    simp only [p1,beq_self_eq_true,if_true,e1,e2,aI,hj]
    exact⟨_,rfl,rfl,hs.put (hs.1.haz h1) hcs (by exact cS hb hjo) _,Nat.le_succ _⟩
  simp only [fW p1,aL,if_false]
  by_cases p2:j.Pc=2
  · simp only [p2,beq_self_eq_true,if_true,hcell,aI,iS,hn,hj,cT,dB]
    by_cases c0:cell=j.H
    · simp only [c0,bne_self_eq_false,aL,if_false,aI,hj];exact⟨_,rfl,rfl,hs.put hs.1 hcs (by exact cS hb hjo) _,by simp⟩
    · simp only [LL c0,if_true,aI,hj];exact⟨_,rfl,rfl,hs.put hs.1 hcs (by exact cS hb hjo) _,Nat.le_succ _⟩
  simp only [fW p2,aL,if_false]
  by_cases p3:j.Pc=3
  · obtain⟨r,e1,e2⟩:=aH5 hs.1.1.1 j.H
    simp only [p3,beq_self_eq_true,if_true,m6,kP,hj,e1,e2,aI,hset,List.set_set]
    exact⟨_,rfl,rfl,hs.put hs.1 hcs (by exact cS hb hjo) _,Nat.le_succ _⟩
  simp only [fW p3,aL,if_false]
  by_cases p4:j.Pc=4
  · obtain⟨r,e1,e2,h1⟩:=aPF hs.1.1.2.2.2 hw
    simp only [p4,beq_self_eq_true,if_true,e1,e2,aI,hj]
    exact⟨_,rfl,rfl,hs.put (hs.1.haz h1) hcs (by exact cS hb hjo) _,Nat.le_succ _⟩
  simp only [fW p4,aL,if_false,aI,hj]
  exact⟨_,rfl,rfl,hs.put hs.1 hcs (by exact cS hb hjo) _,Nat.le_succ _⟩
theorem aSK(hk:j.Op.Kind=7):∃x,((AU s w j).bind fun q=>cH w q.1 q.2)=some x∧wW s w=some x∧yT x∧x.Log.length≤s.Log.length+1:=by
  have h3:=hs.2.2.1
  have hset:∀x,idx (s.aV.set w.toNat x) w=some x:=GR hw.1 (by omega)
  have hn:∀(e:Ev) {α:Type} (k:Option α),need (s.Log.length + [e].length≤1073741824) k=k:=fun e _ k=>aR (by simp;omega) k
  have hcs:s.Cells.length=2∧∀h∈s.Cells,dQ h:=⟨hs.2.1,hs.2.2.2.2.2.1⟩
  have hcell:idx s.Cells j.Op.Cell=some (s.Cells[j.Op.Cell.toNat]'(by have:=hjo.1.2.2.1;omega)):=fD hjo.1.2.2.1.1 (by have:=hjo.1.2.2.1;omega)
  have hcm:dQ (s.Cells[j.Op.Cell.toNat]'(by have:=hjo.1.2.2.1;omega)):=hcs.2 _ (List.getElem_mem _)
  generalize (s.Cells[j.Op.Cell.toNat]'(by have:=hjo.1.2.2.1;omega))=cell at hcell hcm
  obtain⟨pn,hpn,_⟩:=T1 hs.1.1.2.1 hw
  unfold AU wW
  rw [hj,hpn]
  simp only [aI,bA,bH,cW,cH,xV,pX,pW,hj]
  by_cases p0:j.Pc=0
  · simp only [p0,beq_self_eq_true,if_true]
    cases pn.On with
    | false=>simp only [iC,if_true,aI,hj];exact⟨_,rfl,rfl,hs.put hs.1 hcs (by exact cS hb hjo) _,Nat.le_succ _⟩
    | true =>
      simp only [dJ,aL,if_false]
      cases pn.dI with
      | true=>simp only [if_true,aI,hj];exact⟨_,rfl,rfl,hs.put hs.1 hcs (by exact cS hb hjo) _,Nat.le_succ _⟩
      | false =>
        simp only [aL,if_false,hcell,aI,iS,hn,sP,hj,cT,dB,hset]
        by_cases c0:cell=0
        · simp only [c0,beq_self_eq_true,if_true,aI,hj,List.set_set];exact⟨_,rfl,rfl,hs.put hs.1 hcs (by exact cS hb ⟨hjo.1,.inl rfl,hjo.2.2⟩) _,by simp⟩
        · simp only [fW c0,aL,if_false,aI,hj,List.set_set];exact⟨_,rfl,rfl,hs.put hs.1 hcs (by exact cS hb ⟨hjo.1,hcm,hjo.2.2⟩) _,by simp⟩
  simp only [fW p0,aL,if_false,hj,aI]
  by_cases p1:j.Pc=1
  · obtain⟨r,e1,e2⟩:=aH5 hs.1.1.1 j.H
    simp only [p1,beq_self_eq_true,if_true,m6,kP,hj,e1,e2,aI,hset,List.set_set]
    exact⟨_,rfl,rfl,hs.put hs.1 hcs (by exact cS hb hjo) _,Nat.le_succ _⟩
  simp only [fW p1,aL,if_false]
  by_cases p2:j.Pc=2
  · simp only [p2,beq_self_eq_true,if_true,rA,kV,hj,hpn,aI,cW,pU,jH,lT,bA]
    cases pn.On with
    | false=>simp only [aL,if_false,aI,iC,if_true,hj];exact⟨_,rfl,rfl,hs.put hs.1 hcs (by exact cS hb hjo) _,Nat.le_succ _⟩
    | true =>
      simp only [if_true,aI]
      cases pn.dI with
      | false=>simp only [aL,if_false,aI,iC,dJ,if_true,hj];exact⟨_,rfl,rfl,hs.put hs.1 hcs (by exact cS hb hjo) _,Nat.le_succ _⟩
      | true=>simp only [aL,if_false,aI,iC,dJ,if_true,hj];exact⟨_,rfl,rfl,hs.put hs.1 hcs (by exact cS hb hjo) _,Nat.le_succ _⟩
  simp only [fW p2,aL,if_false,aI,hj]
  exact⟨_,rfl,rfl,hs.put hs.1 hcs (by exact cS hb hjo) _,Nat.le_succ _⟩
theorem aPG(hk:j.Op.Kind=4∨j.Op.Kind=5∨j.Op.Kind=6):∃x,((wA s w j).bind fun q=>cH w q.1 q.2)=some x∧uB s w=some x∧yT x∧x.Log.length≤s.Log.length+1:=by
  have h3:=hs.2.2.1
  have hset:∀x,idx (s.aV.set w.toNat x) w=some x:=GR hw.1 (by omega)
  have hcs:s.Cells.length=2∧∀h∈s.Cells,dQ h:=⟨hs.2.1,hs.2.2.2.2.2.1⟩
  obtain⟨x,y,e1,e2,hx⟩:=step_eq hs.1 hs.1.small hw j.Sub
  unfold wA uB
  rw [hj]
  simp only [aI,bA,bH,cW,cH,gD,iZ,uK,gQ,nT,nP,nS,nR,nQ,hj,e1,e2]
  rcases hk with k4 | k5 | k6
  · simp only [k4,show((4:Int) == 6)=false from rfl,show((4:Int) == 5)=false from rfl,show((4:Int) == 4)=true from rfl,aL,if_false,if_true]
    by_cases p0:j.Pc=0
    · simp only [p0,bne_self_eq_false,beq_self_eq_true,aL,if_false,if_true]
      cases hd:y.cE with
      | false=>simp only [iC,if_true,aL,if_false,aI,hj];exact⟨_,rfl,rfl,hs.put hx hcs (by exact cS hb hjo) _,Nat.le_succ _⟩
      | true=>simp only [dJ,if_true,aL,if_false,aI,hj];exact⟨_,rfl,rfl,hs.put hx hcs (by exact cS hb hjo) _,Nat.le_succ _⟩
    · simp only [LL p0,fW p0,aL,if_false,if_true]
      by_cases p1:j.Pc=1
      · simp only [p1,bne_self_eq_false,beq_self_eq_true,aL,if_false,if_true,show((1:Int) == 0)=false from rfl]
        cases hd:y.cE with
        | false=>simp only [iC,if_true,aL,if_false,aI,hj];exact⟨_,rfl,rfl,hs.put hx hcs (by exact cS hb hjo) _,Nat.le_succ _⟩
        | true=>simp only [dJ,if_true,aL,if_false,aI,hj];exact⟨_,rfl,rfl,hs.put hx hcs (by exact cS hb hjo) _,Nat.le_succ _⟩
      · simp only [LL p1,fW p1,aL,if_false,if_true,aI,hj]
        exact⟨_,rfl,rfl,hs.put hs.1 hcs (by exact cS hb hjo) _,Nat.le_succ _⟩
  · simp only [k5,show((5:Int) == 6)=false from rfl,show((5:Int) == 5)=true from rfl,show((5:Int) == 4)=false from rfl,aL,if_false,if_true]
    by_cases p0:j.Pc=0
    · simp only [p0,bne_self_eq_false,beq_self_eq_true,aL,if_false,if_true]
      cases hd:y.cE with
      | false=>simp only [iC,if_true,aL,if_false,aI,hj];exact⟨_,rfl,rfl,hs.put hx hcs (by exact cS hb hjo) _,Nat.le_succ _⟩
      | true=>simp only [dJ,if_true,aL,if_false,aI,hj];exact⟨_,rfl,rfl,hs.put hx hcs (by exact cS hb hjo) _,Nat.le_succ _⟩
    · simp only [LL p0,fW p0,aL,if_false,if_true]
      by_cases p1:j.Pc=1
      · simp only [p1,bne_self_eq_false,aL,if_false,if_true,aI,hj]
        exact⟨_,rfl,rfl,hs.put hs.1 hcs (by exact cS hb hjo) _,Nat.le_succ _⟩
      · simp only [LL p1,if_true,aI,hj]
        exact⟨_,rfl,rfl,hs.put hs.1 hcs (by exact cS hb hjo) _,Nat.le_succ _⟩
  · simp only [k6,beq_self_eq_true,show((6:Int) == 5)=false from rfl,show((6:Int) == 4)=false from rfl,aL,if_false,if_true]
    by_cases p0:j.Pc=0
    · obtain⟨r,f1,f2,h1,h2⟩:=aF1 hs.1.1.2.1 hw
      simp only [p0,beq_self_eq_true,if_true,f1,f2,qK,aI]
      cases hr:r.2 with
      | false=>simp only [iC,if_true,aI,hj];exact⟨_,rfl,rfl,hs.put (hs.1.clock h1 (by rw [h2];exact Int.le_refl _)) hcs (by exact cS hb hjo) _,Nat.le_succ _⟩
      | true=>simp only [dJ,aL,if_false,aI,hj];exact⟨_,rfl,rfl,hs.put (hs.1.clock h1 (by rw [h2];exact Int.le_refl _)) hcs (by exact cS hb hjo) _,Nat.le_succ _⟩
    · simp only [fW p0,aL,if_false,aI,hj]
      exact⟨_,rfl,rfl,hs.put hs.1 hcs (by exact cS hb hjo) _,Nat.le_succ _⟩
end
theorem aH8{l:List dO}(h:0 < l.length)(hl:l.length≤1000):tU l 0 1=some (l.drop 1):=by
  have e:=del_eq (l:=l) (k:=0) h
  unfold tU
  rw [aR (by omega),if_neg (by simp),aR (by omega),aR (by omega),aR (by omega),aR]
  · simp only [Int.toNat_zero,Int.toNat_one] at e ⊢
    rw [Nat.zero_add] at e
    rw [Nat.zero_add,e,List.eraseIdx_zero,List.drop_one]
  · rw [eY (by omega)]
    simp only [List.drop_zero,List.length_take,eY (show(0:Int).toNat≤l.length by simp)]
    omega
theorem Z0{o:dO}(ho:kX o)(ser pc:Int)(sub:Sub)(code:Int):JOk ⟨true,o,ser,pc,sub,0,0,0,code⟩:=(DU rfl).2 ⟨ho,.inl rfl,.inl rfl⟩
theorem aPH{s:aE}(hs:yT s)(hl:s.Log.length≤1000000000){w:Int}(hw:0≤w∧w≤2){j:aZ}(hj:idx s.aV w=some j):∃x,vX s w=some x∧tV s w=some x∧yT x∧x.Log.length≤s.Log.length+1:=by
  have h3:=hs.2.2.1
  have ht:=hs.2.2.2.1
  have hser:=hs.2.2.2.2.1
  have hset:∀x,idx (s.aV.set w.toNat x) w=some x:=GR hw.1 (by omega)
  have hn:∀(e:Ev) {α:Type} (k:Option α),need (s.Log.length + [e].length≤1073741824) k=k:=fun e _ k=>aR (by simp;omega) k
  have hq:idx s.cL w=some (s.cL[w.toNat]'(by have:=ht.1;omega)):=fD hw.1 (by have:=ht.1;omega)
  have hqk:QOk (s.cL[w.toNat]'(by have:=ht.1;omega)):=ht.2 _ (List.getElem_mem _)
  generalize (s.cL[w.toNat]'(by have:=ht.1;omega))=q at hq hqk
  obtain⟨pn,hpn,_⟩:=T1 hs.1.1.2.1 hw
  have ew:bC (s.aG+1)=s.aG+1:=aP (by omega) (by omega)
  unfold vX tV
  rw [hq]
  simp only [aI,uD,nM]
  by_cases l0:q.hU.length=0
  · simp only [show((q.hU.length:Int) == 0)=true by rw [l0];rfl,if_true]
    exact⟨_,rfl,rfl,hs,Nat.le_succ _⟩
  · simp only [show((q.hU.length:Int) == 0)=false from fW (by omega),aL,if_false]
    by_cases s0:s.aG=1000000
    · simp only [s0,beq_self_eq_true,if_true]
      exact⟨_,rfl,rfl,hs,Nat.le_succ _⟩
    · simp only [fW s0,aL,if_false,hq,aI]
      have hx:idx q.hU 0=some (q.hU[0]'(by omega)):=by have:=aW (l:=q.hU) (k:=0) (by omega);simpa using this
      have ho:kX (q.hU[0]'(by omega)):=hqk.2 _ (List.getElem_mem _)
      have h12:=hqk.1
      have hdel:=aH8 (l:=q.hU) (by omega) (by omega)
      generalize (q.hU[0]'(by omega))=o at hx ho
      have etk:(q.hU.take q.hU.length).drop (1:Int).toNat=q.hU.drop 1:=by rw [List.take_length];rfl
      have hT:G3 (s.cL.set w.toNat ⟨q.hU.drop 1⟩):=⟨by simpa using ht.1,fun z hz=>(List.mem_or_eq_of_mem_set hz).elim (ht.2 z) (fun e=>by
        subst e
        exact⟨by simp only [List.length_drop];omega,fun a ha=>hqk.2 a (List.mem_of_mem_drop ha)⟩)⟩
      have fin:∀(jb:aZ) (l:List Ev),JOk jb→yT ⟨s.aA,s.Cells,s.aV.set w.toNat jb,s.cL.set w.toNat ⟨q.hU.drop 1⟩,l,s.aG+1⟩:=fun jb l hjb=>
        ⟨hs.1,hs.2.1,by simpa using h3,hT,by simp only;omega,hs.2.2.2.2.2.1,fun z hz=>(List.mem_or_eq_of_mem_set hz).elim (hs.2.2.2.2.2.2 z) (fun e=>e ▸ hjb)⟩
      simp only [hx,hdel,aI,gD,iZ,ew]
      rw [aR (by omega)]
      by_cases k1:o.Kind=1
      · simp only [k1,beq_self_eq_true,if_true,eG,dT,hj,cT,dB,aI,hset,hn,etk,ew]
        exact⟨_,rfl,rfl,fin _ _ (Z0 ho _ _ _ _),by simp⟩
      simp only [fW k1,aL,if_false]
      have pin:∀z,z=true→∃x,iG s w q o z=some x∧iV s w o (q.hU.drop 1) z=some x∧yT x∧x.Log.length≤s.Log.length+1:=fun z hz=>by
        subst hz
        simp only [iG,iV,if_true,gD,iZ,hpn,aI,bH]
        cases pn.On with
        | true =>
          simp only [if_true,eG,dT,hj,cT,dB,aI,hset,hn,etk,ew]
          exact⟨_,rfl,rfl,fin _ _ (Z0 ho _ _ _ _),by simp⟩
        | false =>
          simp only [aL,if_false,eG,dT,hj,cT,dB,aI,hset,hn,etk,ew]
          exact⟨_,rfl,rfl,fin _ _ (Z0 ho _ _ _ _),by simp⟩
      by_cases k2:o.Kind=2
      · simp only [k2,beq_self_eq_true,if_true];exact pin true rfl
      simp only [fW k2,aL,if_false]
      by_cases k5:o.Kind=5
      · simp only [k5,beq_self_eq_true];exact pin true rfl
      simp only [fW k5,iG,iV,aL,if_false,gD,iZ,aI]
      by_cases k4:o.Kind=4
      · simp only [k4,beq_self_eq_true,if_true,eG,dT,hj,cT,dB,aI,hset,hn,etk,ew]
        exact⟨_,rfl,rfl,fin _ _ (Z0 ho _ _ _ _),by simp⟩
      · simp only [fW k4,aL,if_false,eG,dT,hj,cT,dB,aI,hset,hn,etk,ew]
        exact⟨_,rfl,rfl,fin _ _ (Z0 ho _ _ _ _),by simp⟩
theorem aD9{s:aE}(hs:yT s)(hl:s.Log.length≤1000000000){w:Int}(hw:0≤w∧w≤2):∃x,K7 s w=some x∧mH s w=some x∧yT x∧x.Log.length≤s.Log.length+1:=by
  have h3:=hs.2.2.1
  have hset:∀x,idx (s.aV.set w.toNat x) w=some x:=GR hw.1 (by omega)
  have hn:∀(e:Ev) {α:Type} (k:Option α),need (s.Log.length + [e].length≤1073741824) k=k:=fun e _ k=>aR (by simp;omega) k
  have hj:idx s.aV w=some (s.aV[w.toNat]'(by omega)):=fD hw.1 (by omega)
  have hjk:JOk (s.aV[w.toNat]'(by omega)):=hs.2.2.2.2.2.2 _ (List.getElem_mem _)
  generalize (s.aV[w.toNat]'(by omega))=j at hj hjk
  unfold K7 mH
  rw [hj]
  simp only [aI]
  cases hb:j.dE with
  | false =>
    obtain⟨x,e1,e2,e3,e4⟩:=aPH hs hl hw hj
    simp only [iC,if_true,e1,e2,aI]
    exact⟨_,rfl,rfl,e3,e4⟩
  | true =>
    have hjo:=(DU hb).1 hjk
    simp only [dJ,aL,if_false]
    by_cases p9:j.Pc=9
    · simp only [p9,beq_self_eq_true,if_true,hn,cT,dB,hj,aI]
      exact⟨_,rfl,rfl,hs.put hs.1 ⟨hs.2.1,hs.2.2.2.2.2.1⟩ ((ZZ rfl).2 rfl) _,by simp⟩
    simp only [fW p9,aL,if_false]
    have close:∀{A B:Option aE} {x:aE},A=some x→B=some x→yT x→x.Log.length≤s.Log.length+1→∃x,A=some x∧(B.bind fun z=>some z)=some x∧yT x∧x.Log.length≤s.Log.length+1:=fun h1 h2 h3 h4=>⟨_,h1,by rw [h2];rfl,h3,h4⟩
    by_cases k1:j.Op.Kind=1
    · obtain⟨x,e1,e2,e3,e4⟩:=aVS hs hl hw hj hb hjo k1
      simp only [k1,beq_self_eq_true,if_true];exact close e1 e2 e3 e4
    simp only [fW k1,aL,if_false]
    by_cases k2:j.Op.Kind=2
    · obtain⟨x,e1,e2,e3,e4⟩:=get_eq hs hl hw hj hb hjo k2
      simp only [k2,beq_self_eq_true,if_true];exact close e1 e2 e3 e4
    simp only [fW k2,aL,if_false]
    by_cases k3:j.Op.Kind=3
    · obtain⟨x,e1,e2,e3,e4⟩:=aVT hs hl hw hj hb hjo k3
      simp only [k3,beq_self_eq_true,if_true];exact close e1 e2 e3 e4
    simp only [fW k3,aL,if_false]
    by_cases k7:j.Op.Kind=7
    · obtain⟨x,e1,e2,e3,e4⟩:=aSK hs hl hw hj hb hjo k7
      simp only [k7,beq_self_eq_true,if_true];exact close e1 e2 e3 e4
    simp only [fW k7,aL,if_false]
    have hkr:=hjo.1.1
    obtain⟨x,e1,e2,e3,e4⟩:=aPG hs hl hw hj hb hjo (by omega)
    exact close e1 e2 e3 e4
end Go.Gv
end
noncomputable section
namespace Go.Gv
def pC(s:Sub)(code:Int):Sub:={s with Code:=code,cE:=true}
def vA(n:Int):Int:=if 1≤n∧n≤8 then 0 else if 1≤n∧n≤16 then 1 else if 1≤n∧n≤40 then 2 else -1
theorem Z1(n:Int):-1≤vA n∧vA n≤2:=by unfold vA;split <;> (try split) <;> (try split) <;> omega
theorem aLD(n:Int):AK n=some (vA n):=by
  have s1:∀k,0≤k∧k≤2→eU n k=some (if 1≤n∧n≤fY k then .stop (Out.ret k) else .next (k+1)):=fun k hk=>by
    simp only [eU]
    rw [if_pos (by simp;omega),oW,aI,bU,aI,aP (by omega) (by omega)]
    by_cases q:1≤n∧n≤fY k
    · rw [bD q,if_pos rfl,if_pos q]
    · rw [bM q,if_neg (by simp),if_neg q]
  have z0:fY 0=8:=rfl
  have z1:fY 1=16:=rfl
  have z2:fY 2=40:=rfl
  unfold AK vA
  by_cases q0:1≤n∧n≤8
  · rw [bV (by rw [s1 0 (by omega),if_pos (by omega)]),if_pos q0];rfl
  · rw [b8 (by rw [s1 0 (by omega),if_neg (by omega)]),if_neg q0,show(0:Int)+1=1 from rfl]
    by_cases q1:1≤n∧n≤16
    · rw [bV (by rw [s1 1 (by omega),if_pos (by omega)]),if_pos q1];rfl
    · rw [b8 (by rw [s1 1 (by omega),if_neg (by omega)]),if_neg q1,show(1:Int)+1=2 from rfl]
      by_cases q2:1≤n∧n≤40
      · rw [bV (by rw [s1 2 (by omega),if_pos (by omega)]),if_pos q2];rfl
      · rw [b8 (by rw [s1 2 (by omega),if_neg (by omega)]),if_neg q2,show(2:Int)+1=3 from rfl,bV (body:=eU n) (r:=Out.brk ()) (by simp [eU])];rfl
def GS(l:List Int):List Int×Int:=(l.dropLast,l.getLastD (-1))
theorem W9{s:aN}(h:s.aQ.length≤1048576):pY s=some (⟨(GS s.aQ).1⟩,(GS s.aQ).2):=by
  unfold pY IK GS
  obtain⟨l⟩:=s
  rcases List.eq_nil_or_concat l with rfl | ⟨L,b,rfl⟩
  · rfl
  · simp only [List.concat_eq_append] at h ⊢
    have hl:(L ++ [b]).length=L.length+1:=by simp
    rw [hl,aP (by omega) (by omega),show((L.length+1:Nat):Int) - 1=(L.length:Int) by omega,if_neg (by simp;omega),aR (by omega),aW (by rw [hl];omega)]
    simp
def A8(m:Mem)(w c:Int):Mem×Int:=(⟨m.aD,⟨m.aB.Global,m.aB.Own.set (w * 3+c).toNat ⟨(GS (dF m.aB.Own (w * 3+c).toNat)).1⟩⟩⟩,(GS (dF m.aB.Own (w * 3+c).toNat)).2)
def rD(m:Mem)(c:Int):Mem×Int:=(⟨m.aD,⟨m.aB.Global.set c.toNat ⟨(GS (dF m.aB.Global c.toNat)).1⟩,m.aB.Own⟩⟩,(GS (dF m.aB.Global c.toNat)).2)
def SQ(h:aD):Nat:=h.Class.findIdx (fun x=>decide (x = -1))
def EC(m:Mem)(c:Int):Mem×Int:=if SQ m.aD=6 then (m,-1) else
  (⟨⟨gB m.aD.Bytes (SQ m.aD) c (bP c).toNat,m.aD.Class.set (SQ m.aD) c⟩,⟨m.aB.Global.set c.toNat ⟨dF m.aB.Global c.toNat++(gS (SQ m.aD) (bP c).toNat).drop 1⟩,m.aB.Own⟩⟩,(SQ m.aD:Int) * 4)
theorem aPI{h:aD}(hs:fF h):SQ h≤6:=by rw [←hs.2.1];exact List.findIdx_le_length
theorem aPJ{h:aD}(hs:fF h)(hq:SQ h≠6):SQ h < 6∧bL h (SQ h) = -1:=by
  have h6:=hs.2.1
  have hlt:SQ h < 6:=by have:=aPI hs;omega
  refine⟨hlt,?_⟩
  rw [←PC hs hlt]
  have:=List.findIdx_getElem (xs:=h.Class) (p:=fun x=>decide (x = -1)) (w:=by show SQ h < _;omega)
  exact of_decide_eq_true this
theorem aSL{h:aD}(hs:fF h):∀j (hj:j < 6),j < SQ h→bL h j≠-1:=fun j hj hlt=>by
  have:=List.not_of_lt_findIdx hlt
  rw [←PC hs hj]
  simpa using this
theorem aVU{h:aD}(hh:P8 h){c:Int}(hc:0≤c∧c≤2):pZ h c=some (if SQ h=6 then (h,[]) else (⟨gB h.Bytes (SQ h) c (bP c).toNat,h.Class.set (SQ h) c⟩,gS (SQ h) (bP c).toNat)):=by
  have hs:=hh.1
  have h6:=hs.2.1
  have h384:=hs.1
  have hle:=aPI hs
  have s1:∀k (hk:k < SQ h),eI h c (k:Int)=some (.next ((k+1:Nat):Int)):=fun k hk=>by
    have n:(h.Class[k] != -1)=true:=by
      have:=aSL hs k (by omega) hk
      rw [←PC hs (by omega)] at this
      simpa using this
    simp only [eI,D8]
    rw [if_pos (by simp;omega),aW (by omega),aI,n,if_pos rfl,aP (by omega) (by omega)];rfl
  unfold pZ
  by_cases hq:SQ h=6
  · have a1:loop (eI h c) 0=some (Out.brk ()):=iU (SQ h) (fun k=>(k:Int)) _ s1 (by simp only [eI];rw [if_neg (by simp;omega)])
    rw [a1,if_pos hq];rfl
  · obtain⟨hlt,he⟩:=aPJ hs hq
    rw [←PC hs hlt] at he
    generalize hqq:SQ h=q at *
    have a1:loop (eI h c) 0=some (Out.ret (⟨gB h.Bytes q c (bP c).toNat,h.Class.set q c⟩,gS q (bP c).toNat)):=iU q (fun k=>(k:Int)) _ s1 (by
      have e0:bC ((q:Int) * 64)=((q * 64:Nat):Int):=by rw [aP (by omega) (by omega)];omega
      have e1:bC (((q * 64:Nat):Int)+1)=((q * 64+1:Nat):Int):=by rw [aP (by omega) (by omega)];omega
      have e2:bC (((q * 64:Nat):Int)+2)=((q * 64+2:Nat):Int):=by rw [aP (by omega) (by omega)];omega
      have n:(h.Class[q] != -1)=false:=by simpa using he
      simp only [eI,e0,e1,e2,Int.toNat_natCast]
      rw [if_pos (by simp;omega),aW (by omega),aI,n,if_neg (by simp),aW (by omega),aI,aW (by simp;omega),aI,gN,aI,aW (by simp;omega),aI]
      have:=ZS h384 hlt hc
      simp only [gB] at this
      rw [this];rfl)
    rw [a1,if_neg hq];rfl
theorem aLE{m:Mem}(hm:mD m){c:Int}(hc:0≤c∧c≤2):AL m c=some (EC m c):=by
  have h3:=hm.1.2.1
  have hpp:0 < bP c:=gG.2 hc
  have hp4:=lI c
  obtain⟨_,_,_,_,_,_,_,_,hsG,_⟩:=mD.facts hm
  unfold AL EC
  rw [aVU hm.1.1 hc]
  by_cases hq:SQ m.aD=6
  · simp only [if_pos hq,aI];rfl
  · have hk:c.toNat < m.aB.Global.length:=by omega
    have hg0:=hsG _ (List.getElem_mem hk)
    have hx:idx m.aB.Global c=some m.aB.Global[c.toNat]:=fD hc.1 (by omega)
    have hz:idx (gS (SQ m.aD) (bP c).toNat) 0=some ((SQ m.aD:Int) * 4):=by
      have:=aW (l:=gS (SQ m.aD) (bP c).toNat) (k:=0) (by rw [GP];omega)
      rw [show((0:Nat):Int)=0 from rfl] at this
      rw [this];simp [gS]
    have hn:(((bP c).toNat:Int) == 0)=false:=by simpa using (by omega:¬((bP c).toNat:Int)=0)
    have ht:(gS (SQ m.aD) (bP c).toNat).take (bP c).toNat=gS (SQ m.aD) (bP c).toNat:=List.take_of_length_le (by rw [GP];omega)
    have hd:((gS (SQ m.aD) (bP c).toNat).drop 1).length≤4:=by rw [List.length_drop,GP];omega
    simp only [if_neg hq,aI,GP,hn,aL,if_false,hx,hz,D9,ht]
    rw [aR (by omega),aR (by simp only [List.length_drop,GP,Int.toNat_one];omega),cY hk];rfl
def aH9(m:Mem)(s:Int):Int:=if 1≤gR m.aD s∧gR m.aD s≤6 then gR m.aD s * 32+s else 0
theorem aSM{m:Mem}(hs:fF m.aD){s:Int}(hc:0≤aU m.aD s):vY m s=some (aH9 m s):=by
  unfold vY IL uF aH9
  rw [nE hs hc,aI,bU,bU]
  have h1:=(nU hc).1
  simp only [bD h1,aI,dJ,aL,if_false]
  by_cases q:1≤gR m.aD s∧gR m.aD s≤6
  · simp only [bD q,dJ,aL,if_false,if_pos q]
    rw [aP (x:=gR m.aD s * 32) (by omega) (by omega),aP (by omega) (by omega)];rfl
  · simp only [bM q,iC,if_true,if_neg q];rfl
def A9(b:aA)(s:Sub)(p:Mem×Int):aA×Sub:=
  if 0≤p.2 then ({b with Mem:=p.1},pC {s with Out:=aH9 p.1 p.2} 0) else if s.Pc=3 then ({b with Mem:=p.1},pC s 3) else ({b with Mem:=p.1},{s with Pc:=s.Pc+1})
def IZ(b:aA)(w:Int)(s:Sub):aA×Sub:=
  if vA s.A < 0 then (b,pC s 2)
  else if s.Pc=0 then A9 b s (A8 b.Mem w (vA s.A))
  else if s.Pc=1∨s.Pc=3 then A9 b s (rD b.Mem (vA s.A))
  else if s.Pc=2 then A9 b s (EC b.Mem (vA s.A))
  else (b,pC s 1)
theorem aLF{b:aA}(hm:mD b.Mem){w:Int}(hw:0≤w∧w≤2)(s:Sub):vZ b w s=some (IZ b w s):=by
  obtain⟨hcnt,h3,h9,h1,h2,hsm,hcp,hlo,hsG,hsO⟩:=mD.facts hm
  have hs:=hm.1.1.1
  have hr:=Z1 s.A
  unfold vZ IZ
  rw [aLD]
  simp only [aI]
  by_cases c0:vA s.A < 0
  · simp only [bD c0,if_true,bG,if_pos c0];rfl
  generalize vA s.A=c at *
  have hc:0≤c∧c≤2:=by omega
  simp only [bM c0,aL,if_false,if_neg c0]
  have fin:∀(p:Mem×Int),-1≤p.2→(0≤p.2→fF p.1.aD∧0≤aU p.1.aD p.2)→s.Pc≤3∧0≤s.Pc→iH s p.2 ⟨p.1,b.aC,b.aO,b.m7⟩=some (A9 b s p):=by
    intro p hp hx hpc
    unfold iH A9
    simp only [uG,K5,bG]
    by_cases x0:0≤p.2
    · rw [bM (show ¬p.2 < 0 by omega),bD x0]
      simp only [aL,if_false,if_true,if_pos x0,aSM (hx x0).1 (hx x0).2,aI];rfl
    · rw [bD (show p.2 < 0 by omega),bM x0]
      by_cases p3:s.Pc=3
      · have p3':(s.Pc == 3)=true:=by simpa using p3
        simp only [p3',if_true,if_neg x0,if_pos p3,aI];rfl
      · have p3':(s.Pc == 3)=false:=by simpa using p3
        have e:bC (s.Pc+1)=s.Pc+1:=aP (by omega) (by omega)
        simp only [p3',if_true,aL,if_false,if_neg x0,if_neg p3,aI,e]
  have popL:∀l:List Int,-1≤(GS l).2∨(GS l).2∈l:=fun l=>by
    unfold GS
    rcases List.eq_nil_or_concat l with rfl | ⟨L,b,rfl⟩
    · left;simp
    · right;simp
  by_cases p0:s.Pc=0
  · have hk:(w * 3+c).toNat < b.Mem.aB.Own.length:=by omega
    have hx:idx b.Mem.aB.Own (w * 3+c)=some b.Mem.aB.Own[(w * 3+c).toNat]:=fD (by omega) (by omega)
    obtain⟨l,t,x,e1,e2,e3,g1,g2,g3⟩:=ZW hm hw hc
    have hl:=hsO _ (List.getElem_mem hk)
    rw [hx] at e1;cases e1
    rw [W9 (by omega)] at e2
    have ep:A8 b.Mem w c=(⟨b.Mem.aD,⟨b.Mem.aB.Global,b.Mem.aB.Own.set (w * 3+c).toNat t⟩⟩,x):=by
      unfold A8
      rw [←cY hk]
      injection e2 with e2;injection e2 with e4 e5
      rw [←e4,←e5]
    have hx0:-1≤x:=by
      injection e2 with e2;injection e2 with e4 e5
      rcases popL b.Mem.aB.Own[(w * 3+c).toNat].aQ with h | h
      · rw [←e5];exact h
      · rw [←e5];have:=hm.1.2.2.2.2.1 _ (List.mem_append_right _ (List.mem_flatMap.2 ⟨_,List.getElem_mem hk,h⟩));omega
    have p0':(s.Pc == 0)=true:=by simpa using p0
    have:=fin (A8 b.Mem w c) (by rw [ep];exact hx0) (by rw [ep];exact fun h=>⟨hs,g2 h⟩) (by omega)
    rw [ep] at this
    simp only [p0',if_true,if_pos p0,(J7 hw hc).1,aI,hx]
    rw [W9 (show b.Mem.aB.Own[(w * 3+c).toNat].aQ.length≤1048576 by omega),e2,aI,ep]
    exact this
  · have p0':(s.Pc == 0)=false:=by simpa using p0
    simp only [p0',aL,if_false,uH,if_neg p0]
    have hk:c.toNat < b.Mem.aB.Global.length:=by omega
    have hx:idx b.Mem.aB.Global c=some b.Mem.aB.Global[c.toNat]:=fD (by omega) (by omega)
    obtain⟨l,t,x,e1,e2,e3,g1,g2,g3⟩:=QG hm hc
    have hl:=hsG _ (List.getElem_mem hk)
    rw [hx] at e1;cases e1
    rw [W9 (by omega)] at e2
    have ep:rD b.Mem c=(⟨b.Mem.aD,⟨b.Mem.aB.Global.set c.toNat t,b.Mem.aB.Own⟩⟩,x):=by
      unfold rD
      rw [←cY hk]
      injection e2 with e2;injection e2 with e4 e5
      rw [←e4,←e5]
    have hx0:-1≤x:=by
      injection e2 with e2;injection e2 with e4 e5
      rcases popL b.Mem.aB.Global[c.toNat].aQ with h | h
      · rw [←e5];exact h
      · rw [←e5];have:=hm.1.2.2.2.2.1 _ (List.mem_append_left _ (List.mem_flatMap.2 ⟨_,List.getElem_mem hk,h⟩));omega
    have tg:0≤s.Pc∧s.Pc≤3→(idx b.Mem.aB.Global c).bind (fun x13=>(pY x13).bind fun x14=>iH s x14.2 ({b with Mem:=(⟨b.Mem.aD,(⟨b.Mem.aB.Global.set c.toNat x14.1,b.Mem.aB.Own⟩:aB)⟩:Mem)}:aA))=some (A9 b s (rD b.Mem c)):=fun hpc=>by
      have:=fin (rD b.Mem c) (by rw [ep];exact hx0) (by rw [ep];exact fun h=>⟨hs,g2 h⟩) (by omega)
      rw [hx,aI,W9 (by omega),e2,aI,←this,ep]
    by_cases p1:s.Pc=1
    · have p1':(s.Pc == 1)=true:=by simpa using p1
      simp only [p1',if_true]
      rw [tg (by omega),if_pos (.inl p1)]
    · have p1':(s.Pc == 1)=false:=by simpa using p1
      simp only [p1',aL,if_false]
      by_cases p3:s.Pc=3
      · have p3':(s.Pc == 3)=true:=by simpa using p3
        simp only [p3',if_true]
        rw [tg (by omega),if_pos (.inr p3)]
      · have p3':(s.Pc == 3)=false:=by simpa using p3
        have n13:¬(s.Pc=1∨s.Pc=3):=by omega
        simp only [p3',aL,if_false,if_neg n13]
        by_cases p2:s.Pc=2
        · obtain⟨m',y,f1,f2,k1,k2,k3⟩:=aFX hm hc
          have hg:=aLE hm hc
          rw [f1] at hg
          have hg':EC b.Mem c=(m',y):=by injection hg with hg;exact hg.symm
          have hy:-1≤(EC b.Mem c).2:=by unfold EC;split <;> simp only <;> omega
          have p2':(s.Pc == 2)=true:=by simpa using p2
          simp only [p2',if_true,if_pos p2,f1,aI]
          have:=fin (EC b.Mem c) hy (by rw [hg'];exact k2) (by omega)
          rw [hg'] at this ⊢
          exact this
        · have p2':(s.Pc == 2)=false:=by simpa using p2
          simp only [p2',aL,if_false,bG,if_neg p2,aI];rfl
end Go.Gv
end
