import Derived.Test.YtbdmodalljibjaaGreatXNG
set_option linter.unusedVariables false
set_option linter.unusedSimpArgs false
set_option linter.unusedSectionVars false
set_option linter.constructorNameAsVariable false
set_option linter.unnecessarySimpa false
noncomputable section
namespace Go.Gv
def Hk(h:aE):Prop:=h.Bytes.length=384∧h.Class.length=6
def Wk(m:Mem):Prop:=Hk m.aE∧m.aB.Global.length=3∧m.aB.bQ.length=9∧(d9 m.aB).length≤24
theorem pN.wk{m:Mem}(hm:pN m):Wk m:=by obtain⟨a,b,c,d,e,_⟩:=pN.facts hm;exact⟨⟨d,e⟩,b,c,a⟩
theorem Wk.small{m:Mem}(h:Wk m):nN m:=by obtain⟨⟨a,b⟩,c,d,e⟩:=h;exact⟨by omega,by omega,by omega,by omega,by omega⟩
theorem Wk.aJ4{m:Mem}(h:Wk m):tC m=some (decide (pN m)):=by
  obtain⟨⟨a,b⟩,c,d,e⟩:=h
  exact LX (by rw [a];simp [maxLen]) (by omega)
theorem aV7{m:Mem}(h:Wk m){w n:Int}:gW (EC m w n) (fun x=>Wk x.1):=by
  unfold EC
  obtain⟨c,ec,_,hr⟩:=aD3 n
  rw [FN h.small,aI,ec,aI,h.aJ4,aI]
  by_cases hm:pN m
  rotate_left
  · rw [bL hm,if_pos (by simp)];exact .ret h
  rw [bE hm,if_neg (by simp),bY,aI]
  by_cases hw:0≤w∧w≤2
  rotate_left
  · rw [bL hw];exact .ret h
  rw [bE hw]
  unfold vT
  rw [if_neg (by simp)]
  refine .ite (fun _=>.ret h) fun q=>?_
  have hc0:¬c < 0:=by simpa using q
  have hc:0≤c∧c≤2:=by omega
  have take:∀m:Mem,pN m→∃t x,HM m.aB w c=some (⟨m.aB.Global,m.aB.bQ.set (w * 3+c).toNat t⟩,x)∧(0≤x→0≤bK m.aE x)∧pN ⟨m.aE,⟨m.aB.Global,m.aB.bQ.set (w * 3+c).toNat t⟩⟩:=fun m hm=>by
    obtain⟨l,t,x,e1,e2,_,_,e3,e4⟩:=aD5 hm hw hc
    obtain⟨hcnt,h3,h9,h1,h2,hsm,hcp,hlo,hsG,hsO⟩:=pN.facts hm
    refine⟨t,x,?_,e3,e4.1⟩
    unfold HM yP
    rw [EW (by omega) (by omega) (fun s h=>by have:=hsG s h;omega) (fun s h=>by have:=hsO s h;omega),aI,(M7 hw hc).1,aI,yX (by omega),bE hm.1.2,aI,if_neg (by simp),bL (by omega),if_neg (by simp),e1,aI,e2,aI]
  have takeG:∀m:Mem,pN m→∃t x,yQ m.aB c=some (⟨m.aB.Global.set c.toNat t,m.aB.bQ⟩,x)∧(0≤x→0≤bK m.aE x)∧pN ⟨m.aE,⟨m.aB.Global.set c.toNat t,m.aB.bQ⟩⟩:=fun m hm=>by
    obtain⟨l,t,x,e1,e2,_,_,e3,e4⟩:=TW hm hc
    obtain⟨hcnt,h3,h9,h1,h2,hsm,hcp,hlo,hsG,hsO⟩:=pN.facts hm
    refine⟨t,x,?_,e3,e4.1⟩
    unfold yQ qM
    rw [EW (by omega) (by omega) (fun s h=>by have:=hsG s h;omega) (fun s h=>by have:=hsO s h;omega),aI,yX (by omega),bE hm.1.2,aI,if_neg (by simp),bY,bE hc,aI,if_neg (by simp),e1,aI,e2,aI]
  have fin:∀(x:Int) (m:Mem),pN m→(0≤x→0≤bK m.aE x)→gW (pA x m) (fun x=>Wk x.1):=fun x m hm hx=>by
    unfold pA
    refine .ite (fun _=>.ret hm.wk) fun q=>?_
    obtain⟨v,e,_⟩:=aGO hm.1.1.1 (hx (by simpa using q))
    rw [e,aI]
    exact .ret hm.wk
  have aMV:∀(x:Int) (M:Mem) (g o:List aH),pN ⟨M.aE,⟨g,o⟩⟩→(0≤x→0≤bK M.aE x)→gW (pB c x M g o) (fun x=>Wk x.1):=fun x M g o hm hx=>by
    unfold pB
    refine .ite (fun _=>?_) fun _=>fin x _ hm hx
    obtain⟨m',s,e1,_,_,e2,e3⟩:=aJV hm hc
    rw [e1,aI]
    exact fin s m' e3.1 (fun q=>(e2 q).2)
  obtain⟨t,x,e1,e2,e3⟩:=take m hm
  rw [e1,aI]
  refine .ite (fun q=>?_) fun q=>aMV x _ _ _ e3 e2
  obtain⟨t',x',f1,f2,f3⟩:=takeG _ e3
  simp only at f1
  rw [f1,aI]
  exact aMV x' _ _ _ f3 f2
theorem aXW{m:Mem}(h:Wk m){w x:Int}:gW (HN m w x) (fun x=>Wk x.1):=by
  unfold HN
  rw [FN h.small,aI,h.aJ4,aI]
  by_cases hm:pN m
  rotate_left
  · rw [bL hm,if_pos (by simp)];exact .ret h
  rw [bE hm,if_neg (by simp),bY,aI]
  by_cases hw:0≤w∧w≤2
  rotate_left
  · rw [bL hw];exact .ret h
  rw [bE hw]
  unfold yR
  obtain⟨hcnt,h3,h9,h1,h2,hsm,hcp,hlo,hsG,hsO⟩:=pN.facts hm
  rw [if_neg (by simp),rS hm.1.1.1 (by omega) (by simp only [maxLen];omega) (by simp only [maxLen];omega),aI]
  by_cases hv:wA m x
  rotate_left
  · rw [bL hv];exact .ret h
  obtain⟨m',e1,_,_,e2⟩:=aMW hm hw hv
  rw [bE hv,if_neg (by simp),d5,if_pos hv.1,aI,e1,aI]
  exact .ret e2.1.wk
theorem aJ5{b:List Int}{a w n:Int}(ha:0≤a)(hw:1≤w∧w≤7)(h:a+w≤b.length)(hl:b.length≤1000):gW (jE b a w n) (fun x=>x.length=b.length):=by
  unfold jE
  rw [aR (x:=w - 1) (by omega) (by omega)]
  refine .bind (P:=fun x=>x.length=b.length) (.loop (fun s=>(s.2.2+1).toNat) (fun s=>s.1.length=b.length∧-1≤s.2.2∧s.2.2≤w - 1) ⟨rfl,by (try simp only);omega⟩ ?_) fun x hx=>.ret hx
  rintro⟨l,v,k⟩ ⟨h1,h2,h3⟩
  simp only at h1 h2 h3
  simp only [qY]
  refine .ite (fun q=>?_) (fun q=>.ret h1)
  have q':=of_decide_eq_true q
  rw [aR (x:=a+k) (by omega) (by omega),aR (x:=k - 1) (by omega) (by omega)]
  refine .bind (.idx (by omega)) fun x _=>.ret ⟨⟨by simpa using h1,by (try simp only);omega⟩,by (try simp only);omega⟩
theorem aV8{n w:Int}(hw:1≤w∧w≤7):gW (y8 n w) (fun _=>True):=by
  unfold y8
  rw [bY,bE hw,aI,if_neg (by simp)]
  unfold wR
  refine .ite (fun _=>.ret trivial) fun _=>?_
  refine .bind (P:=fun _=>True) (.loop (fun s=>100 - (s.2.2).toNat) (fun s=>(s.2.1.length:Int)=s.2.2∧s.2.2≤w) ⟨rfl,by (try simp only);omega⟩ ?_) ?_
  · rintro⟨x,l,k⟩ ⟨h1,h2⟩
    simp only at h1 h2
    simp only [wQ]
    refine .ite (fun q=>?_) (fun q=>.ret trivial)
    have q':=of_decide_eq_true q
    refine .need (by simp;omega) (.ret ?_)
    rw [aR (x:=k+1) (by omega) (by omega)]
    exact⟨⟨by simp;omega,by (try simp only);omega⟩,by (try simp only);omega⟩
  · rintro⟨x,l⟩ _
    simp only [K6,K5]
    exact .ite (fun _=>.ret trivial) fun _=>.ret trivial
theorem aXX{h:aE}{s:Int}(hcl:0≤bK h s):fU s (bK h s)+4+gP (bK h s)≤384:=by
  have hc2:0≤bK h s∧bK h s≤2:=by
    obtain⟨_,q,e⟩:=CU hcl
    rw [e];exact kU.1 (by omega)
  obtain⟨p,i,p6,hi,es,ec,eo,ep⟩:=CY hcl
  have hgo:=ET hcl
  have hcl':0≤b7 h p∧b7 h p≤2:=by rw [←ec];exact hc2
  rw [ec] at eo hgo ⊢
  generalize b7 h p=c at hi hcl' eo hgo
  rcases fJ hcl' with rfl | rfl | rfl
  · rw [show(cS 0).toNat=4 from rfl] at hi;rw [show(aW 0).toNat=12 from rfl] at eo;rw [show gP 0=8 from rfl];omega
  · rw [show(cS 1).toNat=2 from rfl] at hi;rw [show(aW 1).toNat=20 from rfl] at eo;rw [show gP 1=16 from rfl];omega
  · rw [show(cS 2).toNat=1 from rfl] at hi;rw [show(aW 2).toNat=44 from rfl] at eo;rw [show gP 2=40 from rfl];omega
theorem aV9{m:Mem}(h:Wk m){x a w n:Int}(hw:1≤w∧w≤7):gW (m5 m x a w n) (fun x=>Wk x.1):=by
  unfold m5 JZ
  rw [FN h.small,aI,h.aJ4,aI,bY]
  by_cases hm:pN m
  rotate_left
  · rw [bL hm,if_pos (by simp)];exact .ret h
  rw [bE hm,if_neg (by simp),bE hw,aI]
  obtain⟨hcnt,h3,h9,h1,h2,hsm,hcp,hlo,hsG,hsO⟩:=pN.facts hm
  have hs:=hm.1.1.1
  unfold tL
  rw [if_neg (by simp),rS hs (by omega) (by simp only [maxLen];omega) (by simp only [maxLen];omega),aI]
  by_cases hv:wA m x
  rotate_left
  · rw [bL hv];exact .ret h
  have hcl:=FM hv.2.1
  obtain⟨hroom,hz⟩:=aUG hcl
  have hgo:=ET hcl
  rw [bE hv,if_neg (by simp),d5,if_pos hv.1,aI,i3 hs,aI,CR,aI,bY,aI,aR (x:=gP (bK m.aE (x % 32)) - 1) (by omega) (by omega)]
  by_cases ha:0≤a∧a≤gP (bK m.aE (x % 32)) - 1
  rotate_left
  · rw [bL ha,if_pos (by simp)];exact .ret h
  rw [bE ha,if_neg (by simp),aI,aR (x:=gP (bK m.aE (x % 32)) - a) (by omega) (by omega)]
  by_cases hb:gP (bK m.aE (x % 32)) - a < w
  · rw [bE hb];exact .ret h
  rw [bL hb]
  unfold tK
  rw [if_neg (by simp),(start_eq hs hcl).1,aI,aI,if_neg (by simp)]
  refine .bind (aV8 hw) fun t _=>.ite (fun _=>.ret h) fun _=>?_
  have room:fU (x % 32) (bK m.aE (x % 32))+4+gP (bK m.aE (x % 32))≤384:=aXX hcl
  refine .bind (aJ5 (a:=bC (fU (x % 32) (bK m.aE (x % 32))+4+a)) (by rw [aR (by omega) (by omega)];omega) hw (by rw [aR (by omega) (by omega)];omega) (by omega)) fun y hy=>.ret ⟨⟨by (try simp only);omega,h.1.2⟩,h.2⟩
noncomputable section
variable {b:List UInt8} {i h:Int} (hc:Cu b i)
include hc
theorem aBH:gW (nJ ⟨b,i,h⟩) (fun x=>Cu b x.2.1):=by
  unfold nJ
  refine .bind (aEA hc (by omega)) fun x1 h1=>.ite (fun _=>.bind (PH h1 (by decide) (by decide)) fun x ⟨_,h2⟩=>.ret h2) fun _=>.bind (below h1 (by omega)) fun x3 ⟨_,h3⟩=>.bind (below h3 (by omega)) fun x4 ⟨_,h4⟩=>?_
  unfold nG lN
  rw [bY,aI,bY,aI]
  refine .bind (P:=fun _=>True) (.ite (fun _=>.ite (fun _=>.ret trivial) fun _=>.ret trivial) fun _=>.ite (fun _=>.ret trivial) fun _=>.ret trivial) fun x _=>.ret h4
theorem aXY{m:Int}(hm:m≤1000):gW (KB ⟨b,i,h⟩ m) (fun x=>Wk x.1∧Cu b x.2.2.1):=by
  unfold KB FC
  rw [GJ,aI]
  unfold sB vS
  rw [aS (by omega),aS (by omega),aI,aI]
  have h0:Wk ⟨aMY,⟨List.replicate (3:Int).toNat ⟨[]⟩,List.replicate (9:Int).toNat ⟨[]⟩⟩⟩:=⟨⟨List.length_replicate,rfl⟩,rfl,rfl,by decide⟩
  refine .bind (below hc (by omega)) fun x2 ⟨hx2,h2⟩=>?_
  refine .bind (P:=fun x=>(1≤x.1.length∧x.1.length≤2000)∧Cu b x.2.1∧Wk x.2.2.2) (.loop (fun s=>s.2.1.toNat) (fun s=>(0≤s.2.1∧1≤s.1.length∧(s.1.length:Int)+s.2.1≤1500)∧Cu b s.2.2.1∧Wk s.2.2.2.2) ⟨⟨hx2.1,by simp,by simp;omega⟩,h2,h0⟩ ?_) ?_
  · rintro⟨l,n,i1,h1,m1⟩ ⟨⟨n0,l1,l2⟩,c1,w1⟩
    simp only at n0 l1 l2 c1 w1
    simp only [QF]
    refine .ite (fun q=>?_) (fun q=>.ret ⟨by (try simp only);omega,c1,w1⟩)
    have q':=of_decide_eq_true q
    have nx:∀(l':List Int) (i' h':Int) (m':Mem),l'.length≤l.length+1→1≤l'.length→Cu b i'→Wk m'→gW (pC n l' i' h' m') (aGT (fun s'=>((0≤s'.2.1∧1≤s'.1.length∧(s'.1.length:Int)+s'.2.1≤1500)∧Cu b s'.2.2.1∧Wk s'.2.2.2.2)∧s'.2.1.toNat < n.toNat) (fun x=>(1≤x.1.length∧x.1.length≤2000)∧Cu b x.2.1∧Wk x.2.2.2)):=fun l' i' h' m' a1 a2 a3 a4=>by
      unfold pC
      rw [aR (by omega) (by omega)]
      exact .ret ⟨⟨⟨by (try simp only);omega,a2,by (try simp only);omega⟩,a3,a4⟩,by (try simp only);omega⟩
    have body:∀(z:Bool) (i' h':Int),Cu b i'→gW (t7 ⟨b,i,h⟩ l n z i' h' m1) (aGT (fun s'=>((0≤s'.2.1∧1≤s'.1.length∧(s'.1.length:Int)+s'.2.1≤1500)∧Cu b s'.2.2.1∧Wk s'.2.2.2.2)∧s'.2.1.toNat < n.toNat) (fun x=>(1≤x.1.length∧x.1.length≤2000)∧Cu b x.2.1∧Wk x.2.2.2)):=fun z i' h' c2=>by
      unfold t7 IQ
      refine .ite (fun _=>?_) (fun _=>?_)
      · exact .bind (below c2 (by omega)) fun x35 ⟨_,c3⟩=>.bind (below c3 (by omega)) fun x36 ⟨hx,c4⟩=>.bind (.idx (by omega)) fun x37 _=>.bind (aXW w1) fun x38 w2=>nx _ _ _ _ (by omega) l1 c4 w2
      · refine .bind (below c2 (by omega)) fun x53 ⟨_,c3⟩=>.bind (below c3 (by omega)) fun x54 ⟨_,c4⟩=>.bind (aV7 w1) fun x55 w2=>?_
        unfold IT IS
        refine .ite (fun _=>.need (by simp;omega) ?_) (fun _=>nx _ _ _ _ (by omega) l1 c4 w2)
        exact .bind (below c4 (by omega)) fun x49 ⟨_,c5⟩=>.bind (below c5 (by omega)) fun x50 ⟨hx,c6⟩=>.bind (below c6 (by omega)) fun x51 ⟨_,c7⟩=>.bind (aV9 w2 (by rw [aR (by omega) (by omega)];omega)) fun x52 w3=>nx _ _ _ _ (by simp) (by simp) c7 w3
    exact .bind (aEA c1 (by omega)) fun x56 c2=>.ite (fun _=>body _ _ _ c2) fun _=>body _ _ _ c2
  · rintro⟨l,i1,h1,m1⟩ ⟨⟨l1,l2⟩,c1,w1⟩
    simp only at l1 l2 c1 w1
    simp only [QG,QE,IP]
    exact .bind (below c1 (by omega)) fun x21 ⟨hx,c2⟩=>.bind (.idx (by omega)) fun x22 _=>.ret ⟨w1,c2⟩
omit hc in
theorem Hk.aJ4{h:aE}(hh:Hk h):zO h=some (decide (V8 h)):=RI (by rw [hh.1];simp [maxLen])
omit hc in
theorem aWA{h:aE}(hh:Hk h){c:Int}:gW (NT h c) (fun x=>Hk x.1∧x.2.length≤4):=by
  unfold NT ED
  rw [OD (by have:=hh.1;omega) (by have:=hh.2;omega),aI,hh.aJ4,aI]
  by_cases ho:V8 h
  rotate_left
  · rw [bL ho,if_pos (by simp)];exact .ret ⟨hh,by simp⟩
  rw [bE ho,if_neg (by simp),bY,aI]
  by_cases hcl:0≤c∧c≤2
  rotate_left
  · rw [bL hcl];exact .ret ⟨hh,by simp⟩
  rw [bE hcl,if_neg (by simp)]
  have:=mC c
  rcases aJU ho hcl with ⟨e,_⟩ | ⟨p,_,_,e,_⟩
  · rw [e,aI];exact .ret ⟨hh,by simp⟩
  · rw [e,aI];exact .ret ⟨⟨by simp only [JF];exact hh.1,by simpa using hh.2⟩,by simp only [X7];omega⟩
omit hc in
theorem aTJ{h:aE}(hh:Hk h){s g:Int}:gW (KC h s g) (fun x=>Hk x.1):=by
  unfold KC BS NU
  rw [OD (by have:=hh.1;omega) (by have:=hh.2;omega),aI,PD (by rw [hh.1];simp [maxLen]),aI]
  by_cases ho:fN h
  rotate_left
  · rw [bL ho,if_pos (by simp),aI,if_pos (by decide)];exact .ret hh
  rw [bE ho,if_neg (by simp),i3 ho,aI,aI,aI]
  refine .ite (fun _=>.ret hh) fun q=>?_
  have hcl:0≤bK h s:=by simpa using q
  have hgo:=ET hcl
  obtain⟨hroom,_⟩:=aUG hcl
  rw [bY,aI]
  refine .ite (fun _=>.ret hh) fun _=>?_
  rw [sD,aI]
  exact .bind (aJ5 (by omega) (by omega) (by have:=hh.1;omega) (by have:=hh.1;omega)) fun y hy=>.ret ⟨by have:=hh.1;simp only;omega,hh.2⟩
theorem aXZ:gW (KD ⟨b,i,h⟩) (fun x=>Hk x.1∧Cu b x.2.1):=by
  unfold KD
  rw [GJ,aI]
  refine .bind (below hc (by omega)) fun x2 ⟨hx2,h2⟩=>?_
  refine .bind (P:=fun x=>Cu b x.1∧Hk ⟨x.2.2.1,x.2.2.2⟩) (.loop (fun s=>s.1.toNat) (fun s=>(0≤s.1∧s.1≤10)∧Cu b s.2.1∧Hk ⟨s.2.2.2.1,s.2.2.2.2⟩) ⟨⟨hx2.1,by (try simp only);omega⟩,h2,List.length_replicate,rfl⟩ ?_) fun x hx=>.ret ⟨hx.2,hx.1⟩
  rintro⟨n,i1,h1,B,C⟩ ⟨⟨n0,n1⟩,c1,k1⟩
  simp only at n0 n1 c1 k1
  simp only [QL]
  refine .ite (fun q=>?_) (fun q=>.ret ⟨c1,k1⟩)
  have q':=of_decide_eq_true q
  refine .bind (below c1 (by omega)) fun x48 ⟨_,c2⟩=>.bind (aWA k1) fun x49 ⟨k2,l4⟩=>?_
  unfold IV
  refine .bind (P:=fun x=>Cu b x.1∧Hk ⟨x.2.2.1,x.2.2.2⟩) (.loop (fun s=>100 - s.1.toNat) (fun s=>(0≤s.1∧s.1≤4)∧Cu b s.2.1∧Hk ⟨s.2.2.2.1,s.2.2.2.2⟩) ⟨by simp,c2,k2⟩ ?_) ?_
  · rintro⟨k,i2,h2,B2,C2⟩ ⟨⟨m0,m1⟩,c3,k3⟩
    simp only at m0 m1 c3 k3
    simp only [QJ,BT,IU]
    refine .ite (fun q=>?_) (fun q=>.ret ⟨c3,k3⟩)
    have q':=of_decide_eq_true q
    rw [aR (x:=k+1) (by omega) (by omega)]
    refine .bind (aEA c3 (by omega)) fun x40 c4=>.ite (fun _=>?_) fun _=>.ret ⟨⟨by (try simp only);omega,c4,k3⟩,by (try simp only);omega⟩
    exact .bind (.idx (by omega)) fun x45 _=>.bind (below c4 (by omega)) fun x46 ⟨_,c5⟩=>.bind (aTJ k3) fun x47 k4=>.ret ⟨⟨by (try simp only);omega,c5,k4⟩,by (try simp only);omega⟩
  · rintro⟨i2,h2,B2,C2⟩ ⟨c3,k3⟩
    simp only [QK,QI]
    rw [aR (by omega) (by omega)]
    exact .ret ⟨⟨by (try simp only);omega,c3,k3⟩,by (try simp only);omega⟩
theorem aRG:gW (NV ⟨b,i,h⟩) (fun x=>(x.1.Bytes.length≤384∧x.1.Class.length≤7)∧Cu b x.2.1):=by
  unfold NV LC LD LF lI
  refine .bind (aXZ hc) fun x1 ⟨⟨a1,a2⟩,h1⟩=>.bind (below h1 (by omega)) fun x6 ⟨_,h6⟩=>?_
  refine .ite (fun _=>?_) fun _=>.ite (fun _=>?_) fun _=>.ite (fun _=>?_) fun _=>.ite (fun _=>?_) fun _=>.ite (fun _=>?_) fun _=>?_
  · exact .bind (below h6 (by omega)) fun x10 ⟨hx,c⟩=>.need (by omega) (.ret ⟨⟨by simp;omega,by (try simp only);omega⟩,c⟩)
  · exact .need (by simp;omega) (.ret ⟨⟨by (try simp only);omega,by simp;omega⟩,h6⟩)
  · exact .bind (below h6 (by omega)) fun x14 ⟨hx,c⟩=>.bind (PH c (by decide) (by decide)) fun x15 ⟨_,c2⟩=>.bind (.idx (by omega)) fun _ _=>.ret ⟨⟨by (try simp only);omega,by simp;omega⟩,c2⟩
  · exact .bind (below h6 (by omega)) fun x14 ⟨hx,c⟩=>.bind (PH c (by decide) (by decide)) fun x15 ⟨_,c2⟩=>.bind (.idx (by omega)) fun _ _=>.ret ⟨⟨by simp;omega,by (try simp only);omega⟩,c2⟩
  · exact .bind (below h6 (by omega)) fun x23 ⟨hx,c⟩=>.bind (below c (by omega)) fun x24 ⟨hx2,c2⟩=>.bind (below c2 (by omega)) fun x25 ⟨_,c3⟩=>.bind (.idx (by rw [aR (x:=x23.1 * 64) (by omega) (by omega),aR (by omega) (by omega)];omega)) fun _ _=>.ret ⟨⟨by simp;omega,by (try simp only);omega⟩,c3⟩
  · exact .ret ⟨⟨by (try simp only);omega,by (try simp only);omega⟩,h6⟩
def Lk(n:Nat)(l:aB):Prop:=l.Global.length=3∧l.bQ.length=9∧(d9 l).length≤n
omit hc in
theorem aX0{n:Nat}(hn:n≤1000){l:aB}(hl:Lk n l){w c s:Int}:gW (SA l w c s) (fun x=>Lk (n+1) x.1):=by
  obtain⟨a1,a2,a3⟩:=hl
  have hal:=gU l
  have hl':Lk (n+1) l:=⟨a1,a2,by omega⟩
  have hg:∀s∈l.Global,s.aN.length≤1000:=fun s h=>by have:=uM h;omega
  have ho:∀s∈l.bQ,s.aN.length≤1000:=fun s h=>by have:=uM h;omega
  unfold SA
  rw [EW (by omega) (by omega) (fun s h=>by have:=hg s h;omega) (fun s h=>by have:=ho s h;omega),aI,yX (by omega),aI]
  refine .ite (fun _=>.ret hl') fun _=>?_
  unfold lV rW
  rw [bY,aI,bY,aI]
  by_cases hw:0≤w∧w≤2
  rotate_left
  · rw [bL hw,if_pos (by simp),if_pos rfl,aI,if_pos (by decide)];exact .ret hl'
  by_cases hcl:0≤c∧c≤2
  rotate_left
  · rw [bE hw,bL hcl,if_neg (by simp),if_pos (by simp),aI,if_pos (by decide)];exact .ret hl'
  rw [bE hw,bE hcl,if_neg (by simp),if_neg (by simp),aI,aR (x:=w * 3) (by omega) (by omega),aR (by omega) (by omega),if_neg (by simp;omega),bY,aI]
  refine .ite (fun _=>.ret hl') fun _=>?_
  rw [LW (by omega) (by simp only [maxLen];omega) (by simp only [maxLen];omega),aI,EV (by simp only [maxLen];omega),aI]
  unfold vU
  refine .ite (fun _=>.ret hl') fun _=>?_
  refine .bind (P:=fun x=>Lk (n+1) x) ?_ fun x hx=>.ret hx
  unfold E2 IC ID AQ
  rw [(M7 hw hcl).1,aI]
  have kx:(w * 3+c).toNat < l.bQ.length:=by omega
  have ky:c.toNat < l.Global.length:=by omega
  have m1:=ho _ (List.getElem_mem kx)
  have m2:=hg _ (List.getElem_mem ky)
  rw [l6 (by omega) (by omega),aI,l6 hcl.1 (by omega),aI]
  refine .ite (fun _=>.need (by simp;omega) (.ret ⟨a1,by simpa using a2,?_⟩)) fun _=>.need (by simp;omega) (.ret ⟨by simpa using a1,a2,?_⟩)
  · rw [gU];simp only;rw [DP kx];simp;omega
  · rw [gU];simp only;rw [DP ky];simp;omega
theorem aWB:gW (HO ⟨b,i,h⟩) (fun x=>Lk 40 x.1∧Cu b x.2.1):=by
  unfold HO sB vS
  rw [aS (by omega),aS (by omega),aI]
  refine .bind (below hc (by omega)) fun x2 ⟨hx2,h2⟩=>?_
  refine .bind (P:=fun x=>Cu b x.1∧Lk 40 ⟨x.2.2.1,x.2.2.2⟩) (.loop (fun s=>s.1.toNat) (fun s=>(0≤s.1∧s.1≤30)∧Cu b s.2.1∧Lk (40 - s.1.toNat) ⟨s.2.2.2.1,s.2.2.2.2⟩) ⟨⟨hx2.1,by (try simp only);omega⟩,h2,rfl,rfl,by simp [d9,dB]⟩ ?_) fun x hx=>.ret ⟨hx.2,hx.1⟩
  rintro⟨n,i1,h1,G,O⟩ ⟨⟨n0,n1⟩,c1,k1⟩
  simp only at n0 n1 c1 k1
  simp only [O2,GC]
  refine .ite (fun q=>?_) (fun q=>.ret ⟨c1,k1.1,k1.2.1,by have:=k1.2.2;simp only;omega⟩)
  have q':=of_decide_eq_true q
  refine .bind (below c1 (by omega)) fun x21 ⟨_,c2⟩=>.bind (below c2 (by omega)) fun x22 ⟨_,c3⟩=>.bind (below c3 (by omega)) fun x23 ⟨_,c4⟩=>.bind (aX0 (by omega) k1) fun x24 k2=>?_
  rw [aR (by omega) (by omega)]
  exact .ret ⟨⟨by (try simp only);omega,c4,k2.1,k2.2.1,Nat.le_trans k2.2.2 (by (try simp only);omega)⟩,by (try simp only);omega⟩
theorem aNS:gW (NW ⟨b,i,h⟩) (fun x=>(x.1.Global.length≤10∧x.1.bQ.length≤10∧(d9 x.1).length≤100)∧Cu b x.2.1):=by
  unfold NW LG LH nK
  refine .bind (aWB hc) fun x1 ⟨⟨a1,a2,a3⟩,h1⟩=>.bind (below h1 (by omega)) fun x6 ⟨_,h6⟩=>?_
  have hal:=gU x1.1
  have hg:∀s∈x1.1.Global,s.aN.length≤1000:=fun s h=>by have:=uM h;omega
  refine .ite (fun _=>?_) fun _=>.ite (fun _=>?_) fun _=>.ite (fun _=>?_) fun _=>.ite (fun _=>?_) fun _=>?_
  · refine .need (by omega) (.ret ⟨⟨by simp;omega,by (try simp only);omega,?_⟩,h6⟩)
    have:=aBD x1.1.Global (2:Int).toNat
    rw [gU];simp only [List.drop_zero];omega
  · refine .need (by simp;omega) (.ret ⟨⟨by (try simp only);omega,by simp;omega,?_⟩,h6⟩)
    rw [gU];simp only [WE,List.length_append];simp [dB] at hal ⊢;omega
  · refine .bind (below h6 (by omega)) fun x10 ⟨hx,c⟩=>.bind (.idx (by omega)) fun _ _=>.ret ⟨⟨by (try simp only);omega,by simp;omega,?_⟩,c⟩
    have kx:x10.1.toNat < x1.1.bQ.length:=by omega
    have e1:=DO kx ⟨[1,2,3]⟩
    have e2:=zY kx
    rw [gU]
    simp only [e1,List.length_append,List.length_cons,List.length_nil]
    rw [e2] at hal
    simp only [List.length_append] at hal
    omega
  · refine .bind (below h6 (by omega)) fun x12 ⟨hx,c⟩=>?_
    have kx:x12.1.toNat < x1.1.Global.length:=by omega
    have m1:=hg _ (List.getElem_mem kx)
    rw [l6 hx.1 (by omega),aI]
    refine .bind (PH c (by decide) (by decide)) fun x17 ⟨_,c2⟩=>.need (by simp;omega) (.ret ⟨⟨by simp;omega,by (try simp only);omega,?_⟩,c2⟩)
    rw [gU];simp only;rw [DP kx];simp;omega
  · exact .ret ⟨⟨by (try simp only);omega,by (try simp only);omega,Nat.le_trans a3 (by omega)⟩,h6⟩
theorem aTK:gW (NX ⟨b,i,h⟩) (fun x=>nN x.1∧Cu b x.2.2.1):=by
  unfold NX
  refine .bind (aXY hc (by omega)) fun x1 ⟨w1,h1⟩=>.bind (aEA h1 (by omega)) fun x12 h2=>?_
  have key:∀(v i' h':Int),Cu b i'→gW (xI ⟨b,i,h⟩ v i' h' x1.1) (fun x=>nN x.1∧Cu b x.2.2.1):=fun v i' h' c=>by
    unfold xI xH
    obtain⟨⟨p1,p2⟩,p3,p4,p5⟩:=w1
    refine .bind (below c (by omega)) fun x9 ⟨_,c2⟩=>.ite (fun _=>?_) fun _=>.ite (fun _=>?_) fun _=>.ret ⟨show nN x1.1 from ⟨by omega,by omega,by omega,by omega,by omega⟩,c2⟩
    · exact .bind (aRG c2) fun x10 ⟨⟨a1,a2⟩,c3⟩=>.ret ⟨⟨by (try simp only);omega,by (try simp only);omega,by (try simp only);omega,by (try simp only);omega,by (try simp only);omega⟩,c3⟩
    · exact .bind (aNS c2) fun x10 ⟨⟨a1,a2,a3⟩,c3⟩=>.ret ⟨show nN ⟨x1.1.aE,x10.1⟩ from ⟨by (try simp only);omega,by (try simp only);omega,by (try simp only);omega,by (try simp only);omega,by (try simp only);omega⟩,c3⟩
  exact .ite (fun _=>.bind (aBH h2) fun x13 h3=>key _ _ _ h3) fun _=>key _ _ _ h2
end
end Go.Gv
end
noncomputable section
namespace Go.Gv
theorem aX1{w:Int}(hw:0≤w∧w≤2):∀d k:Nat,k+d=200→∀(s:Sub) (b:aD),l9 b→∃s' b',loop (tZ w) ((k:Int),s,b)=some (s',b')∧l9 b'
  | 0,k,hk,s,b,hb=>⟨s,b,cA (by simp only [tZ,o9];rw [if_neg (by simp;omega)];rfl),hb⟩
  | d + 1, k, hk, s, b, hb => by
    cases hd:s.cQ with
    | true=>exact⟨s,b,cA (by simp only [tZ,o9,hd];rw [if_pos (by simp;omega)];rfl),hb⟩
    | false =>
      obtain⟨x,y,e1,_,hx⟩:=step_eq hb hb.small hw s
      obtain⟨s',b',e3,h⟩:=aX1 hw d (k+1) (by omega) y x hx
      refine⟨s',b',?_,h⟩
      rw [cM (s':=(((k+1:Nat):Int),y,x)) (by
        simp only [tZ,o9,hd]
        rw [if_pos (by simp;omega),kO,if_pos rfl,e1,aR (by omega) (by omega)];rfl)]
      exact e3
theorem aM1{b:aD}(hb:l9 b){w:Int}(hw:0≤w∧w≤2)(s:Sub):∃r,nE b w s=some r∧l9 r.1:=by
  obtain⟨s',b',e,h⟩:=aX1 hw 200 0 rfl s b hb
  rw [show((0:Nat):Int)=0 from rfl] at e
  refine⟨(b',s'),?_,h⟩
  unfold nE BR
  rw [WD hb.small,aI,RN hb.small.fits,aI,bY,aI,bE hb,bE hw,if_neg (by simp),if_neg (by simp),e];rfl
noncomputable section
variable {b:List UInt8} {i h:Int} (hc:Cu b i)
include hc
theorem aX2{m:Int}(hm:m≤1000):gW (HL ⟨b,i,h⟩ m) (fun x=>l9 x.1∧Cu b x.2.2.1):=by
  unfold HL
  rw [UM.1,aI]
  refine .bind (below hc (by omega)) fun x2 ⟨hx2,h2⟩=>?_
  refine .bind (P:=fun x=>(1≤x.1.length∧x.1.length≤2000)∧Cu b x.2.1∧l9 x.2.2.2) (.loop (fun s=>s.2.1.toNat) (fun s=>(0≤s.2.1∧1≤s.1.length∧(s.1.length:Int)+s.2.1≤1500)∧Cu b s.2.2.1∧l9 s.2.2.2.2) ⟨⟨hx2.1,by simp,by simp;omega⟩,h2,aJ1⟩ ?_) ?_
  · rintro⟨l,n,i1,h1,B⟩ ⟨⟨n0,l1,l2⟩,c1,b1⟩
    simp only at n0 l1 l2 c1 b1
    simp only [O0]
    refine .ite (fun q=>?_) (fun q=>.ret ⟨by (try simp only);omega,c1,b1⟩)
    have q':=of_decide_eq_true q
    have nx:∀(l':List Int) (i' h':Int) (B':aD),l'.length≤l.length+1→1≤l'.length→Cu b i'→l9 B'→gW (eE n l' i' h' B') (aGT (fun s'=>((0≤s'.2.1∧1≤s'.1.length∧(s'.1.length:Int)+s'.2.1≤1500)∧Cu b s'.2.2.1∧l9 s'.2.2.2.2)∧s'.2.1.toNat < n.toNat) (fun x=>(1≤x.1.length∧x.1.length≤2000)∧Cu b x.2.1∧l9 x.2.2.2)):=fun l' i' h' B' a1 a2 a3 a4=>by
      unfold eE
      rw [aR (by omega) (by omega)]
      exact .ret ⟨⟨⟨by (try simp only);omega,a2,by (try simp only);omega⟩,a3,a4⟩,by (try simp only);omega⟩
    refine .bind (below c1 (by omega)) fun w ⟨hw,c2⟩=>.bind (below c2 (by omega)) fun x28 ⟨hx,c3⟩=>.bind (.idx (by omega)) fun x29 _=>.bind (below c3 (by omega)) fun x30 ⟨_,c4⟩=>?_
    have hwr:0≤w.1∧w.1≤2:=by omega
    have zZ:∀(s:Sub) (f:aD×Sub→Option (Step ((List Int)×Int×Int×Int×aD) ((List Int)×Int×Int×aD))),(∀r,f r=eE n l x30.2.1 x30.2.2 r.1)→gW ((nE B w.1 s).bind f) _:=fun s f hf=>by
      obtain⟨r,e,hb⟩:=aM1 b1 hwr s
      rw [e,aI,hf]
      exact nx l _ _ _ (by omega) l1 c4 hb
    have f9:∀z,gW (rK ⟨b,i,h⟩ l n w x29 x30 z B) _:=fun z=>by
      unfold rK DG DH DI
      simp only [eH,aI]
      refine .ite (fun _=>zZ _ _ fun _=>rfl) fun _=>.ite (fun _=>zZ _ _ fun _=>rfl) fun _=>.ite (fun _=>zZ _ _ fun _=>rfl) fun _=>.ite (fun _=>?_) fun _=>?_
      · obtain⟨r,e1,_,e2,e3⟩:=WS b1.1.2.1 hwr
        rw [e1,aI]
        exact nx l _ _ _ (by omega) l1 c4 (b1.clock e2 (by omega))
      · obtain⟨r,e1,_,e2⟩:=UK b1.1.2.2.2 hwr x29
        rw [e1,aI]
        refine .bind (aEA c4 (by omega)) fun x65 c5=>.ite (fun _=>?_) fun _=>nx l _ _ _ (by omega) l1 c5 (b1.haz e2)
        obtain⟨r',f1,_,f2⟩:=aJ0 e2 hwr
        rw [f1,aI]
        exact nx l _ _ _ (by omega) l1 c5 (b1.haz f2)
    have f7:∀z,gW (rL ⟨b,i,h⟩ l n w x29 x30 z B) _:=fun z=>by
      unfold rL GB
      simp only [eH,aI]
      exact .ite (fun _=>zZ _ _ fun _=>rfl) fun _=>.ite (fun _=>f9 _) fun _=>f9 _
    have f4:∀z,gW (kM ⟨b,i,h⟩ l n w x29 x30 z B) _:=fun z=>by
      unfold kM
      refine .ite (fun _=>?_) fun _=>.ite (fun _=>f7 _) fun _=>f7 _
      refine .bind (below c4 (by omega)) fun x44 ⟨_,c5⟩=>?_
      simp only [eH,aI]
      obtain⟨r,er,b2⟩:=aM1 b1 hwr ⟨1,bC (1+x44.1),0,0,0,0,0,0,0,false⟩
      rw [er,aI]
      unfold GA F9
      refine .ite (fun _=>.need (by simp;omega) (.bind (below c5 (by omega)) fun x42 ⟨hv,c6⟩=>?_)) fun _=>nx l _ _ _ (by omega) l1 c5 b2
      obtain⟨y,c,e1,_,e2,_⟩:=aD7 b2.1.1 (h:=r.2.Out) (n:=x42.1) (by omega)
      rw [e1,aI]
      exact nx _ _ _ _ (by simp) (by simp) c6 (b2.mem e2)
    exact .ite (fun _=>f4 _) fun _=>.ite (fun _=>f4 _) fun _=>.ite (fun _=>f4 _) fun _=>f4 _
  · rintro⟨l,i1,h1,B⟩ ⟨⟨l1,l2⟩,c1,b1⟩
    simp only at l1 l2 c1 b1
    simp only [O1,OZ,F8]
    exact .bind (below c1 (by omega)) fun x21 ⟨hx,c2⟩=>.bind (.idx (by omega)) fun x22 _=>.ret ⟨b1,c2⟩
theorem aWC:gW (EE ⟨b,i,h⟩) (fun x=>PF x.1∧Cu b x.2.1):=by
  unfold EE xF
  rw [aS (by omega),aI]
  refine .bind (below hc (by omega)) fun x2 ⟨hx2,h2⟩=>?_
  refine .bind (P:=fun x=>Cu b x.1∧PF ⟨x.2.2.1,x.2.2.2⟩) (.loop (fun s=>s.1.toNat) (fun s=>0≤s.1∧s.1≤100∧Cu b s.2.1∧PF ⟨s.2.2.2.1,s.2.2.2.2⟩) ⟨hx2.1,by (try simp only);omega,h2,of_decide_eq_true (by kernel_rfl)⟩ ?_) fun x hx=>.ret ⟨hx.2,hx.1⟩
  rintro⟨n,i1,h1,E,P⟩ ⟨n0,n1,c1,k1⟩
  simp only at n0 n1 c1 k1
  simp only [MO,vV,lT]
  refine .ite (fun q=>?_) (fun q=>.ret ⟨c1,k1⟩)
  have q':=of_decide_eq_true q
  rw [aR (by omega) (by omega)]
  refine .bind (below c1 (by omega)) fun w ⟨hw,c2⟩=>.bind (below c2 (by omega)) fun x22 ⟨_,c3⟩=>?_
  have hwr:0≤w.1∧w.1≤2:=by omega
  obtain⟨r1,e1,_,⟨d1,_⟩,_⟩:=aJS k1 hwr E
  obtain⟨r2,e2,_,d2,_⟩:=WS k1 hwr
  obtain⟨r3,e3,_,d3,_⟩:=aGK k1 hwr E
  obtain⟨r4,e4,_,d4,_⟩:=aMT k1 E
  rw [e1,e2,e3,e4]
  simp only [aI]
  have fin:∀r:aK,PF r→gW (some (Step.next (n - 1,x22.2.1,x22.2.2,r.aM,r.bG):Step (Int×Int×Int×Int×(List iI)) (Int×Int×Int×(List iI)))) (aGT (fun s'=>(0≤s'.1∧s'.1≤100∧Cu b s'.2.1∧PF ⟨s'.2.2.2.1,s'.2.2.2.2⟩)∧s'.1.toNat < n.toNat) (fun x=>Cu b x.1∧PF ⟨x.2.2.1,x.2.2.2⟩)):=fun r hr=>.ret ⟨⟨by (try simp only);omega,by (try simp only);omega,c3,hr⟩,by (try simp only);omega⟩
  exact .ite (fun _=>fin _ d1) fun _=>.ite (fun _=>fin _ d2) fun _=>.ite (fun _=>.ite (fun _=>fin _ d3) fun _=>fin _ d4) fun _=>.ite (fun _=>fin _ d3) fun _=>fin _ d4
theorem aNT:gW (KE ⟨b,i,h⟩) (fun x=>x.1.bG.length≤3∧Cu b x.2.1):=by
  unfold KE iM
  refine .bind (aWC hc) fun x1 ⟨k1,h1⟩=>.bind (below h1 (by omega)) fun x2 ⟨hx,h2⟩=>.bind (below h2 (by omega)) fun x7 ⟨_,h7⟩=>?_
  have h3:=k1.2.1
  refine .ite (fun _=>?_) fun _=>.ite (fun _=>?_) fun _=>.ite (fun _=>?_) fun _=>.ite (fun _=>?_) fun _=>.ite (fun _=>?_) fun _=>.ite (fun _=>?_) fun _=>?_
  · exact .bind (PH h7 (by decide) (by decide)) fun x8 ⟨_,c⟩=>.ret ⟨by (try simp only);omega,c⟩
  · exact .need (by omega) (.ret ⟨by simp;omega,h7⟩)
  · exact .bind (.idx (by omega)) fun _ _=>.ret ⟨by simp;omega,h7⟩
  · exact .bind (.idx (by omega)) fun _ _=>.ret ⟨by simp;omega,h7⟩
  · exact .bind (.idx (by omega)) fun _ _=>.ret ⟨by simp;omega,h7⟩
  · exact .bind (.idx (by omega)) fun _ _=>.ret ⟨by simp;omega,h7⟩
  · exact .ret ⟨by (try simp only);omega,h7⟩
def Rk(l:List aP):Prop:=l.length=3∧(bT l).length≤24
omit hc in
theorem Rk.rows{l:List aP}(hl:Rk l):∀s∈l,s.Rows.length≤24:=fun s hs=>by have:=M5 hs;have:=hl.2;omega
omit hc in
theorem aTL{l:List aP}(hl:Rk l){w x e:Int}:gW (EF l w x e) (fun x=>Rk x.1):=by
  have hr:=hl.rows
  obtain⟨a1,a2⟩:=hl
  have hcp:=TS (l:=l) (by omega) (fun s h=>by have:=hr s h;omega)
  unfold EF
  rw [hcp,aI,GH (by omega) (by simp only [maxLen];omega),aI]
  unfold vW
  refine .ite (fun _=>.ret ⟨a1,a2⟩) fun _=>?_
  rw [bY,aI]
  by_cases hw:0≤w∧w≤2
  rotate_left
  · rw [bL hw];exact .ret ⟨a1,a2⟩
  have kx:w.toNat < l.length:=by omega
  have hm:=hr _ (List.getElem_mem kx)
  have hlen:(bT (l.set w.toNat ⟨l[w.toNat].Rows ++ [⟨x,e⟩]⟩)).length≤1000:=by
    rw [DN kx]
    rw [zX kx] at a2
    simp only [List.length_append,List.length_cons,List.length_nil] at a2 ⊢
    omega
  rw [bE hw,if_neg (by simp),l6 hw.1 (by omega),aI,aS (by simp;omega),GH (by omega) (by simp only [List.length_set,maxLen];omega),aI]
  by_cases ho:rR (l.set w.toNat ⟨l[w.toNat].Rows ++ [⟨x,e⟩]⟩)
  · rw [bE ho,if_neg (by simp)];exact .ret ⟨ho.1,ho.2.1⟩
  · rw [bL ho,if_pos (by simp),hcp,aI];exact .ret ⟨a1,a2⟩
theorem aWD:gW (EG ⟨b,i,h⟩) (fun x=>Rk x.1∧Cu b x.2.1):=by
  unfold EG xG
  rw [aS (by omega),aI]
  refine .bind (below hc (by omega)) fun x2 ⟨hx2,h2⟩=>?_
  refine .bind (P:=fun x=>Rk x.1∧Cu b x.2.1) (.loop (fun s=>s.2.1.toNat) (fun s=>(0≤s.2.1∧s.2.1≤100)∧Cu b s.2.2.1∧Rk s.1) ⟨⟨hx2.1,by (try simp only);omega⟩,h2,rfl,by simp [bT]⟩ ?_) fun x hx=>.ret hx
  rintro⟨l,n,i1,h1⟩ ⟨⟨n0,n1⟩,c1,k1⟩
  simp only at n0 n1 c1 k1
  simp only [MP]
  refine .ite (fun q=>?_) (fun q=>.ret ⟨k1,c1⟩)
  have q':=of_decide_eq_true q
  rw [aR (by omega) (by omega)]
  exact .bind (below c1 (by omega)) fun x14 ⟨_,c2⟩=>.bind (aBH c2) fun x15 c3=>.bind (below c3 (by omega)) fun x16 ⟨_,c4⟩=>.bind (aTL k1) fun x17 k2=>.ret ⟨⟨by (try simp only);omega,c4,k2⟩,by (try simp only);omega⟩
theorem aNU:gW (KF ⟨b,i,h⟩) (fun x=>(x.1.length≤3∧(bT x.1).length≤100)∧Cu b x.2.1):=by
  unfold KF IW pD
  refine .bind (aWD hc) fun x1 ⟨k1,h1⟩=>.bind (below h1 (by omega)) fun x5 ⟨_,h5⟩=>?_
  have hrow:=Rk.rows k1
  obtain⟨a1,a2⟩:=k1
  have more:∀(k:Nat) (hk:k < x1.1.length) (r:List b8),r.length≤4→(bT (x1.1.set k ⟨x1.1[k].Rows++r⟩)).length≤100:=fun k hk r hr=>by
    rw [DN hk]
    rw [zX hk] at a2
    simp only [List.length_append] at a2 ⊢
    omega
  refine .ite (fun _=>?_) fun _=>.ite (fun _=>?_) fun _=>.ite (fun _=>?_) fun _=>.ite (fun _=>?_) fun _=>?_
  · refine .need (by omega) (.ret ⟨⟨by simp;omega,?_⟩,h5⟩)
    have:=WB x1.1 (1:Int).toNat
    simp only [List.drop_zero];omega
  · have hm:=hrow _ (List.getElem_mem (show 0 < x1.1.length by omega))
    rw [show idx x1.1 0=some x1.1[0] from aX (k:=0) (by omega),aI]
    exact .need (by simp;omega) (.ret ⟨⟨by simp;omega,more 0 (by omega) _ (by simp)⟩,h5⟩)
  · have hm:=hrow _ (List.getElem_mem (show 1 < x1.1.length by omega))
    rw [show idx x1.1 1=some x1.1[1] from aX (k:=1) (by omega),aI]
    exact .bind (aBH h5) fun x11 c=>.need (by simp;omega) (.ret ⟨⟨by simp;omega,more 1 (by omega) _ (by simp)⟩,c⟩)
  · have hm:=hrow _ (List.getElem_mem (show 2 < x1.1.length by omega))
    rw [show idx x1.1 2=some x1.1[2] from aX (k:=2) (by omega),aI]
    exact .need (by simp;omega) (.ret ⟨⟨by simp;omega,more 2 (by omega) _ (by simp)⟩,h5⟩)
  · exact .ret ⟨⟨by (try simp only);omega,by (try simp only);omega⟩,h5⟩
theorem aY9:gW (KG ⟨b,i,h⟩) (fun x=>x.1.length≤3∧Cu b x.2.1):=by
  unfold KG FD
  rw [aS (by omega),aI]
  refine .bind (below hc (by omega)) fun x2 ⟨hx2,h2⟩=>?_
  refine .bind (P:=fun x=>LY x.1∧Cu b x.2.1) (.loop (fun s=>s.2.1.toNat) (fun s=>(0≤s.2.1∧s.2.1≤100)∧Cu b s.2.2.1∧LY s.1) ⟨⟨hx2.1,by (try simp only);omega⟩,h2,of_decide_eq_true (by kernel_rfl)⟩ ?_) ?_
  · rintro⟨l,n,i1,h1⟩ ⟨⟨n0,n1⟩,c1,k1⟩
    simp only at n0 n1 c1 k1
    simp only [QN]
    refine .ite (fun q=>?_) (fun q=>.ret ⟨k1,c1⟩)
    have q':=of_decide_eq_true q
    rw [aR (x:=n - 1) (by omega) (by omega)]
    refine .bind (below c1 (by omega)) fun w ⟨hw,c2⟩=>.bind (below c2 (by omega)) fun x22 ⟨_,c3⟩=>.bind (below c3 (by omega)) fun x23 ⟨_,c4⟩=>?_
    unfold nG lN
    rw [bY,aI,bY,aI]
    refine .bind (P:=fun _=>True) (.ite (fun _=>.ite (fun _=>.ret trivial) fun _=>.ret trivial) fun _=>.ite (fun _=>.ret trivial) fun _=>.ret trivial) fun x _=>?_
    obtain⟨r,e1,_,e2⟩:=UK k1 (w:=w.1) (by omega) x
    rw [e1,aI]
    exact .ret ⟨⟨by (try simp only);omega,c4,e2⟩,by (try simp only);omega⟩
  · rintro⟨l,i1,h1⟩ ⟨k1,c1⟩
    simp only at k1 c1
    have h3:=k1.1
    simp only [QO,QM,BU]
    refine .bind (below c1 (by omega)) fun x17 ⟨_,c2⟩=>.ite (fun _=>.need (by omega) (.ret ⟨by simp;omega,c2⟩)) fun _=>.ite (fun _=>?_) fun _=>.ret ⟨by (try simp only);omega,c2⟩
    exact .bind (below c2 (by omega)) fun x18 ⟨hx,c3⟩=>.bind (PH c3 (by decide) (by decide)) fun x19 ⟨_,c4⟩=>.bind (.idx (by omega)) fun _ _=>.ret ⟨by simp;omega,c4⟩
theorem aRH:gW (KH ⟨b,i,h⟩) (fun x=>GI x.1∧Cu b x.2.2.1):=by
  unfold KH lY
  refine .bind (aX2 hc (by omega)) fun x1 ⟨b1,h1⟩=>.bind (below h1 (by omega)) fun x5 ⟨_,h5⟩=>?_
  have hs:=b1.small
  obtain⟨s1,s2,s3,s4,s5⟩:=hs
  refine .ite (fun _=>?_) fun _=>.ite (fun _=>?_) fun _=>.ite (fun _=>?_) fun _=>.ite (fun _=>?_) fun _=>.ret ⟨⟨s1,s2,s3,s4,s5⟩,h5⟩
  · exact .bind (aTK h5) fun x6 ⟨m,c⟩=>.ret ⟨⟨m,s2,s3,s4,s5⟩,c⟩
  · exact .bind (aNT h5) fun x6 ⟨m,c⟩=>.ret ⟨⟨s1,by (try simp only);omega,s3,s4,s5⟩,c⟩
  · exact .bind (aNU h5) fun x6 ⟨⟨m1,m2⟩,c⟩=>.ret ⟨⟨s1,s2,by (try simp only);omega,by (try simp only);omega,s5⟩,c⟩
  · exact .bind (aY9 h5) fun x6 ⟨m,c⟩=>.ret ⟨⟨s1,s2,s3,s4,by (try simp only);omega⟩,c⟩
end
end Go.Gv
end
noncomputable section
namespace Go.Gv
theorem WU{ρ:Type}{f:Int→Option (Step Int ρ)}{n:Nat}{r:ρ}(hn:n≤1073741824)(hs:∀k:Nat,k < n→f (k:Int)=some (.next (bC ((k:Int)+1))))(he:f (n:Int)=some (.stop r)):loop f 0=some r:=
  lF (f:=f) n (fun k=>(k:Int)) r (fun k hk=>by rw [hs k hk,aR (by omega) (by omega)];rfl) he
theorem uO{l:List Int}(hl:l.length≤1073741824):jP l l=some true:=by
  unfold jP
  rw [if_neg (by simp),WU (r:=Out.brk ()) hl (fun k hk=>by
    simp only [B3]
    rw [if_pos (by simp;omega),aX hk]
    simp only [aI,bne_self_eq_false,a9,if_false]) (by simp [B3])];rfl
theorem YX{l:List aH}(hl:l.length≤1073741824)(hs:∀s∈l,s.aN.length≤1073741824):FE l l=some true:=by
  unfold FE
  rw [if_neg (by simp),WU (r:=Out.brk ()) hl (fun k hk=>by
    simp only [IY]
    rw [if_pos (by simp;omega),aX hk]
    simp only [aI,uO (hs _ (List.getElem_mem hk)),eF,a9,if_false]) (by simp [IY])];rfl
theorem aIF{m:Mem}(h:nN m):HP m m=some true:=by
  obtain⟨s1,s2⟩:=h.WA
  obtain⟨h1,h2,h3,h4,h5⟩:=h
  unfold HP LI IZ
  rw [uO (by omega),uO (by omega),YX (by omega) (fun s h=>by have:=s1 s h;omega),YX (by omega) (fun s h=>by have:=s2 s h;omega)];rfl
theorem aEC{c:aK}(h:c.bG.length≤1048576):B6 c c=some true:=by
  unfold B6
  simp only [bne_self_eq_false,a9,if_false,sM]
  rw [WU (r:=Out.brk ()) (n:=c.bG.length) (by omega) (fun k hk=>by
    simp only [B5]
    rw [if_pos (by simp;omega),aX hk]
    simp only [aI,decide_true,eF,a9,if_false]) (by simp [B5])];rfl
theorem aED{l:List aP}(hl:l.length≤1048576)(hs:∀s∈l,s.Rows.length≤1048576):B8 l l=some true:=by
  unfold B8
  rw [if_neg (by simp),WU (r:=Out.brk ()) (n:=l.length) (by omega) (fun k hk=>by
    have hr:=hs _ (List.getElem_mem hk)
    have hi:loop (sN l l (k:Int)) 0=some (Out.brk ()):=WU (n:=l[k].Rows.length) (by omega) (fun j hj=>by
      simp only [sN,aX hk,aI]
      rw [if_pos (by simp;omega),aX hj]
      simp only [aI,decide_true,eF,a9,if_false]) (by simp [sN,aX hk])
    simp only [B7]
    rw [if_pos (by simp;omega),aX hk]
    simp only [aI,bne_self_eq_false,a9,if_false,hi,KO,KN]) (by simp [B7])];rfl
theorem aFU{b:aD}(h:GI b):EL b b=some true:=by
  have hr:=h.rows
  obtain⟨h1,h2,h3,h4,h5⟩:=h
  unfold EL
  rw [aIF h1,aEC h2,aED h3 hr,uO (by omega)];rfl
theorem RV{s:aC}(h:qQ s):t9 s s=some true:=by
  obtain⟨hb,c1,c2,c3,c4,c5⟩:=h
  unfold t9
  rw [aFU hb,uO (by omega)]
  simp only [aI,eF,bne_self_eq_false,a9,if_false,gO]
  rw [WU (r:=Out.brk ()) (n:=s.aT.length) (by omega) (fun k hk=>by
    simp only [CB]
    rw [if_pos (by simp;omega),aX hk]
    simp only [aI,decide_true,eF,a9,if_false]) (by simp [CB])]
  simp only [aI,KU,KT]
  rw [WU (r:=Out.brk ()) (n:=s.cZ.length) (by omega) (fun k hk=>by
    have hr:=c4 _ (List.getElem_mem hk)
    have hi:loop (sO s s (k:Int)) 0=some (Out.brk ()):=WU (n:=s.cZ[k].gH.length) (by omega) (fun j hj=>by
      simp only [sO,aX hk,aI]
      rw [if_pos (by simp;omega),aX hj]
      simp only [aI,decide_true,eF,a9,if_false]) (by simp [sO,aX hk])
    simp only [CA]
    rw [if_pos (by simp;omega),aX hk]
    simp only [aI,bne_self_eq_false,a9,if_false,hi,KR,KQ]) (by simp [CA])]
  simp only [aI,KS,KP]
  rw [WU (r:=Out.brk ()) (n:=s.Log.length) (by omega) (fun k hk=>by
    simp only [B9]
    rw [if_pos (by simp;omega),aX hk]
    simp only [aI,decide_true,eF,a9,if_false]) (by simp [B9])];rfl
end Go.Gv
end
noncomputable section
namespace Go.Gv
theorem aX3{s:aC}(hs:uN s)(hl:s.Log.length≤1000000){w:Int}(hw:0≤w∧w≤2):∃x,DB s w=some x∧BX s w=some x∧QP s w=some x∧uN x∧x.Log.length≤s.Log.length+1:=by
  have h:=FO hs hl
  obtain⟨x,e1,e2,h1,h2⟩:=WT hs (by omega) hw
  refine⟨x,e1,?_,?_,h1,h2⟩
  · unfold BX sL
    rw [TX h,aI,aBG h,aI,bY,aI,bE hs,bE hw,if_neg (by simp),if_neg (by simp),e1];rfl
  · unfold QP
    rw [L8 h,aI,aIE h,aI]
    simp only [bE hs,if_true,jW,aI,bE hw,BZ,BY,e2]
noncomputable section
variable {b:List UInt8} {i h:Int} (hc:Cu b i)
include hc
theorem aWE{m:Int}(hm:m≤1000):gW (EK ⟨b,i,h⟩ m) (fun x=>(uN x.1∧x.1.Log.length≤2000)∧Cu b x.2.1):=by
  unfold EK
  refine .bind (aTI hc (by omega)) fun x1 ⟨⟨l3,hq⟩,h1⟩=>?_
  have ht:RT x1.1:=⟨l3,fun q hq'=>⟨by have:=(hq q hq').1;omega,(hq q hq').2⟩⟩
  rw [(aJ2 (t:=x1.1) (by omega) (fun q hq'=>by have:=(hq q hq').1;omega)).1,aI,if_pos ht]
  refine .bind (below h1 (by omega)) fun x3 ⟨hx3,h3⟩=>?_
  refine .bind (P:=fun x=>(uN x.2.2∧x.2.2.Log.length≤2000)∧Cu b x.1) (.loop (fun s=>s.1.toNat) (fun s=>(0≤s.1∧s.1≤1000∧(s.2.2.2.Log.length:Int)+s.1≤2000)∧uN s.2.2.2∧Cu b s.2.1) ⟨⟨hx3.1,by (try simp only);omega,by simp [UN];omega⟩,aNR ht,h3⟩ ?_) fun x hx=>.ret hx
  rintro⟨n,i1,h1,s⟩ ⟨⟨n0,n1,n2⟩,hs,c1⟩
  simp only at n0 n1 n2 hs c1
  simp only [MR,DJ]
  refine .ite (fun q=>?_) (fun q=>.ret ⟨⟨hs,by (try simp only);omega⟩,c1⟩)
  have q':=of_decide_eq_true q
  refine .bind (below c1 (by omega)) fun w ⟨hw,c2⟩=>?_
  have hwr:0≤w.1∧w.1≤2:=by omega
  obtain⟨x,_,e,_,o1,o2⟩:=aX3 hs (by omega) hwr
  rw [e,aI,aR (by omega) (by omega)]
  exact .ret ⟨⟨⟨by (try simp only);omega,by (try simp only);omega,by (try simp only);omega⟩,o1,c2⟩,by (try simp only);omega⟩
def aTM(s:aC):Prop:=qQ s∧s.Log.length≤4000
theorem aNV{m:Int}(hm:m≤1000):gW (KM ⟨b,i,h⟩ m) (fun x=>aTM x.1∧Cu b x.2.1):=by
  unfold KM fY
  refine .bind (aWE hc hm) fun x1 ⟨⟨hs,hl⟩,h1⟩=>.bind (below h1 (by omega)) fun x2 ⟨hk,h2⟩=>.bind (below h2 (by omega)) fun x6 ⟨_,h6⟩=>?_
  have hsm:=FO hs (by omega)
  obtain⟨s1,s2,s3,s4,s5,s6⟩:=hsm
  have c2:=hs.2.1
  have j3:=hs.2.2.1
  have t3:=hs.2.2.2.1.1
  refine .ite (fun _=>?_) fun _=>.ite (fun _=>?_) fun _=>.ite (fun _=>?_) fun _=>.ite (fun _=>?_) fun _=>.ite (fun _=>?_) fun _=>.ite (fun _=>?_) fun _=>.ite (fun _=>?_) fun _=>.ite (fun _=>?_) fun _=>?_
  · exact .bind (aRH h6) fun x7 ⟨hb,c⟩=>.ret ⟨⟨⟨hb,s2,s3,s4,s5,s6⟩,by (try simp only);omega⟩,c⟩
  · exact .need (by simp;omega) (.ret ⟨⟨⟨s1,by simp;omega,s3,s4,s5,s6⟩,by (try simp only);omega⟩,h6⟩)
  · exact .bind (PH h6 (by decide) (by decide)) fun x8 ⟨_,c⟩=>.bind (.idx (by omega)) fun _ _=>.ret ⟨⟨⟨s1,by simp;omega,s3,s4,s5,s6⟩,by (try simp only);omega⟩,c⟩
  · exact .bind (below h6 (by omega)) fun x8 ⟨_,c⟩=>.bind (.idx (by omega)) fun _ _=>.ret ⟨⟨⟨s1,s2,by simp;omega,s4,s5,s6⟩,by (try simp only);omega⟩,c⟩
  · exact .bind (aBH h6) fun x8 c=>.bind (.idx (by omega)) fun _ _=>.ret ⟨⟨⟨s1,s2,by simp;omega,s4,s5,s6⟩,by (try simp only);omega⟩,c⟩
  · exact .need (by omega) (.ret ⟨⟨⟨s1,s2,s3,by simp;omega,fun q hq=>s5 q (List.mem_of_mem_take (by simpa using hq)),s6⟩,by (try simp only);omega⟩,h6⟩)
  · exact .bind (opD h6) fun x14 ⟨_,c⟩=>.bind (below c (by omega)) fun x15 ⟨_,c'⟩=>.bind (.idx (by omega)) fun _ _=>.ret ⟨⟨⟨s1,s2,by simp;omega,s4,s5,s6⟩,by (try simp only);omega⟩,c'⟩
  · exact .bind (PH h6 (by decide) (by decide)) fun x8 ⟨_,c⟩=>.ret ⟨⟨⟨s1,s2,s3,s4,s5,s6⟩,by (try simp only);omega⟩,c⟩
  · exact .ret ⟨⟨⟨s1,s2,s3,s4,s5,s6⟩,by (try simp only);omega⟩,h6⟩
end
end Go.Gv
end
noncomputable section
namespace Go.Gv
def aX4(c:aK)(k:Nat):Prop:=((xS c k).On=true∧(xS c k).fG=false)∧(xS c k).aM < c.aM
instance (c:aK) (k:Nat):Decidable (aX4 c k):=by unfold aX4;infer_instance
def aX5(c:aK)(k:Nat):Prop:=(xS c k).On=true∧(xS c k).fG=false
instance (c:aK) (k:Nat):Decidable (aX5 c k):=by unfold aX5;infer_instance
end Go.Gv
end
noncomputable section
namespace Go.Gv
def Aft{α:Type}(o:Option α)(Q:α→Prop):Prop:=∀x,o=some x→Q x
namespace Aft
variable {α β:Type} {Q:α→Prop}
theorem ret{x:α}(h:Q x):Aft (some x) Q:=fun _ e=>by injection e with e;rw [←e];exact h
theorem bind{o:Option β}{f:β→Option α}(h:∀x,o=some x→Aft (f x) Q):Aft (o.bind f) Q:=fun y e=>by
  cases ho:o with
  | none=>rw [ho] at e;cases e
  | some x=>rw [ho] at e;exact h x ho y e
theorem ite{c:Prop}[Decidable c]{a b:Option α}(h1:Aft a Q)(h2:Aft b Q):Aft (if c then a else b) Q:=by
  split
  · exact h1
  · exact h2
theorem need{p:Prop}[Decidable p]{k:Option α}(h:p→Aft k Q):Aft (Gv.need p k) Q:=fun y e=>by
  unfold Gv.need at e
  split at e
  · rename_i q;exact h q y e
  · cases e
end Aft
noncomputable section
variable (s:aC) (w:Int) (j:bX)
end
end Go.Gv
end
noncomputable section
namespace Go.Gv
theorem aGV{σ τ ρ ρ':Type}{f:σ→Option (Step σ ρ)}{g:τ→Option (Step τ ρ')}(sf:Nat→aC→σ)(tg:Nat→aC→τ)(rf:aC→ρ)(rg:aC→ρ'){m L:Nat}
    (hstep:∀k s,k < m→uN s→s.Log.length≤L+k→(∃s',f (sf k s)=some (.next (sf (k+1) s'))∧g (tg k s)=some (.next (tg (k+1) s'))∧uN s'∧s'.Log.length≤L+k+1)∨(f (sf k s)=some (.stop (rf s))∧g (tg k s)=some (.stop (rg s))))
    (hend:∀s,uN s→f (sf m s)=some (.stop (rf s))∧g (tg m s)=some (.stop (rg s))) :
    ∀d k,k+d=m→∀s,uN s→s.Log.length≤L+k→∃s',loop f (sf k s)=some (rf s')∧loop g (tg k s)=some (rg s')∧uN s'∧s'.Log.length≤L+m
  | 0, k, hk, s, hs, hl => by
    obtain rfl:k=m:=by omega
    exact⟨s,cA (hend s hs).1,cA (hend s hs).2,hs,hl⟩
  | d + 1, k, hk, s, hs, hl => by
    rcases hstep k s (by omega) hs hl with ⟨s',e1,e2,h1,h2⟩ | ⟨e1,e2⟩
    · obtain⟨x,f1,f2,f3,f4⟩:=aGV sf tg rf rg hstep hend d (k+1) (by omega) s' h1 (by omega)
      exact⟨x,(cM e1).trans f1,(cM e2).trans f2,f3,f4⟩
    · exact⟨s,cA e1,cA e2,hs,by omega⟩
end Go.Gv
end
noncomputable section
set_option maxRecDepth 20000
namespace Go.Gv
def uP(s:aC):Prop:=(∀j∈s.aT,j.gG=false)∧∀q∈s.cZ,q.gH=[]
instance (s:aC):Decidable (uP s):=by unfold uP;infer_instance
theorem WV{s:aC}(h1:s.aT.length≤maxLen)(h2:s.cZ.length≤maxLen):MJ s=some (decide (uP s)):=by
  have e1:loop (uY s) 0=some (if ∀j∈s.aT,j.gG=false then Out.brk () else Out.ret false):=
    iC (f := uY s) s.aT (fun k => (k : Int)) (fun j => j.gG = false) (.brk ()) (.ret false)
      (fun k hk hp=>by
        simp only [uY]
        rw [if_pos (by simp;omega),aX hk,gX (mF hk h1)]
        simp only [aI,hp,a9,if_false])
      (fun k hk hp=>by
        have hp':s.aT[k].gG=true:=by simpa using hp
        simp only [uY]
        rw [if_pos (by simp;omega),aX hk]
        simp only [aI,hp',if_true])
      (by simp [uY])
  have e2:loop (uX s) 0=some (if ∀q∈s.cZ,q.gH=[] then Out.brk () else Out.ret false):=
    iC (f := uX s) s.cZ (fun k => (k : Int)) (fun q => q.gH = []) (.brk ()) (.ret false)
      (fun k hk hp=>by
        simp only [uX]
        rw [if_pos (by simp;omega),aX hk,gX (mF hk h2)]
        simp [hp])
      (fun k hk hp=>by
        have hp':0 < s.cZ[k].gH.length:=List.length_pos_iff.2 hp
        simp only [uX]
        rw [if_pos (by simp;omega),aX hk]
        simp only [aI]
        rw [if_pos (by simp;omega)])
      (by simp [uX])
  unfold MJ
  rw [e1]
  by_cases a:∀j∈s.aT,j.gG=false
  · rw [if_pos a]
    simp only [aI,U6,U5]
    rw [e2]
    by_cases b:∀q∈s.cZ,q.gH=[]
    · rw [if_pos b,bE (p:=uP s) ⟨a,b⟩];rfl
    · rw [if_neg b,bL (p:=uP s) (fun h=>b h.2)];rfl
  · rw [if_neg a,bL (p:=uP s) (fun h=>a h.1)];rfl
theorem WW{s:aC}(h1:s.aT.length≤maxLen)(h2:s.cZ.length≤maxLen):HZ s=some (decide (uP s)):=by
  unfold HZ
  rw [WL h1 (fun j=>j.gG) (fun y0=>P6 y0) (fun x _=>rfl)]
  simp only [aI]
  rw [RS h2 (fun q=>decide (0 < (q.gH.length:Int))) (fun y0=>P7 y0) (fun x _=>rfl)]
  have ea:(s.aT.any fun j=>j.gG)=!decide (∀j∈s.aT,j.gG=false):=by
    rw [Bool.eq_iff_iff];simp
  have eb:(s.cZ.any fun q=>decide (0 < (q.gH.length:Int)))=!decide (∀q∈s.cZ,q.gH=[]):=by
    rw [Bool.eq_iff_iff];simp [List.length_pos_iff]
  rw [ea,eb]
  by_cases a:∀j∈s.aT,j.gG=false
  · rw [bE a]
    simp only [eF,kO,if_true,aI,G4,Bool.not_not]
    congr 1
    by_cases b:∀q∈s.cZ,q.gH=[]
    · rw [bE b,bE (p:=uP s) ⟨a,b⟩]
    · rw [bL b,bL (p:=uP s) (fun h=>b h.2)]
  · rw [bL a,bL (p:=uP s) (fun h=>a h.1)];rfl
theorem uN.lens{s:aC}(h:uN s):s.aT.length≤maxLen∧s.cZ.length≤maxLen:=by
  have h1:=h.2.2.1;have h2:=h.2.2.2.1.1
  simp only [maxLen];omega
theorem aFV{s:aC}(q:uN s)(hl:s.Log.length≤1060000):∃x,loop oQ (0,s)=some x∧loop o8 (0,s)=some x∧uN x∧x.Log.length≤s.Log.length+3000:=by
  obtain ⟨x, e1, e2, h1, h2⟩ := aGV (f := oQ) (g := o8) (fun k s => ((k : Int), s)) (fun k s => ((k : Int), s)) id id (m := 3000) (L := s.Log.length)
    (fun k t hk ht hL=>by
      have hw:0≤Int.tmod (k:Int) 3∧Int.tmod (k:Int) 3≤2:=by rw [uK (by omega)];omega
      obtain⟨y,f1,f2,f3,f4⟩:=WT ht (by omega) hw
      by_cases i:uP t
      · refine .inr ⟨?_,?_⟩
        · simp only [oQ,oP]
          rw [WV ht.lens.1 ht.lens.2,bE i];rfl
        · simp only [o8,o7]
          rw [if_pos (by simp;omega),WW ht.lens.1 ht.lens.2,bE i];rfl
      · refine .inl ⟨y,?_,?_,f3,by omega⟩
        · simp only [oQ,oP]
          rw [WV ht.lens.1 ht.lens.2,bL i]
          simp only [aI,kO,if_true]
          rw [if_pos (by simp;omega),f1,aR (by omega) (by omega)];rfl
        · simp only [o8,o7]
          rw [if_pos (by simp;omega),WW ht.lens.1 ht.lens.2,bL i]
          simp only [aI,kO,if_true]
          rw [f2,aR (by omega) (by omega)];rfl)
    (fun t ht=>by
      constructor
      · simp only [oQ,oP]
        rw [WV ht.lens.1 ht.lens.2]
        by_cases i:uP t
        · rw [bE i];rfl
        · rw [bL i];rfl
      · simp only [o8,o7]
        rw [if_neg (by simp)];rfl) 3000 0 (by omega) s q (by omega)
  exact⟨x,e1,e2,h1,h2⟩
theorem aGW{s:aC}(hs:qQ s):∃x,E4 s=some x∧KA s=some x∧(x=s∨(uN x∧x.Log.length≤s.Log.length+3000)):=by
  have hl:=hs.2.2.2.2.2
  unfold E4 KA
  rw [TX hs,L8 hs,aBG hs,aIE hs]
  simp only [aI]
  by_cases q:uN s
  · obtain⟨x,e1,e2,h1,h2⟩:=aFV q (by omega)
    simp only [bE q,eF,a9,if_false]
    rw [e1,e2]
    exact⟨x,rfl,rfl,.inr ⟨h1,h2⟩⟩
  · simp only [bL q,kO,if_true]
    exact⟨s,rfl,rfl,.inl rfl⟩
end Go.Gv
end
noncomputable section
set_option maxRecDepth 20000
namespace Go.Gv
def rU:eM:=⟨4,0,0,0⟩
theorem aRI{n:Nat}(hn:n≤12):∀d j:Nat,1≤j→j≤n→n≤j+d→loop kR (List.replicate j rU++List.replicate (n - j) ⟨0,0,0,0⟩,(j:Int))=some (List.replicate n rU):=by
  intro d
  induction d with
  | zero =>
    intro j h1 h2 h3
    obtain rfl:j=n:=by omega
    apply cA
    simp only [kR,Nat.sub_self,List.replicate_zero,List.append_nil,List.length_replicate]
    rw [if_neg (by simp)]
  | succ d ih =>
    intro j h1 h2 h3
    by_cases e:j=n
    · subst e
      apply cA
      simp only [kR,Nat.sub_self,List.replicate_zero,List.append_nil,List.length_replicate]
      rw [if_neg (by simp)]
    · have hl:(List.replicate j rU++List.replicate (n - j) (⟨0,0,0,0⟩:eM)).length=n:=by simp;omega
      have ht:((List.replicate j rU++List.replicate (n - j) (⟨0,0,0,0⟩:eM)).take j).drop 0=List.replicate j rU:=by simp [List.take_append,List.take_replicate]
      have hb:cY (List.replicate j rU++List.replicate (n - j) (⟨0,0,0,0⟩:eM)) j (List.replicate j rU)=List.replicate (j+min j (n - j)) rU++List.replicate (n - (j+min j (n - j))) ⟨0,0,0,0⟩:=by
        unfold cY
        rw [hl]
        simp only [List.take_append,List.take_replicate,List.drop_append,List.drop_replicate,List.length_replicate,Nat.min_self,Nat.sub_self,Nat.zero_min,List.replicate_zero,List.append_nil,Nat.min_comm (n - j) j]
        rw [show j - (j+j)=0 by omega,List.replicate_zero,List.nil_append,←List.append_assoc,List.replicate_append_replicate,show n - j - (j+j - j)=n - (j+min j (n - j)) by omega]
      rw [cM (s':=(List.replicate (j+min j (n - j)) rU++List.replicate (n - (j+min j (n - j))) ⟨0,0,0,0⟩,((j+min j (n - j):Nat):Int))) (by
        simp only [kR,hl,Int.toNat_natCast,ht,List.length_replicate]
        rw [if_pos (by simp;omega),aS (by omega),aS (by omega),hb,aR (by omega) (by omega)];rfl)]
      exact ih _ (by omega) (by omega) (by omega)
theorem aTN:((List.range 13).all fun n=>sA (IntKind.u64.wrap 1) (IntKind.u64.wrap (n:Int)) == some (0,(n:Int)))=true:=by kernel_rfl
theorem aRJ{n:Nat}(hn:n≤12):vJ [rU] (n:Int)=some (List.replicate n rU):=by
  have hb:sA (IntKind.u64.wrap 1) (IntKind.u64.wrap (n:Int))=some (0,(n:Int)):=by
    have:=List.all_eq_true.1 aTN n (List.mem_range.2 (by omega))
    exact eq_of_beq this
  unfold vJ nU
  rw [if_neg (by simp),show((([rU]:List eM).length:Int))=1 from rfl,hb]
  simp only [aI]
  rw [if_neg (by simp),bL (by omega),if_neg (by simp),wrap_i64 (by omega) (by omega),aS (by omega),Int.toNat_natCast]
  by_cases h0:n=0
  · subst h0
    rw [cA (r:=([]:List eM)) (by rfl)];rfl
  · have e1:cY (List.replicate n (⟨0,0,0,0⟩:eM)) 0 [rU]=List.replicate 1 rU++List.replicate (n - 1) ⟨0,0,0,0⟩:=by
      obtain⟨m,rfl⟩:∃m,n=m+1:=⟨n - 1,by omega⟩
      simp [cY,List.replicate_succ]
    have e2:((min ([rU]:List eM).length ((List.replicate n (⟨0,0,0,0⟩:eM):List eM).length - 0):Nat):Int)=((1:Nat):Int):=by simp;omega
    rw [e1,e2,aRI hn n 1 (by omega) (by omega) (by omega)];rfl
def WX(n k:Nat):List Queue:=List.replicate k ⟨List.replicate n rU⟩++List.replicate (3 - k) ⟨[]⟩
theorem aRK(n:Nat){k:Nat}(h:k≤3):(WX n k).length=3:=by simp [WX];omega
theorem aRL(n:Nat){k:Nat}(h:k < 3):(WX n k).set k ⟨List.replicate n rU⟩=WX n (k+1):=by
  rcases(by omega:k=0∨k=1∨k=2) with rfl | rfl | rfl <;> rfl
theorem aRM(n:Nat){k:Nat}(h:k < 3):(WX n k).set k ⟨[]⟩=WX n k:=by
  rcases(by omega:k=0∨k=1∨k=2) with rfl | rfl | rfl <;> rfl
def SP(s:aC)(n:Nat):aC:={s with cZ:=WX n 3}
theorem aTO{s:aC}(hs:uN s){n:Nat}(hn:n≤12):uN (SP s n):=by
  obtain⟨h1,h2,h3,h4,h5⟩:=hs
  refine⟨h1,h2,h3,⟨rfl,fun q hq=>?_⟩,h5⟩
  obtain rfl:q=⟨List.replicate n rU⟩:=by simpa [SP,WX] using hq
  refine⟨by simpa using hn,fun o ho=>?_⟩
  obtain rfl:=List.eq_of_mem_replicate ho
  decide
theorem aAR{s:aC}(hs:s.cZ=WX 0 3){n:Nat}(hn:n≤12):loop (lW (n:Int) s) (0,s)=some (SP s n):=by
  have hT:∀n,WX n 0=s.cZ:=fun n=>by rw [hs];rfl
  have hlen:s.cZ.length=3:=by rw [hs];rfl
  have:=lF (f:=lW (n:Int) s) 3 (fun k=>((k:Int),{s with cZ:=WX n k})) (SP s n) (fun k hk=>by
    have hi:idx (WX n k) (k:Int)=some ⟨[]⟩:=by
      rw [←aRM n hk,aX (by rw [List.length_set,aRK n (by omega)];exact hk),List.getElem_set_self]
    simp only [lW,zC,hlen]
    rw [if_pos (by simp;omega),hi,aI,show [(⟨4,0,0,0⟩:eM)]=[rU] from rfl,aRJ hn,aI,aS (by simp;omega),aR (by omega) (by omega),Int.toNat_natCast,List.nil_append,aRL n hk];rfl) (by simp [lW,hlen,SP])
  simp only [hT] at this
  exact this
theorem uP.todo{s:aC}(hs:uN s)(h:uP s):s.cZ=WX 0 3:=by
  apply List.ext_getElem
  · rw [hs.2.2.2.1.1];rfl
  · intro i h1 h2
    have:=h.2 _ (List.getElem_mem h1)
    have e:(WX 0 3)[i]=⟨[]⟩:=by
      have h3:i < 3:=h2
      rcases(by omega:i=0∨i=1∨i=2) with rfl | rfl | rfl <;> rfl
    rw [e]
    cases hq:s.cZ[i];rw [hq] at this;simp only at this;rw [this]
end Go.Gv
end
noncomputable section
namespace Go.Gv
theorem TY{s:aC}(hs:qQ s)(n:Int):rE s n=some (if uN s∧uP s∧0≤n∧n≤12 then SP s n.toNat else s):=by
  have hl:=hs.2.2.2.2.2
  have hM:∀{k:Nat},k≤1048576→k≤maxLen:=fun h=>by simp only [maxLen];omega
  unfold rE
  rw [L8 hs,aIE hs,WW (hM hs.2.2.1) (hM hs.2.2.2.1),dW]
  simp only [aI,lX]
  by_cases q:uN s
  · by_cases i:uP s
    · by_cases w:0≤n∧n≤12
      · obtain⟨m,rfl⟩:=Int.eq_ofNat_of_zero_le w.1
        have ht:=i.todo q
        simp only [bE q,bE i,bE w,eF,a9,if_false,aAR ht (show m≤12 by omega),aI,IK,IJ,if_pos (show uN s∧uP s∧0≤(m:Int)∧(m:Int)≤12 from ⟨q,i,w⟩),Int.toNat_natCast]
      · simp only [bE q,bE i,bL w,eF,kO,a9,if_false,if_true,if_neg (show ¬(uN s∧uP s∧0≤n∧n≤12) from fun h=>w h.2.2)]
    · simp only [bE q,bL i,eF,kO,a9,if_false,if_true,if_neg (show ¬(uN s∧uP s∧0≤n∧n≤12) from fun h=>i h.2.1)]
  · simp only [bL q,kO,if_true,if_neg (show ¬(uN s∧uP s∧0≤n∧n≤12) from fun h=>q h.1)]
theorem aJ6{code:List UInt8}(hl:code.length≤1048576):gW (oD code) (fun x=>qQ x.1∧x.1.Log.length≤10000):=by
  unfold oD NY
  refine .bind (aY7 hl) fun x1 h1=>.bind (P:=fun x=>(qQ x.1∧x.1.Log.length≤10000)∧Cu code x.2.1) ?_ fun x2 ⟨hs,h2⟩=>.bind (PH h2 (by decide) (by decide)) fun x3 _=>.ret hs
  refine .bind (aNV h1 (by omega)) fun y ⟨⟨hs,hl⟩,h2⟩=>.bind (aEA h2 (by omega)) fun z h3=>.ite (fun _=>.ret ⟨⟨hs,by (try simp only);omega⟩,h3⟩) fun _=>?_
  obtain⟨e,f1,_,f2⟩:=aGW hs
  rw [f1,aI]
  refine .ret ⟨show qQ e∧e.Log.length≤10000 from ?_,h3⟩
  rcases f2 with rfl | ⟨g1,g2⟩
  · exact⟨hs,by (try simp only);omega⟩
  · exact⟨FO g1 (by omega),by (try simp only);omega⟩
theorem X9{code:List UInt8}(_:fit code):CC code=some true:=by
  unfold CC aCT
  rw [aI]
  by_cases hcl:1048576 < (code.length:Int)
  · rw [if_pos (by simpa using hcl)]
  rw [if_neg (by simpa using hcl)]
  obtain⟨⟨s,n⟩,ex,hsm,hl⟩:=aJ6 (code:=code) (by omega)
  simp only at hsm hl
  have hM:∀{k:Nat},k≤1048576→k≤maxLen:=fun h=>by simp only [maxLen];omega
  rw [ex,aI,TY hsm,aI,aBG hsm,aI]
  have no:¬(uN s∧uP s∧0≤n∧n≤12)→fE (s,n) true s (if uN s∧uP s∧0≤n∧n≤12 then SP s n.toNat else s)=some true:=fun q=>by
    unfold fE
    rw [if_neg q,if_pos rfl,RV hsm];rfl
  by_cases hs:uN s
  rotate_left
  · rw [bL hs,if_pos (by simp)];exact no (fun q=>hs q.1)
  rw [bE hs,if_neg (by simp),WV (hM hsm.2.2.1) (hM hsm.2.2.2.1),aI]
  by_cases hi:uP s
  rotate_left
  · rw [bL hi,if_pos (by simp)];exact no (fun q=>hi q.2.1)
  rw [bE hi,if_neg (by simp)]
  by_cases n0:n < 0
  · rw [if_pos (by simpa using n0)];exact no (fun q=>by omega)
  rw [if_neg (by simpa using n0)]
  by_cases n3:12 < n
  · rw [bE n3];exact no (fun q=>by omega)
  rw [bL n3,if_pos ⟨hs,hi,by omega,by omega⟩]
  obtain⟨m,rfl⟩:=Int.eq_ofNat_of_zero_le (show 0≤n by omega)
  have hm:m≤12:=by omega
  rw [Int.toNat_natCast]
  have ht:=hi.todo hs
  have hx:=aTO hs hm
  have hxl:(SP s m).Log.length≤10000:=hl
  have hxs:=FO hx (by omega)
  have hxt:(SP s m).cZ=[⟨List.replicate m rU⟩,⟨List.replicate m rU⟩,⟨List.replicate m rU⟩]:=rfl
  have hT:∀k:Nat,k < 3→idx (SP s m).cZ (k:Int)=some ⟨List.replicate m rU⟩:=fun k hk=>by
    rw [hxt]
    rcases(by omega:k=0∨k=1∨k=2) with rfl | rfl | rfl <;> rfl
  unfold fE
  rw [if_neg (by simp),hxt]
  rw [if_neg (by simp)]
  have k2:loop (jS (s,(m:Int))) (0,s,SP s m)=some (Out.brk (s,SP s m)):=lF (f:=jS (s,(m:Int))) 3 (fun k=>((k:Int),s,SP s m)) _ (fun k hk=>by
    have hin:loop (jR (s,(m:Int)) (k:Int) s (SP s m)) 0=some (Out.brk (s,SP s m)):=lF (f:=jR (s,(m:Int)) (k:Int) s (SP s m)) m (fun j=>(j:Int)) _ (fun j hj=>by
      have e:idx (List.replicate m rU) (j:Int)=some ⟨4,0,0,0⟩:=by rw [aX (by simpa using hj),List.getElem_replicate];rfl
      simp only [jR]
      rw [if_pos (by simp;omega),hT k hk,aI,e,aI]
      simp only [decide_true,eF,a9,if_false]
      rw [aR (by omega) (by omega)];rfl) (by simp [jR])
    simp only [jS]
    rw [if_pos (by simp;omega),hT k hk,aI]
    simp only [List.length_replicate,bne_self_eq_false,a9,if_false,hin,aI,FH,FG]
    rw [aR (by omega) (by omega)];rfl) (by simp [jS])
  rw [k2,aI]
  simp only [FI,FF,aBG hxs,bE hx,aI,if_true]
  obtain⟨y,f1,f2,f3⟩:=aGW hxs
  have hys:qQ y:=by
    rcases f3 with rfl | ⟨g1,g2⟩
    · exact hxs
    · exact FO g1 (by omega)
  have hd:NR s (m:Int)=some y:=by
    unfold NR
    rw [TY hsm,aI,if_pos ⟨hs,hi,by omega,by omega⟩,Int.toNat_natCast,f2];rfl
  rw [hd,aI,f1,aI,RV hys,aI,if_pos rfl,WW hx.lens.1 hx.lens.2,aI]
  simp only [jQ]
  congr 1
  rw [beq_iff_eq,Bool.eq_iff_iff,decide_eq_true_iff,beq_iff_eq]
  constructor
  · intro h
    have:=h.2 ⟨List.replicate m rU⟩ (by rw [hxt];simp)
    simp only at this
    have:=congrArg List.length this
    simp at this
    omega
  · intro h
    have h0:m=0:=by omega
    subst h0
    exact⟨hi.1,fun q hq=>by rw [hxt] at hq;simp at hq;rw [hq]⟩
end Go.Gv
end
noncomputable section
namespace Go.Gv
def aWF(z:List Int)(h:Int):Prop:=∀v:Int,0≤v∧v≤2→aXV z v≠h
def aX6(e:Int)(z:List Int)(r:b8):Prop:=aRC r e∧aWF z r.Handle
def aRN(m:Mem)(r:b8):Prop:=0≤bK m.aE (r.Handle % 32)∧r.Handle / 32 < nM m.aE (r.Handle % 32)
theorem aRN.not{m:Mem}{r:b8}(h:aRN m r):¬wA m r.Handle:=fun l=>by have:=l.2.2;have:=h.2;omega
structure Gc (w:Int) (b b':aD) (row out:Int):Prop where
  kept:∀j:Nat,(j:Int) < row→∀hj:j < (UL b'.bB w).length,¬aX6 b.aK.aM b.lZ (UL b'.bB w)[j]
  len:((UL b'.bB w).length:Int)+out=(UL b.bB w).length
  flat:((bT b'.bB).length:Int)+out=(bT b.bB).length
  gone:∀r∈UL b.bB w,r∈UL b'.bB w∨aRN b'.Mem r
  used:∀i:Nat,i < 24→(aRD b' i=4↔aRD b i=4)
  cls:∀t,bK b'.Mem.aE t=bK b.Mem.aE t
  pos:0≤out
noncomputable section
variable {w:Int} (hw:0≤w∧w≤2) {b b':aD} (hL0:(UL b.bB w).length≤24) {s:Sub} (hd:s.cQ=false)
include hw hL0 hd
end
end Go.Gv
end
